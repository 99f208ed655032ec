/- Layer 8, the reference: the check of programs. -/
import Derived.Test.YthackfblfkpddaaL08b
namespace Go.Proofs.Ythackfblfkpddaa
open Go.RowKit
set_option linter.unusedSimpArgs false
set_option linter.unusedVariables false

set_option maxRecDepth 100000 in
set_option maxHeartbeats 2000000 in
theorem ref08_calls (p : Pr) (f : Fn) (pv v1 v2 : Value) (w : World) {F F1 F2 : Nat → Prop} (hp : Sl F w pv p.funcs) (h1 : Sl F1 w v1 f.locals) (h2 : Sl F2 w v2 f.blocks) (hju : ∀ b ∈ f.blocks, juErr b.jump = 0) :
    Calls Try.prog 42 #[p.v pv, f.v v1 v2] w (Ret w (.bool (f.blocks.all (callB p.funcs)))) := by
  obtain ⟨a, n, cap, rfl, Hn, hm, hcap, hcm, hp⟩ := hp.open
  obtain ⟨a1, n1, cap1, rfl, Hn1, hm1, hcap1, hcm1, h1⟩ := h1.open
  obtain ⟨a2, n2, cap2, rfl, Hn2, hm2, hcap2, hcm2, h2⟩ := h2.open
  have Hju := Lib.hid hju; clear hju
  go_enter Try.func42, Try.ntmps42
  go_wp2_with fail
  go_loopw [5] (fun i wr => ∃ (k : Nat), k ≤ n2 ∧ i = .int .i64 k ∧ Grow ((w.alloc (Obj.cells #[.slice a n cap] 43)).alloc (Obj.cells #[.int .i64 f.params, .bool f.uns, .slice a1 n1 cap1, .slice a2 n2 cap2] 50)) wr ∧ Hid ((f.blocks.take k).all (callB p.funcs) = true)) (fun i _ => n2 - (intOf i).toNat)
  case atStart => exact ⟨0, Nat.zero_le _, rfl, (by (repeat (first | (with_reducible exact Grow.refl _) | assumption | refine Grow.ext ?_ _ | refine Grow.alloc ?_ _ | refine Grow.drew ?_ | refine Grow.setCell ?_ (by first | (simp; done) | (simp; omega)) _ | refine Grow.trans ?_ (by assumption)))), rfl⟩
  case round =>
    obtain ⟨k, hk, rfl, hb1, Ha⟩ := hrel
    obtain ⟨y1, rfl⟩ := ext_of_grow hb1
    by_cases hlt : k < n2
    · obtain ⟨b_x, off_x, x, x_stmts_a, x_stmts_n, x_stmts_c, x_jump_args_a, x_jump_args_n, x_jump_args_c, rfl, ⟨Hg_x, hl_x, hw_x, x_stmts, x_jump_args, c_x0, c_x1, c_x2, c_x3, c_x4, c_x5, c_x6, c_x7, c_x8, c_x9, c_x10, c_x11, c_x12, c_x13, r_x0, r_x1, r_x2, r_x3, r_x4⟩⟩ := h2.bk k hlt
      have HG := Lib.hid (Hju.out x (List.mem_of_getElem? Hg_x.out))
      have Hna := Lib.hid x_jump_args.len
      by_cases h4 : x.jump.kind = 4
      · have Hf0 := Lib.hid (ju_fn0 HG.out h4)
        have H4 := Lib.hid h4
        obtain ⟨stmts, ⟨kind, oa, fn, next, els, args, dest⟩⟩ := x
        obtain ⟨q, rfl⟩ := Int.eq_ofNat_of_zero_le Hf0.out
        replace h4 : (kind == 4) = true := by have := H4.out; simp; exact this
        by_cases hlt2 : q < n
        · have hge : decide (n ≤ q) = false := by simp; omega
          obtain ⟨b_g, off_g, g, g_locals_a, g_locals_n, g_locals_c, g_blocks_a, g_blocks_n, g_blocks_c, rfl, ⟨Hg_g, hl_g, hw_g, g_locals, g_blocks, c_g0, c_g1, c_g2, c_g3, r_g0⟩⟩ := hp.fn q hlt2
          have Hc : Hid (callB p.funcs ⟨stmts, ⟨kind, oa, q, next, els, args, dest⟩⟩ = !((x_jump_args_n : Int) != g.params)) := Lib.hid (by
            have e1 : kind = 4 := H4.out
            have e2 := Hn.out; have e3 : x_jump_args_n = args.length := Hna.out
            unfold callB; simp only [e1, decide_true, Bool.not_true, Bool.false_or, ← e2, ← e3]
            have e4 : p.funcs.getD ((q : Int).toNat) fnz = g := by rw [List.getD_eq_getElem?_getD, show (q : Int).toNat = q from rfl, Hg_g.out]; rfl
            rw [e4]; simp [hlt2, bne]; rfl)
          cases hpar : ((x_jump_args_n : Int) != g.params)
          · go_wp2_with fail
            (refine wp_region_ext (by kernel_rfl) (by kernel_rfl) ?_; (repeat (any_goals (first | go_big_quiet_step (first | fail) | (refine wpQuiet_step (fun K hK => ?_); go_simp; split <;> (refine hK _ ?_; clear hK K))))); all_goals (refine wpQuiet_nil ?_; intro w2 hb2; obtain ⟨x2, rfl⟩ := ext_of_grow hb2; clear hb2))
            go_wp2_with fail
            go_roundw
            case rel => exact ⟨k + 1, by omega, by go_num, (by (repeat (first | (with_reducible exact Grow.refl _) | assumption | refine Grow.ext ?_ _ | refine Grow.alloc ?_ _ | refine Grow.drew ?_ | refine Grow.setCell ?_ (by first | (simp; done) | (simp; omega)) _ | refine Grow.trans ?_ (by assumption)))), all_step Hg_x Ha (by rw [Hc.out, hpar]; rfl)⟩
            case measure => simp [intOf]; omega
          · go_wp2_with fail
            (refine wp_region_ext (by kernel_rfl) (by kernel_rfl) ?_; (repeat (any_goals (first | go_big_quiet_step (first | fail) | (refine wpQuiet_step (fun K hK => ?_); go_simp; split <;> (refine hK _ ?_; clear hK K))))); all_goals (refine wpQuiet_nil ?_; intro w2 hb2; obtain ⟨x2, rfl⟩ := ext_of_grow hb2; clear hb2))
            go_wp2_with fail
            go_ret
            exact Ret.bool (by rw [all_not Hg_x (by rw [Hc.out, hpar]; rfl)]) (by (repeat (first | (with_reducible exact Grow.refl _) | assumption | refine Grow.ext ?_ _ | refine Grow.alloc ?_ _ | refine Grow.drew ?_ | refine Grow.setCell ?_ (by first | (simp; done) | (simp; omega)) _ | refine Grow.trans ?_ (by assumption))))
        · have hge : decide (n ≤ q) = true := by simp; omega
          have Hc : Hid (callB p.funcs ⟨stmts, ⟨kind, oa, q, next, els, args, dest⟩⟩ = false) := Lib.hid (by
            have e2 := Hn.out; have e1 : kind = 4 := H4.out
            unfold callB; simp [e1, ← e2]; intro h; omega)
          go_wp2_with fail
          (refine wp_region_ext (by kernel_rfl) (by kernel_rfl) ?_; (repeat (any_goals (first | go_big_quiet_step (first | fail) | (refine wpQuiet_step (fun K hK => ?_); go_simp; split <;> (refine hK _ ?_; clear hK K))))); all_goals (refine wpQuiet_nil ?_; intro w2 hb2; obtain ⟨x2, rfl⟩ := ext_of_grow hb2; clear hb2))
          go_wp2_with fail
          go_ret
          exact Ret.bool (by rw [all_not Hg_x Hc.out]) (by (repeat (first | (with_reducible exact Grow.refl _) | assumption | refine Grow.ext ?_ _ | refine Grow.alloc ?_ _ | refine Grow.drew ?_ | refine Grow.setCell ?_ (by first | (simp; done) | (simp; omega)) _ | refine Grow.trans ?_ (by assumption))))
      · have H4 := Lib.hid h4
        replace h4 : (x.jump.kind == 4) = false := by simp [h4]
        go_wp2_with fail
        (refine wp_region_ext (by kernel_rfl) (by kernel_rfl) ?_; (repeat (any_goals (first | go_big_quiet_step (first | fail) | (refine wpQuiet_step (fun K hK => ?_); go_simp; split <;> (refine hK _ ?_; clear hK K))))); all_goals (refine wpQuiet_nil ?_; intro w2 hb2; obtain ⟨x2, rfl⟩ := ext_of_grow hb2; clear hb2))
        go_wp2_with fail
        go_roundw
        case rel => exact ⟨k + 1, by omega, by go_num, (by (repeat (first | (with_reducible exact Grow.refl _) | assumption | refine Grow.ext ?_ _ | refine Grow.alloc ?_ _ | refine Grow.drew ?_ | refine Grow.setCell ?_ (by first | (simp; done) | (simp; omega)) _ | refine Grow.trans ?_ (by assumption)))), all_step Hg_x Ha (by unfold callB; simp [H4.out])⟩
        case measure => simp [intOf]; omega
    · go_wp2_with fail
      go_ret
      exact Ret.bool (by rw [all_end Hn2 (by omega) Ha]) (by (repeat (first | (with_reducible exact Grow.refl _) | assumption | refine Grow.ext ?_ _ | refine Grow.alloc ?_ _ | refine Grow.drew ?_ | refine Grow.setCell ?_ (by first | (simp; done) | (simp; omega)) _ | refine Grow.trans ?_ (by assumption))))

set_option maxRecDepth 100000 in
set_option maxHeartbeats 2000000 in
theorem ref08_Check (p : Pr) (pv : Value) (w : World) {F : Nat → Prop} (hp : Sl F w pv p.funcs) :
    Calls Try.prog 15 #[p.v pv] w (Ret w (.int .i64 (prErr p))) := by
  obtain ⟨a, n, cap, rfl, Hn, hm, hcap, hcm, hp⟩ := hp.open
  by_cases hn8 : 8 < n
  · go_enter Try.func15, Try.ntmps15
    go_wp2_with fail
    go_ret
    exact Ret.int (by unfold prErr; rw [← Hn.out, if_pos hn8]) (by (repeat (first | (with_reducible exact Grow.refl _) | assumption | refine Grow.ext ?_ _ | refine Grow.alloc ?_ _ | refine Grow.drew ?_ | refine Grow.setCell ?_ (by first | (simp; done) | (simp; omega)) _ | refine Grow.trans ?_ (by assumption))))
  · by_cases hn0 : n = 0
    · have hn0' : ((n : Int) == 0) = true := by simp [hn0]
      go_enter Try.func15, Try.ntmps15
      go_wp2_with fail
      go_ret
      exact Ret.int (by unfold prErr; rw [← Hn.out, if_neg hn8, if_pos hn0]) (by (repeat (first | (with_reducible exact Grow.refl _) | assumption | refine Grow.ext ?_ _ | refine Grow.alloc ?_ _ | refine Grow.drew ?_ | refine Grow.setCell ?_ (by first | (simp; done) | (simp; omega)) _ | refine Grow.trans ?_ (by assumption))))
    · have hn0' : ((n : Int) == 0) = false := by simp [hn0]
      have Hpr : Hid (prErr p = if fnsErr p.funcs ≠ 0 then fnsErr p.funcs else if inputsB (p.funcs.getD 0 fnz) && callsB p then 0 else 8) := Lib.hid (by unfold prErr; rw [← Hn.out, if_neg hn8, if_neg hn0])
      go_enter Try.func15, Try.ntmps15
      go_wp2_with fail
      go_loopw [3] (fun i wr => ∃ (k : Nat), k ≤ n ∧ i = .int .i64 k ∧ Grow (w.alloc (Obj.cells #[.slice a n cap] 43)) wr ∧ Hid (fnsErr p.funcs = fnsErr (p.funcs.drop k))) (fun i _ => n - (intOf i).toNat)
      case atStart => exact ⟨0, Nat.zero_le _, rfl, (by (repeat (first | (with_reducible exact Grow.refl _) | assumption | refine Grow.ext ?_ _ | refine Grow.alloc ?_ _ | refine Grow.drew ?_ | refine Grow.setCell ?_ (by first | (simp; done) | (simp; omega)) _ | refine Grow.trans ?_ (by assumption)))), rfl⟩
      case round =>
        obtain ⟨k, hk, rfl, hb1, Ha⟩ := hrel
        obtain ⟨y1, rfl⟩ := ext_of_grow hb1
        by_cases hlt : k < n
        · obtain ⟨b_f, off_f, f, f_locals_a, f_locals_n, f_locals_c, f_blocks_a, f_blocks_n, f_blocks_c, rfl, ⟨Hg_f, hl_f, hw_f, f_locals, f_blocks, c_f0, c_f1, c_f2, c_f3, r_f0⟩⟩ := hp.fn k hlt
          have Hd : Hid (fnsErr (p.funcs.drop k) = if fnErr f ≠ 0 then fnErr f else fnsErr (p.funcs.drop (k + 1))) := Lib.hid (by rw [drop_cons Hg_f, fnsErr])
          cases he : (fnErr f != 0)
          · go_wp2_with (first | (go_at_call 41; ((with_reducible refine (ref07_Check f _ _ _ hw_f (f_locals.mono (by (repeat (first | (with_reducible exact Grow.refl _) | assumption | refine Grow.ext ?_ _ | refine Grow.alloc ?_ _ | refine Grow.drew ?_ | refine Grow.setCell ?_ (by first | (simp; done) | (simp; omega)) _ | refine Grow.trans ?_ (by assumption))))) (f_blocks.mono (by (repeat (first | (with_reducible exact Grow.refl _) | assumption | refine Grow.ext ?_ _ | refine Grow.alloc ?_ _ | refine Grow.drew ?_ | refine Grow.setCell ?_ (by first | (simp; done) | (simp; omega)) _ | refine Grow.trans ?_ (by assumption)))))).mono ?_); rintro e w2 ⟨rfl, hb2⟩; obtain ⟨x2, rfl⟩ := ext_of_grow hb2; clear hb2)))
            go_roundw
            case rel => exact ⟨k + 1, by omega, by go_num, (by (repeat (first | (with_reducible exact Grow.refl _) | assumption | refine Grow.ext ?_ _ | refine Grow.alloc ?_ _ | refine Grow.drew ?_ | refine Grow.setCell ?_ (by first | (simp; done) | (simp; omega)) _ | refine Grow.trans ?_ (by assumption)))), Lib.hid (by rw [Ha.out, Hd.out, if_neg (by simpa using he)])⟩
            case measure => simp [intOf]; omega
          · go_wp2_with (first | (go_at_call 41; ((with_reducible refine (ref07_Check f _ _ _ hw_f (f_locals.mono (by (repeat (first | (with_reducible exact Grow.refl _) | assumption | refine Grow.ext ?_ _ | refine Grow.alloc ?_ _ | refine Grow.drew ?_ | refine Grow.setCell ?_ (by first | (simp; done) | (simp; omega)) _ | refine Grow.trans ?_ (by assumption))))) (f_blocks.mono (by (repeat (first | (with_reducible exact Grow.refl _) | assumption | refine Grow.ext ?_ _ | refine Grow.alloc ?_ _ | refine Grow.drew ?_ | refine Grow.setCell ?_ (by first | (simp; done) | (simp; omega)) _ | refine Grow.trans ?_ (by assumption)))))).mono ?_); rintro e w2 ⟨rfl, hb2⟩; obtain ⟨x2, rfl⟩ := ext_of_grow hb2; clear hb2)))
            go_ret
            refine Ret.int ?_ (by (repeat (first | (with_reducible exact Grow.refl _) | assumption | refine Grow.ext ?_ _ | refine Grow.alloc ?_ _ | refine Grow.drew ?_ | refine Grow.setCell ?_ (by first | (simp; done) | (simp; omega)) _ | refine Grow.trans ?_ (by assumption))))
            have q : fnErr f ≠ 0 := by simpa using he
            have e : fnsErr p.funcs = fnErr f := by rw [Ha.out, Hd.out, if_pos q]
            rw [Hpr.out, e, if_pos q]
        · have H0 : Hid (fnsErr p.funcs = 0) := Lib.hid (by rw [Ha.out, drop_all Hn (by omega)]; rfl)
          clear Ha
          have Hgood : Hid (∀ f ∈ p.funcs, fnErr f = 0) := Lib.hid (fnsErr_all H0.out)
          have Hpr2 : Hid (prErr p = if inputsB (p.funcs.getD 0 fnz) && callsB p then 0 else 8) := Lib.hid (by rw [Hpr.out, H0.out]; simp)
          have Hju : Hid (∀ f ∈ p.funcs, ∀ b ∈ f.blocks, juErr b.jump = 0) := Lib.hid (fun f hf b hb => (made_all (fn_good (Hgood.out f hf)).2.1 hb).2)
          clear Hpr H0
          go_wp2_with fail
          go_loopw [4] (fun i wr => ∃ (k : Nat), k ≤ n ∧ i = .int .i64 k ∧ Grow (w.alloc (Obj.cells #[.slice a n cap] 43)) wr ∧ Hid ((p.funcs.take k).all (fun f => f.blocks.all (callB p.funcs)) = true)) (fun i _ => n - (intOf i).toNat)
          case atStart => exact ⟨0, Nat.zero_le _, rfl, (by (repeat (first | (with_reducible exact Grow.refl _) | assumption | refine Grow.ext ?_ _ | refine Grow.alloc ?_ _ | refine Grow.drew ?_ | refine Grow.setCell ?_ (by first | (simp; done) | (simp; omega)) _ | refine Grow.trans ?_ (by assumption)))), rfl⟩
          case round =>
            obtain ⟨k2, hk2, rfl, hb2, Ha⟩ := hrel
            obtain ⟨y2, rfl⟩ := ext_of_grow hb2
            by_cases hlt2 : k2 < n
            · obtain ⟨b_f, off_f, f, f_locals_a, f_locals_n, f_locals_c, f_blocks_a, f_blocks_n, f_blocks_c, rfl, ⟨Hg_f, hl_f, hw_f, f_locals, f_blocks, c_f0, c_f1, c_f2, c_f3, r_f0⟩⟩ := hp.fn k2 hlt2
              have Hjf := Lib.hid (Hju.out f (List.mem_of_getElem? Hg_f.out))
              cases hc : f.blocks.all (callB p.funcs)
              · go_wp2_with fail
                (refine wp_region_ext (by kernel_rfl) (by kernel_rfl) ?_; (repeat (any_goals (first | go_big_quiet_step (first | (go_at_call 42; refine ext_call (ref08_calls p f _ _ _ _ (hp.mono (by (repeat (first | (with_reducible exact Grow.refl _) | assumption | refine Grow.ext ?_ _ | refine Grow.alloc ?_ _ | refine Grow.drew ?_ | refine Grow.setCell ?_ (by first | (simp; done) | (simp; omega)) _ | refine Grow.trans ?_ (by assumption))))) (f_locals.mono (by (repeat (first | (with_reducible exact Grow.refl _) | assumption | refine Grow.ext ?_ _ | refine Grow.alloc ?_ _ | refine Grow.drew ?_ | refine Grow.setCell ?_ (by first | (simp; done) | (simp; omega)) _ | refine Grow.trans ?_ (by assumption))))) (f_blocks.mono (by (repeat (first | (with_reducible exact Grow.refl _) | assumption | refine Grow.ext ?_ _ | refine Grow.alloc ?_ _ | refine Grow.drew ?_ | refine Grow.setCell ?_ (by first | (simp; done) | (simp; omega)) _ | refine Grow.trans ?_ (by assumption))))) Hjf.out))) | (refine wpQuiet_step (fun K hK => ?_); go_simp; split <;> (refine hK _ ?_; clear hK K))))); all_goals (refine wpQuiet_nil ?_; intro w3 hb3; obtain ⟨x3, rfl⟩ := ext_of_grow hb3; clear hb3))
                go_wp2_with fail
                go_ret
                refine Ret.int ?_ (by (repeat (first | (with_reducible exact Grow.refl _) | assumption | refine Grow.ext ?_ _ | refine Grow.alloc ?_ _ | refine Grow.drew ?_ | refine Grow.setCell ?_ (by first | (simp; done) | (simp; omega)) _ | refine Grow.trans ?_ (by assumption))))
                have e : callsB p = false := all_not Hg_f hc
                rw [Hpr2.out, e]; simp
              · go_wp2_with fail
                (refine wp_region_ext (by kernel_rfl) (by kernel_rfl) ?_; (repeat (any_goals (first | go_big_quiet_step (first | (go_at_call 42; refine ext_call (ref08_calls p f _ _ _ _ (hp.mono (by (repeat (first | (with_reducible exact Grow.refl _) | assumption | refine Grow.ext ?_ _ | refine Grow.alloc ?_ _ | refine Grow.drew ?_ | refine Grow.setCell ?_ (by first | (simp; done) | (simp; omega)) _ | refine Grow.trans ?_ (by assumption))))) (f_locals.mono (by (repeat (first | (with_reducible exact Grow.refl _) | assumption | refine Grow.ext ?_ _ | refine Grow.alloc ?_ _ | refine Grow.drew ?_ | refine Grow.setCell ?_ (by first | (simp; done) | (simp; omega)) _ | refine Grow.trans ?_ (by assumption))))) (f_blocks.mono (by (repeat (first | (with_reducible exact Grow.refl _) | assumption | refine Grow.ext ?_ _ | refine Grow.alloc ?_ _ | refine Grow.drew ?_ | refine Grow.setCell ?_ (by first | (simp; done) | (simp; omega)) _ | refine Grow.trans ?_ (by assumption))))) Hjf.out))) | (refine wpQuiet_step (fun K hK => ?_); go_simp; split <;> (refine hK _ ?_; clear hK K))))); all_goals (refine wpQuiet_nil ?_; intro w3 hb3; obtain ⟨x3, rfl⟩ := ext_of_grow hb3; clear hb3))
                go_wp2_with fail
                go_roundw
                case rel => exact ⟨k2 + 1, by omega, by go_num, (by (repeat (first | (with_reducible exact Grow.refl _) | assumption | refine Grow.ext ?_ _ | refine Grow.alloc ?_ _ | refine Grow.drew ?_ | refine Grow.setCell ?_ (by first | (simp; done) | (simp; omega)) _ | refine Grow.trans ?_ (by assumption)))), all_step Hg_f Ha hc⟩
                case measure => simp [intOf]; omega
            · have Hca : Hid (callsB p = true) := Lib.hid (all_end Hn (by omega) Ha)
              clear Ha
              obtain ⟨b_g, off_g, g, g_locals_a, g_locals_n, g_locals_c, g_blocks_a, g_blocks_n, g_blocks_c, rfl, ⟨Hg_g, hl_g, hw_g, g_locals, g_blocks, c_g0, c_g1, c_g2, c_g3, r_g0⟩⟩ := hp.fn 0 (by omega)
              simp only [Nat.zero_mul, Nat.add_zero] at c_g0 c_g1 c_g2 c_g3 r_g0
              have Hgg := Lib.hid (fn_good (Hgood.out g (List.mem_of_getElem? Hg_g.out)))
              have Hpar := Lib.hid (made_par Hgg.out.2.1)
              have Hg0 : Hid (p.funcs.getD 0 fnz = g) := Lib.hid (by rw [List.getD_eq_getElem?_getD, Hg_g.out]; rfl)
              have Hlen := Lib.hid g_locals.len
              have Hty : Hid (∀ t ∈ g.locals, TyOk t) := Lib.hid (by
                have h := Hgg.out.2.1; unfold madeB fnHead at h; simp only [Bool.and_eq_true, List.all_eq_true, decide_eq_true_eq] at h
                exact h.1.1.1.2)
              obtain ⟨par, uns, locals, blocks⟩ := g
              obtain ⟨q, rfl⟩ := Int.eq_ofNat_of_zero_le Hpar.out.1
              have hql : q + 1 ≤ g_locals_n := by have h1 : (q : Int) < (locals.length : Int) := Hpar.out.2.2; have h2 : g_locals_n = locals.length := Hlen.out; omega
              have hq8 : q ≤ 8 := by have h1 : (q : Int) ≤ 8 := Hpar.out.2.1; omega
              have Hin : Hid (inputsB ⟨(q : Int), uns, locals, blocks⟩ = ((locals.drop 1).take q).all isInt) := Lib.hid rfl
              go_wp2_with fail
              go_loopw [6] (fun i wr => ∃ (k : Nat), 1 ≤ k ∧ k ≤ q + 1 ∧ i = .int .i64 k ∧ Grow ((ext (w.alloc (Obj.cells #[.slice (some ⟨b_g, off_g, none⟩) n cap] 43)) y2).alloc (.cells #[.int .i64 (q : Int), .bool uns, .slice g_locals_a g_locals_n g_locals_c, .slice g_blocks_a g_blocks_n g_blocks_c] 50)) wr ∧ Hid (((locals.drop 1).take (k - 1)).all isInt = true)) (fun i _ => q + 1 - (intOf i).toNat)
              case atStart => exact ⟨1, Nat.le_refl _, by omega, rfl, (by (repeat (first | (with_reducible exact Grow.refl _) | assumption | refine Grow.ext ?_ _ | refine Grow.alloc ?_ _ | refine Grow.drew ?_ | refine Grow.setCell ?_ (by first | (simp; done) | (simp; omega)) _ | refine Grow.trans ?_ (by assumption)))), Lib.hid rfl⟩
              case round =>
                obtain ⟨k3, hk30, hk3, rfl, hb3, Ha⟩ := hrel
                obtain ⟨y3, rfl⟩ := ext_of_grow hb3
                by_cases hlt3 : k3 ≤ q
                · have hlt4 : k3 < g_locals_n := by omega
                  obtain ⟨b_t, off_t, t, rfl, ⟨Hg_t, hl_t, hw_t, c_t0, c_t1, r_t0⟩⟩ := g_locals.ty k3 hlt4
                  have Htk := Lib.hid (Hty.out t (List.mem_of_getElem? Hg_t.out))
                  have Hgd : Hid ((locals.drop 1)[k3 - 1]? = some t) := Lib.hid (by rw [List.getElem?_drop, show 1 + (k3 - 1) = k3 by omega]; exact Hg_t.out)
                  have Hi : Hid (isInt t = !(t.kind != 1)) := Lib.hid (by
                    have q := Htk.out; unfold isInt; by_cases z : t.kind = 1
                    · have : t.to = 0 := by omega
                      simp [z, this]
                    · simp [z])
                  cases hkd : (t.kind != 1)
                  · go_wp2_with fail
                    go_roundw
                    case rel => exact ⟨k3 + 1, by omega, by omega, by go_num, (by (repeat (first | (with_reducible exact Grow.refl _) | assumption | refine Grow.ext ?_ _ | refine Grow.alloc ?_ _ | refine Grow.drew ?_ | refine Grow.setCell ?_ (by first | (simp; done) | (simp; omega)) _ | refine Grow.trans ?_ (by assumption)))), Lib.hid (by rw [show k3 + 1 - 1 = (k3 - 1) + 1 by omega]; exact all_step Hgd Ha (by rw [Hi.out, hkd]; rfl))⟩
                    case measure => simp [intOf]; omega
                  · go_wp2_with fail
                    go_ret
                    refine Ret.int ?_ (by (repeat (first | (with_reducible exact Grow.refl _) | assumption | refine Grow.ext ?_ _ | refine Grow.alloc ?_ _ | refine Grow.drew ?_ | refine Grow.setCell ?_ (by first | (simp; done) | (simp; omega)) _ | refine Grow.trans ?_ (by assumption))))
                    have e : ((locals.drop 1).take q).all isInt = false := by
                      refine all_not (k := k3 - 1) (x := t) (Lib.hid ?_) (by rw [Hi.out, hkd]; rfl)
                      rw [List.getElem?_take_of_lt (by omega)]; exact Hgd.out
                    rw [Hpr2.out, Hg0.out, Hin.out, e]; simp
                · go_wp2_with fail
                  go_ret
                  refine Ret.int ?_ (by (repeat (first | (with_reducible exact Grow.refl _) | assumption | refine Grow.ext ?_ _ | refine Grow.alloc ?_ _ | refine Grow.drew ?_ | refine Grow.setCell ?_ (by first | (simp; done) | (simp; omega)) _ | refine Grow.trans ?_ (by assumption))))
                  have e : ((locals.drop 1).take q).all isInt = true := by have := Ha.out; rw [show k3 - 1 = q by omega] at this; exact this
                  rw [Hpr2.out, Hg0.out, Hin.out, e, Hca.out]; simp
end Go.Proofs.Ythackfblfkpddaa
