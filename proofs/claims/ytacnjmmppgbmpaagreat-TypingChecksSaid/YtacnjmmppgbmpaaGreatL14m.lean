/- Layer 14: the reference's jumps. -/
import Derived.Test.YtacnjmmppgbmpaaGreatL14k
import Derived.Test.YtacnjmmppgbmpaaGreatL14l
namespace Go.Proofs.YtacnjmmppgbmpaaGreat
open Go.RowKit
set_option linter.unusedSimpArgs false
set_option linter.unusedVariables false

theorem opd_kind {y : Opd} (h : opdErr y = 0) : y.kind = 1 ∨ y.kind = 2 ∨ y.kind = 3 := by
  rcases (opdErr_iff y).1 h with q | q
  · exact Or.inl q.1
  · exact Or.inr q.1

set_option maxHeartbeats 1000000 in
theorem ref14_Goes (p : Pr) (pv jv : Value) (g : Nat) (j : Ju) (f : Fn) (w : World) {F F'' : Nat → Prop} (hp : Sl F w pv p.funcs) (hjv : Sl F'' w jv j.args) (hj : j.wf) (hh : headsOk p = true) (hju : juErr j = 0) (Hg : Hid (p.funcs[g]? = some f)) :
    Calls Tryz.prog 33 #[p.v pv, .int .i64 g, j.v jv] w (Ret w (.int .i64 (goesErr p.funcs f.locals j))) := by
  obtain ⟨a, n, cap, rfl, Hn, hm, hcap, hcm, hp⟩ := hp.open
  obtain ⟨ja, jn, jcap, rfl, Hjn, hjm, hjcap, hjcm, hjv⟩ := hjv.open
  have ha := hj.a; have hd := hj.dest
  have Hh := Lib.hid hh; clear hh
  have Hju := Lib.hid hju; clear hju
  have hgn : g < n := by have q := (List.getElem?_eq_some_iff.1 Hg.out).1; have q2 := Hn.out; omega
  obtain ⟨b_g', off_g', g', g'_locals_a, g'_locals_n, g'_locals_c, g'_blocks_a, g'_blocks_n, g'_blocks_c, rfl, ⟨Hg_g', hl_g', hw_g', g'_locals, g'_blocks, c_g'0, c_g'1, c_g'2, c_g'3, r_g'0⟩⟩ := hp.fn g hgn
  obtain rfl : f = g' := by have q1 := Hg.out; have q2 := Hg_g'.out; rw [q1] at q2; injection q2
  have hv := g'_locals
  by_cases h4 : j.kind = 4
  · have H4 := Lib.hid h4
    have Hf0 := Lib.hid (ju_fn Hju.out h4)
    clear h4
    obtain ⟨kind, oa, fn, next, els, args, dest⟩ := j
    obtain ⟨q, rfl⟩ := Int.eq_ofNat_of_zero_le Hf0.out
    have h4 : (kind == 4) = true := by have q := H4.out; simpa using q
    have h2 : (kind == 2) = false := by have q : kind = 4 := H4.out; simp; omega
    have Hs : Hid (goesErr p.funcs f.locals ⟨kind, oa, q, next, els, args, dest⟩ = callErr p.funcs f.locals ⟨kind, oa, q, next, els, args, dest⟩) := by
      have q : kind = 4 := H4.out
      show _ = _; unfold goesErr; simp [q]
    by_cases hlt : q < n
    · (obtain ⟨b_t, off_t, t, t_locals_a, t_locals_n, t_locals_c, t_blocks_a, t_blocks_n, t_blocks_c, he_t, ⟨Hg_t, hl_t, hw_t, t_locals, t_blocks, c_t0, c_t1, c_t2, c_t3, r_t0⟩⟩ := hp.fn q hlt; simp only [Option.some.injEq, Addr.mk.injEq, and_true] at he_t; obtain ⟨rfl, rfl⟩ := he_t)
      have Hf := Lib.hid (head_par (head_at Hh.out Hg_t))
      have Hfl := Lib.hid t_locals.len
      have hl0 : 0 < t_locals_n := by have q1 := Hf.out; have q2 := Hfl.out; omega
      have Hc := Lib.hid (callErr_at (ts := f.locals) (j := ⟨kind, oa, q, next, els, args, dest⟩) rfl Hg_t)
      have hw := hw_t.params
      go_enter Tryz.func33, Tryz.ntmps33
      go_wp2_with fail
      go_loopw [9, 10] (fun rt i wr => ∃ (k : Nat) (r : Bool), k ≤ jn ∧ rt = .bool (!r) ∧ i = .int .i64 k ∧
        Grow (((w.alloc (Obj.cells #[.slice (some ⟨b_g', off_g', none⟩) n cap] 24)).alloc (Obj.cells #[.int .u8 (⟨kind, oa, q, next, els, args, dest⟩ : Ju).kind, .int .u8 (⟨kind, oa, q, next, els, args, dest⟩ : Ju).a.kind, .int .i64 (⟨kind, oa, q, next, els, args, dest⟩ : Ju).a.n, .int .i64 (⟨kind, oa, q, next, els, args, dest⟩ : Ju).a.pl.loc, .bool (⟨kind, oa, q, next, els, args, dest⟩ : Ju).a.pl.deref, .int .u8 (⟨kind, oa, q, next, els, args, dest⟩ : Ju).a.pl.field, .int .i64 (⟨kind, oa, q, next, els, args, dest⟩ : Ju).fn, .int .i64 (⟨kind, oa, q, next, els, args, dest⟩ : Ju).next, .int .i64 (⟨kind, oa, q, next, els, args, dest⟩ : Ju).els, .slice ja jn jcap, .int .i64 (⟨kind, oa, q, next, els, args, dest⟩ : Ju).dest.loc, .bool (⟨kind, oa, q, next, els, args, dest⟩ : Ju).dest.deref, .int .u8 (⟨kind, oa, q, next, els, args, dest⟩ : Ju).dest.field] 41)).alloc (Obj.cells #[.int .i64 t.params, .bool t.uns, .slice t_locals_a t_locals_n t_locals_c, .slice t_blocks_a t_blocks_n t_blocks_c] 33)) wr ∧
        Hid (r = true → (jn : Int) = t.params) ∧ Hid (callErr p.funcs f.locals ⟨kind, oa, q, next, els, args, dest⟩ = callOut f.locals ⟨kind, oa, q, next, els, args, dest⟩ t.locals (callL f.locals t.locals r k (args.drop k)))) (fun _ i _ => jn - (intOf i).toNat)
      case atStart =>
        refine ⟨0, decide ((jn : Int) = t.params), Nat.zero_le _, ?_, rfl, (by (repeat (first | (with_reducible exact Grow.refl _) | assumption | refine Grow.ext ?_ _ | refine Grow.alloc ?_ _ | refine Grow.drew ?_ | refine Grow.setCell ?_ (by first | (simp; done) | (simp; omega)) _ | refine Grow.trans ?_ (by assumption)))), fun h => by simpa using h, ?_⟩
        · by_cases z : (jn : Int) = t.params <;> simp [z]
        show _ = _
        have e : (jn : Int) = args.length := (by have := Hjn.out; omega)
        rw [Hc.out, List.drop_zero, e]
      case round =>
        obtain ⟨k, r, hk, rfl, rfl, hb1, Hr, Ht⟩ := hrel
        (obtain ⟨x1, rfl⟩ := ext_of_grow hb1; clear hb1)
        by_cases hlt2 : k < jn
        · obtain ⟨b_y, off_y, y, rfl, ⟨Hg_y, hl_y, hw_y, c_y0, c_y1, c_y2, c_y3, c_y4, r_y0, r_y1⟩⟩ := hjv.opd k hlt2
          have Hyk := Lib.hid (opd_kind (ju_args Hju.out Hg_y))
          have Hst : Hid (callL f.locals t.locals r k (args.drop k) = if (opTy f.locals y).2 ≠ 0 then ((opTy f.locals y).2, false) else callL f.locals t.locals (r && tyEq (opTy f.locals y).1 (t.locals.getD (k + 1) ⟨0, 0⟩)) (k + 1) (args.drop (k + 1))) := by
            show _ = _; rw [drop_cons Hg_y, callL]
          by_cases he : (opTy f.locals y).2 = 0
          · have He := Lib.hid he
            replace he : ((opTy f.locals y).2 != 0) = false := by simpa using he
            cases r
            · go_wp2_with (first | (go_at_call 61; ((with_reducible refine (ref14_Told _ f.locals y _ (hv.mono (by (repeat (first | (with_reducible exact Grow.refl _) | assumption | refine Grow.ext ?_ _ | refine Grow.alloc ?_ _ | refine Grow.drew ?_ | refine Grow.setCell ?_ (by first | (simp; done) | (simp; omega)) _ | refine Grow.trans ?_ (by assumption))))) hw_y Hyk.out).mono ?_); rintro e w2 ⟨rfl, hb2⟩; obtain ⟨x2, rfl⟩ := ext_of_grow hb2; clear hb2)))
              (refine wp_region_ext (by kernel_rfl) (by kernel_rfl) ?_; (repeat (any_goals (first | go_big_quiet_step (first | fail) | (refine wpQuiet_step (fun K hK => ?_); go_simp; split <;> (refine hK _ ?_; clear hK K))))); all_goals (refine wpQuiet_nil ?_; intro w3 hb3; obtain ⟨x3, rfl⟩ := ext_of_grow hb3; clear hb3))
              go_wp2_with fail
              go_roundw
              case rel =>
                refine ⟨k + 1, false, by omega, rfl, by go_num, (by (repeat (first | (with_reducible exact Grow.refl _) | assumption | refine Grow.ext ?_ _ | refine Grow.alloc ?_ _ | refine Grow.drew ?_ | refine Grow.setCell ?_ (by first | (simp; done) | (simp; omega)) _ | refine Grow.trans ?_ (by assumption)))), (fun h => by cases h), ?_⟩
                show _ = _
                rw [Ht.out, Hst.out, if_neg (by simpa using He.out)]; rfl
              case measure => simp [intOf]; omega
            · have hix : k + 1 < t_locals_n := by
                have q1 := Hf.out; have q2 := Hfl.out; have q3 := Hr.out (by simp); omega
              have hkp : (k : Int) < t.params := by have q3 := Hr.out (by simp); omega
              obtain ⟨b_u, off_u, u, rfl, ⟨Hg_u, hl_u, hw_u, c_u0, c_u1, r_u0⟩⟩ := t_locals.ty (k + 1) hix
              go_wp2_with (first | (go_at_call 61; ((with_reducible refine (ref14_Told _ f.locals y _ (hv.mono (by (repeat (first | (with_reducible exact Grow.refl _) | assumption | refine Grow.ext ?_ _ | refine Grow.alloc ?_ _ | refine Grow.drew ?_ | refine Grow.setCell ?_ (by first | (simp; done) | (simp; omega)) _ | refine Grow.trans ?_ (by assumption))))) hw_y Hyk.out).mono ?_); rintro e w2 ⟨rfl, hb2⟩; obtain ⟨x2, rfl⟩ := ext_of_grow hb2; clear hb2)))
              (refine wp_region_ext (by kernel_rfl) (by kernel_rfl) ?_; (repeat (any_goals (first | go_big_quiet_step (first | fail) | (refine wpQuiet_step (fun K hK => ?_); go_simp; split <;> (refine hK _ ?_; clear hK K))))); all_goals (refine wpQuiet_nil ?_; intro w3 hb3; obtain ⟨x3, rfl⟩ := ext_of_grow hb3; clear hb3))
              go_wp2_with fail
              go_roundw
              case rel =>
                refine ⟨k + 1, tyEq (opTy f.locals y).1 u, by omega, ?_, by go_num, (by (repeat (first | (with_reducible exact Grow.refl _) | assumption | refine Grow.ext ?_ _ | refine Grow.alloc ?_ _ | refine Grow.drew ?_ | refine Grow.setCell ?_ (by first | (simp; done) | (simp; omega)) _ | refine Grow.trans ?_ (by assumption)))), (fun h => Hr.out (by simp)), ?_⟩
                · unfold tyEq; simp
                · show _ = _
                  rw [Ht.out, Hst.out, if_neg (by simpa using He.out), getD_at Hg_u]; rfl
              case measure => simp [intOf]; omega
          · have He := Lib.hid he
            replace he : ((opTy f.locals y).2 != 0) = true := by simpa using he
            go_wp2_with (first | (go_at_call 61; ((with_reducible refine (ref14_Told _ f.locals y _ (hv.mono (by (repeat (first | (with_reducible exact Grow.refl _) | assumption | refine Grow.ext ?_ _ | refine Grow.alloc ?_ _ | refine Grow.drew ?_ | refine Grow.setCell ?_ (by first | (simp; done) | (simp; omega)) _ | refine Grow.trans ?_ (by assumption))))) hw_y Hyk.out).mono ?_); rintro e w2 ⟨rfl, hb2⟩; obtain ⟨x2, rfl⟩ := ext_of_grow hb2; clear hb2)))
            go_ret
            refine Ret.int ?_ (by (repeat (first | (with_reducible exact Grow.refl _) | assumption | refine Grow.ext ?_ _ | refine Grow.alloc ?_ _ | refine Grow.drew ?_ | refine Grow.setCell ?_ (by first | (simp; done) | (simp; omega)) _ | refine Grow.trans ?_ (by assumption))))
            rw [Hs.out, Ht.out, Hst.out, if_pos He.out]; unfold callOut; rw [if_pos He.out]
        · have Hd : Hid (callL f.locals t.locals r k (args.drop k) = (0, r)) := by show _ = _; rw [drop_all Hjn (by omega), callL]
          obtain ⟨b_u, off_u, u, rfl, ⟨Hg_u, hl_u, hw_u, c_u0, c_u1, r_u0⟩⟩ := t_locals.ty 0 hl0
          simp only [Nat.zero_mul, Nat.add_zero] at c_u0 c_u1 r_u0
          cases r
          · go_wp2_with fail
            go_ret
            refine Ret.int ?_ (by (repeat (first | (with_reducible exact Grow.refl _) | assumption | refine Grow.ext ?_ _ | refine Grow.alloc ?_ _ | refine Grow.drew ?_ | refine Grow.setCell ?_ (by first | (simp; done) | (simp; omega)) _ | refine Grow.trans ?_ (by assumption))))
            rw [Hs.out, Ht.out, Hd.out]; rfl
          · go_wp2_with fail
            (refine wp_region_ext (by kernel_rfl) (by kernel_rfl) ?_; (repeat (any_goals (first | go_big_quiet_step (first | (go_at_call 59; refine ext_call (ref14_into _ f.locals dest u _ (hv.mono (by (repeat (first | (with_reducible exact Grow.refl _) | assumption | refine Grow.ext ?_ _ | refine Grow.alloc ?_ _ | refine Grow.drew ?_ | refine Grow.setCell ?_ (by first | (simp; done) | (simp; omega)) _ | refine Grow.trans ?_ (by assumption))))) hd))) | (refine wpQuiet_step (fun K hK => ?_); go_simp; split <;> (refine hK _ ?_; clear hK K))))); all_goals (refine wpQuiet_nil ?_; intro w4 hb4; obtain ⟨x4, rfl⟩ := ext_of_grow hb4; clear hb4))
            go_wp2_with fail
            go_ret
            refine Ret.int ?_ (by (repeat (first | (with_reducible exact Grow.refl _) | assumption | refine Grow.ext ?_ _ | refine Grow.alloc ?_ _ | refine Grow.drew ?_ | refine Grow.setCell ?_ (by first | (simp; done) | (simp; omega)) _ | refine Grow.trans ?_ (by assumption))))
            rw [Hs.out, Ht.out, Hd.out]; unfold callOut; simp [← getD_at Hg_u]
    · go_enter Tryz.func33, Tryz.ntmps33
      go_wp2_with fail
      all_goals (go_ret; refine Ret.int ?_ (by (repeat (first | (with_reducible exact Grow.refl _) | assumption | refine Grow.ext ?_ _ | refine Grow.alloc ?_ _ | refine Grow.drew ?_ | refine Grow.setCell ?_ (by first | (simp; done) | (simp; omega)) _ | refine Grow.trans ?_ (by assumption)))); have q1 := Hn.out; rw [Hs.out]; unfold callErr; rw [if_pos (by simp only; omega)])
  · have H4 := Lib.hid h4
    replace h4 : (j.kind != 4) = true := by simpa using h4
    by_cases h2 : j.kind = 2
    · have H2 := Lib.hid h2
      have Hk := Lib.hid (opd_kind (ju_a Hju.out h2))
      replace h2 : (j.kind == 2) = true := by simpa using h2
      go_enter Tryz.func33, Tryz.ntmps33
      go_wp2_with (first | (go_at_call 60; ((with_reducible refine (ref14_number _ f.locals j.a _ (hv.mono (by (repeat (first | (with_reducible exact Grow.refl _) | assumption | refine Grow.ext ?_ _ | refine Grow.alloc ?_ _ | refine Grow.drew ?_ | refine Grow.setCell ?_ (by first | (simp; done) | (simp; omega)) _ | refine Grow.trans ?_ (by assumption))))) ha Hk.out).mono ?_); rintro e w1 ⟨rfl, hb1⟩; obtain ⟨x1, rfl⟩ := ext_of_grow hb1; clear hb1)))
      all_goals go_ret
      all_goals (refine Ret.int ?_ (by (repeat (first | (with_reducible exact Grow.refl _) | assumption | refine Grow.ext ?_ _ | refine Grow.alloc ?_ _ | refine Grow.drew ?_ | refine Grow.setCell ?_ (by first | (simp; done) | (simp; omega)) _ | refine Grow.trans ?_ (by assumption)))))
      all_goals (have q1 := H2.out; unfold goesErr; simp [q1])
    · have H2 := Lib.hid h2
      replace h2 : (j.kind == 2) = false := by simpa using h2
      go_enter Tryz.func33, Tryz.ntmps33
      go_wp2_with fail
      all_goals go_ret
      all_goals (refine Ret.int ?_ (by (repeat (first | (with_reducible exact Grow.refl _) | assumption | refine Grow.ext ?_ _ | refine Grow.alloc ?_ _ | refine Grow.drew ?_ | refine Grow.setCell ?_ (by first | (simp; done) | (simp; omega)) _ | refine Grow.trans ?_ (by assumption)))))
      all_goals (have q1 := H2.out; have q2 := H4.out; unfold goesErr; simp [q1, q2])

end Go.Proofs.YtacnjmmppgbmpaaGreat
