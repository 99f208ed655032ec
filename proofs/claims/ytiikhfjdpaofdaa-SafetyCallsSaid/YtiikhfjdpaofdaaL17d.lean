/- Layer 17, the reference: Raw, Check, what is called and reached, Safe. -/
import Derived.Test.YtiikhfjdpaofdaaL17c
namespace Go.Proofs.Ytiikhfjdpaofdaa
open Go.RowKit
set_option linter.unusedSimpArgs false
set_option linter.unusedVariables false

set_option maxHeartbeats 1000000 in
theorem ref17_Raw (p : Pr) (pv : Value) (f : Int) (w : World) {F : Nat → Prop} (hp : Sl F w pv p.funcs) (hf : I64 f) :
    Calls Try.prog 37 #[p.v pv, .int .i64 f] w (Ret w (.tuple #[.bool (rawP p f).1, .int .i64 (rawP p f).2])) := by
  obtain ⟨a, n, cap, rfl, Hn, hm, hcap, hcm, hp⟩ := hp.open
  cases hpe : (prErr p != 0)
  · have Hpe : Hid (prErr p = 0) := Lib.hid (by simpa using hpe)
    by_cases hlt : 0 ≤ f ∧ f < n
    · obtain ⟨hf0, hfn⟩ := hlt
      obtain ⟨k, rfl⟩ := Int.eq_ofNat_of_zero_le hf0
      have hlt : k < n := by omega
      obtain ⟨b_g, off_g, g, g_locals_a, g_locals_n, g_locals_c, g_blocks_a, g_blocks_n, g_blocks_c, rfl, ⟨Hg_g, hl_g, hw_g, g_locals, g_blocks, c_g0, c_g1, c_g2, c_g3, r_g0⟩⟩ := hp.fn k hlt
      have Hr : Hid (rawP p k = (rawF p g, 0)) := Lib.hid (by unfold rawP; rw [if_neg (by simpa using Hpe.out), if_neg (by rw [← Hn.out]; omega), fnzAt Hg_g])
      have Htp := Lib.hid (things_pos p g)
      rw [Hr.out]
      go_enter Try.func37, Try.ntmps37
      go_wp2_with (first | (go_at_call 26; ((with_reducible refine (ref08_Check p _ _ (hp.mono (by (repeat (first | (with_reducible exact Grow.refl _) | assumption | refine Grow.ext ?_ _ | refine Grow.alloc ?_ _ | refine Grow.drew ?_ | refine Grow.setCell ?_ (by first | (simp; done) | (simp; omega)) _ | refine Grow.trans ?_ (by assumption)))))).mono ?_); rintro e w1 ⟨rfl, hb1⟩; obtain ⟨x1, rfl⟩ := ext_of_grow hb1; clear hb1)) | (go_at_call 68; ((with_reducible refine (ref17_Things p _ k g _ (hp.mono (by (repeat (first | (with_reducible exact Grow.refl _) | assumption | refine Grow.ext ?_ _ | refine Grow.alloc ?_ _ | refine Grow.drew ?_ | refine Grow.setCell ?_ (by first | (simp; done) | (simp; omega)) _ | refine Grow.trans ?_ (by assumption))))) Hpe.out Hg_g).mono ?_); rintro e w2 ⟨rfl, hb2⟩; obtain ⟨x2, rfl⟩ := ext_of_grow hb2; clear hb2)))
      go_ret2
      refine Ret.mk ?_ (by (repeat (first | (with_reducible exact Grow.refl _) | assumption | refine Grow.ext ?_ _ | refine Grow.alloc ?_ _ | refine Grow.drew ?_ | refine Grow.setCell ?_ (by first | (simp; done) | (simp; omega)) _ | refine Grow.trans ?_ (by assumption))))
      have e : decide (0 < things p g) = rawF p g := by rw [Bool.eq_iff_iff, decide_eq_true_iff]; exact Htp.out
      rw [← e]; first | rfl | (congr 3; simp)
    · have Hr : Hid (rawP p f = (false, 2)) := Lib.hid (by unfold rawP; rw [if_neg (by simpa using Hpe.out), if_pos (by rw [← Hn.out]; omega)])
      rw [Hr.out]
      go_enter Try.func37, Try.ntmps37
      go_wp2_with (first | (go_at_call 26; ((with_reducible refine (ref08_Check p _ _ (hp.mono (by (repeat (first | (with_reducible exact Grow.refl _) | assumption | refine Grow.ext ?_ _ | refine Grow.alloc ?_ _ | refine Grow.drew ?_ | refine Grow.setCell ?_ (by first | (simp; done) | (simp; omega)) _ | refine Grow.trans ?_ (by assumption)))))).mono ?_); rintro e w1 ⟨rfl, hb1⟩; obtain ⟨x1, rfl⟩ := ext_of_grow hb1; clear hb1)))
      all_goals (first | (exfalso; omega) | (go_ret2; exact Ret.mk rfl (by (repeat (first | (with_reducible exact Grow.refl _) | assumption | refine Grow.ext ?_ _ | refine Grow.alloc ?_ _ | refine Grow.drew ?_ | refine Grow.setCell ?_ (by first | (simp; done) | (simp; omega)) _ | refine Grow.trans ?_ (by assumption))))))
  · have Hr : Hid (rawP p f = (false, prErr p)) := Lib.hid (by unfold rawP; rw [if_pos (by simpa using hpe)])
    rw [Hr.out]
    go_enter Try.func37, Try.ntmps37
    go_wp2_with (first | (go_at_call 26; ((with_reducible refine (ref08_Check p _ _ (hp.mono (by (repeat (first | (with_reducible exact Grow.refl _) | assumption | refine Grow.ext ?_ _ | refine Grow.alloc ?_ _ | refine Grow.drew ?_ | refine Grow.setCell ?_ (by first | (simp; done) | (simp; omega)) _ | refine Grow.trans ?_ (by assumption)))))).mono ?_); rintro e w1 ⟨rfl, hb1⟩; obtain ⟨x1, rfl⟩ := ext_of_grow hb1; clear hb1)))
    go_ret2
    exact Ret.mk rfl (by (repeat (first | (with_reducible exact Grow.refl _) | assumption | refine Grow.ext ?_ _ | refine Grow.alloc ?_ _ | refine Grow.drew ?_ | refine Grow.setCell ?_ (by first | (simp; done) | (simp; omega)) _ | refine Grow.trans ?_ (by assumption))))
set_option maxRecDepth 100000 in
set_option maxHeartbeats 1000000 in
theorem ref17_Check (p : Pr) (pv : Value) (w : World) {F : Nat → Prop} (hp : Sl F w pv p.funcs) :
    Calls Try.prog 41 #[p.v pv] w (Ret w (.int .i64 (safeErr p))) := by
  obtain ⟨a, n, cap, rfl, Hn, hm, hcap, hcm, hp⟩ := hp.open
  cases hpe : (prErr p != 0)
  · have Hpe : Hid (prErr p = 0) := Lib.hid (by simpa using hpe)
    have Hs : Hid (safeErr p = if p.funcs.all (guardF p) then 0 else 46) := Lib.hid (by unfold safeErr; rw [if_neg (by simpa using Hpe.out)])
    go_enter Try.func41, Try.ntmps41
    go_wp2_with (first | (go_at_call 26; ((with_reducible refine (ref08_Check p _ _ (hp.mono (by (repeat (first | (with_reducible exact Grow.refl _) | assumption | refine Grow.ext ?_ _ | refine Grow.alloc ?_ _ | refine Grow.drew ?_ | refine Grow.setCell ?_ (by first | (simp; done) | (simp; omega)) _ | refine Grow.trans ?_ (by assumption)))))).mono ?_); rintro e w1 ⟨rfl, hb1⟩; obtain ⟨x1, rfl⟩ := ext_of_grow hb1; clear hb1)))
    go_loopw [4] (fun i wr => ∃ (k : Nat), k ≤ n ∧ i = .int .i64 k ∧ Grow (w.alloc (Obj.cells #[.slice a n cap] 24)) wr ∧ Hid ((p.funcs.take k).all (guardF p) = true)) (fun i _ => n - (intOf i).toNat)
    case atStart => exact ⟨0, Nat.zero_le _, rfl, (by (repeat (first | (with_reducible exact Grow.refl _) | assumption | refine Grow.ext ?_ _ | refine Grow.alloc ?_ _ | refine Grow.drew ?_ | refine Grow.setCell ?_ (by first | (simp; done) | (simp; omega)) _ | refine Grow.trans ?_ (by assumption)))), rfl⟩
    case round =>
      obtain ⟨k, hk, rfl, hb1, Ha⟩ := hrel
      obtain ⟨y1, rfl⟩ := ext_of_grow hb1
      by_cases hlt : k < n
      · obtain ⟨b_g, off_g, g, g_locals_a, g_locals_n, g_locals_c, g_blocks_a, g_blocks_n, g_blocks_c, rfl, ⟨Hg_g, hl_g, hw_g, g_locals, g_blocks, c_g0, c_g1, c_g2, c_g3, r_g0⟩⟩ := hp.fn k hlt
        have Htp := Lib.hid (things_pos p g)
        cases hr : rawF p g
        · have ht : things p g = 0 := by
            rcases Nat.eq_zero_or_pos (things p g) with h | h
            · exact h
            · have := Htp.out.1 h; rw [hr] at this; cases this
          go_wp2_with (first | (go_at_call 68; ((with_reducible refine (ref17_Things p _ k g _ (hp.mono (by (repeat (first | (with_reducible exact Grow.refl _) | assumption | refine Grow.ext ?_ _ | refine Grow.alloc ?_ _ | refine Grow.drew ?_ | refine Grow.setCell ?_ (by first | (simp; done) | (simp; omega)) _ | refine Grow.trans ?_ (by assumption))))) Hpe.out Hg_g).mono ?_); rintro e w3 ⟨rfl, hb3⟩; obtain ⟨x3, rfl⟩ := ext_of_grow hb3; clear hb3)))
          go_roundw
          case rel => exact ⟨k + 1, by omega, by go_num, (by (repeat (first | (with_reducible exact Grow.refl _) | assumption | refine Grow.ext ?_ _ | refine Grow.alloc ?_ _ | refine Grow.drew ?_ | refine Grow.setCell ?_ (by first | (simp; done) | (simp; omega)) _ | refine Grow.trans ?_ (by assumption)))), all_step Hg_g Ha (by unfold guardF; rw [hr]; simp)⟩
          case measure => simp [intOf]; omega
        · have ht : 0 < things p g := Htp.out.2 hr
          cases hu : g.uns
          · go_wp2_with (first | (go_at_call 68; ((with_reducible refine (ref17_Things p _ k g _ (hp.mono (by (repeat (first | (with_reducible exact Grow.refl _) | assumption | refine Grow.ext ?_ _ | refine Grow.alloc ?_ _ | refine Grow.drew ?_ | refine Grow.setCell ?_ (by first | (simp; done) | (simp; omega)) _ | refine Grow.trans ?_ (by assumption))))) Hpe.out Hg_g).mono ?_); rintro e w3 ⟨rfl, hb3⟩; obtain ⟨x3, rfl⟩ := ext_of_grow hb3; clear hb3)))
            go_ret
            exact Ret.int (by rw [Hs.out, all_not Hg_g (by unfold guardF; rw [hu, hr]; rfl)]; rfl) (by (repeat (first | (with_reducible exact Grow.refl _) | assumption | refine Grow.ext ?_ _ | refine Grow.alloc ?_ _ | refine Grow.drew ?_ | refine Grow.setCell ?_ (by first | (simp; done) | (simp; omega)) _ | refine Grow.trans ?_ (by assumption))))
          · go_wp2_with (first | (go_at_call 68; ((with_reducible refine (ref17_Things p _ k g _ (hp.mono (by (repeat (first | (with_reducible exact Grow.refl _) | assumption | refine Grow.ext ?_ _ | refine Grow.alloc ?_ _ | refine Grow.drew ?_ | refine Grow.setCell ?_ (by first | (simp; done) | (simp; omega)) _ | refine Grow.trans ?_ (by assumption))))) Hpe.out Hg_g).mono ?_); rintro e w3 ⟨rfl, hb3⟩; obtain ⟨x3, rfl⟩ := ext_of_grow hb3; clear hb3)))
            go_roundw
            case rel => exact ⟨k + 1, by omega, by go_num, (by (repeat (first | (with_reducible exact Grow.refl _) | assumption | refine Grow.ext ?_ _ | refine Grow.alloc ?_ _ | refine Grow.drew ?_ | refine Grow.setCell ?_ (by first | (simp; done) | (simp; omega)) _ | refine Grow.trans ?_ (by assumption)))), all_step Hg_g Ha (by unfold guardF; rw [hu]; rfl)⟩
            case measure => simp [intOf]; omega
      · go_wp2_with fail
        go_ret
        exact Ret.int (by rw [Hs.out, all_end Hn (by omega) Ha]; rfl) (by (repeat (first | (with_reducible exact Grow.refl _) | assumption | refine Grow.ext ?_ _ | refine Grow.alloc ?_ _ | refine Grow.drew ?_ | refine Grow.setCell ?_ (by first | (simp; done) | (simp; omega)) _ | refine Grow.trans ?_ (by assumption))))
  · go_enter Try.func41, Try.ntmps41
    go_wp2_with (first | (go_at_call 26; ((with_reducible refine (ref08_Check p _ _ (hp.mono (by (repeat (first | (with_reducible exact Grow.refl _) | assumption | refine Grow.ext ?_ _ | refine Grow.alloc ?_ _ | refine Grow.drew ?_ | refine Grow.setCell ?_ (by first | (simp; done) | (simp; omega)) _ | refine Grow.trans ?_ (by assumption)))))).mono ?_); rintro e w1 ⟨rfl, hb1⟩; obtain ⟨x1, rfl⟩ := ext_of_grow hb1; clear hb1)))
    go_ret
    exact Ret.int (by unfold safeErr; rw [if_pos (by simpa using hpe)]) (by (repeat (first | (with_reducible exact Grow.refl _) | assumption | refine Grow.ext ?_ _ | refine Grow.alloc ?_ _ | refine Grow.drew ?_ | refine Grow.setCell ?_ (by first | (simp; done) | (simp; omega)) _ | refine Grow.trans ?_ (by assumption))))
set_option maxRecDepth 100000 in
set_option maxHeartbeats 1000000 in
theorem ref17_Calls (p : Pr) (pv : Value) (g c : Nat) (f : Fn) (w : World) {F : Nat → Prop} (hp : Sl F w pv p.funcs) (Hg : Hid (p.funcs[g]? = some f)) (hc : c ≤ 1000) :
    Calls Try.prog 47 #[p.v pv, .int .i64 g, .int .i64 c] w (Ret w (.bool (callsTo f c))) := by
  obtain ⟨a, n, cap, rfl, Hn, hm, hcap, hcm, hp⟩ := hp.open
  have hgn : g < n := by have q := (List.getElem?_eq_some_iff.1 Hg.out).1; have q2 := Hn.out; omega
  obtain ⟨b_f', off_f', f', f'_locals_a, f'_locals_n, f'_locals_c, f'_blocks_a, f'_blocks_n, f'_blocks_c, rfl, ⟨Hg_f', hl_f', hw_f', f'_locals, f'_blocks, c_f'0, c_f'1, c_f'2, c_f'3, r_f'0⟩⟩ := hp.fn g hgn
  obtain rfl : f = f' := by have q1 := Hg.out; have q2 := Hg_f'.out; rw [q1] at q2; injection q2
  have Hbn := Lib.hid f'_blocks.len
  have hmf : f'_blocks_n ≤ 9223372036854775807 := by obtain ⟨_, _, _, he, _, hq, _⟩ := f'_blocks.open; injection he with _ e2; omega
  go_enter Try.func47, Try.ntmps47
  go_wp2_with fail
  go_loopw [7] (fun i wr => ∃ (k : Nat), k ≤ f'_blocks_n ∧ i = .int .i64 k ∧ Grow (w.alloc (Obj.cells #[.slice (some ⟨b_f', off_f', none⟩) n cap] 24)) wr ∧ Hid ((f.blocks.take k).any (fun b => decide (b.jump.kind = 4) && decide (b.jump.fn = (c : Int))) = false)) (fun i _ => f'_blocks_n - (intOf i).toNat)
  case atStart => exact ⟨0, Nat.zero_le _, rfl, (by (repeat (first | (with_reducible exact Grow.refl _) | assumption | refine Grow.ext ?_ _ | refine Grow.alloc ?_ _ | refine Grow.drew ?_ | refine Grow.setCell ?_ (by first | (simp; done) | (simp; omega)) _ | refine Grow.trans ?_ (by assumption)))), rfl⟩
  case round =>
    obtain ⟨k, hk, rfl, hb1, Ha⟩ := hrel
    obtain ⟨y1, rfl⟩ := ext_of_grow hb1
    by_cases hlt : k < f'_blocks_n
    · obtain ⟨b_b, off_b, b, b_stmts_a, b_stmts_n, b_stmts_c, b_jump_args_a, b_jump_args_n, b_jump_args_c, rfl, ⟨Hg_b, hl_b, hw_b, b_stmts, b_jump_args, c_b0, c_b1, c_b2, c_b3, c_b4, c_b5, c_b6, c_b7, c_b8, c_b9, c_b10, c_b11, c_b12, c_b13, r_b0, r_b1, r_b2, r_b3, r_b4⟩⟩ := f'_blocks.bk k hlt
      have Hb : Hid ((decide (b.jump.kind = 4) && decide (b.jump.fn = (c : Int))) = ((b.jump.kind == 4) && (b.jump.fn == (c : Int)))) := Lib.hid rfl
      cases h4 : (b.jump.kind == 4)
      · go_wp2_with fail
        go_roundw
        case rel => exact ⟨k + 1, by omega, by go_num, (by (repeat (first | (with_reducible exact Grow.refl _) | assumption | refine Grow.ext ?_ _ | refine Grow.alloc ?_ _ | refine Grow.drew ?_ | refine Grow.setCell ?_ (by first | (simp; done) | (simp; omega)) _ | refine Grow.trans ?_ (by assumption)))), Lib.hid (by rw [any_snoc Hg_b, Ha.out, Hb.out, h4]; rfl)⟩
        case measure => simp [intOf]; omega
      · cases hfc : (b.jump.fn == (c : Int))
        · go_wp2_with fail
          go_roundw
          case rel => exact ⟨k + 1, by omega, by go_num, (by (repeat (first | (with_reducible exact Grow.refl _) | assumption | refine Grow.ext ?_ _ | refine Grow.alloc ?_ _ | refine Grow.drew ?_ | refine Grow.setCell ?_ (by first | (simp; done) | (simp; omega)) _ | refine Grow.trans ?_ (by assumption)))), Lib.hid (by rw [any_snoc Hg_b, Ha.out, Hb.out, h4, hfc]; rfl)⟩
          case measure => simp [intOf]; omega
        · go_wp2_with fail
          go_ret
          refine Ret.bool ?_ (by (repeat (first | (with_reducible exact Grow.refl _) | assumption | refine Grow.ext ?_ _ | refine Grow.alloc ?_ _ | refine Grow.drew ?_ | refine Grow.setCell ?_ (by first | (simp; done) | (simp; omega)) _ | refine Grow.trans ?_ (by assumption))))
          symm; unfold callsTo; rw [List.any_eq_true]
          exact ⟨b, List.mem_of_getElem? Hg_b.out, by rw [Hb.out, h4, hfc]; rfl⟩
    · go_wp2_with fail
      go_ret
      refine Ret.bool ?_ (by (repeat (first | (with_reducible exact Grow.refl _) | assumption | refine Grow.ext ?_ _ | refine Grow.alloc ?_ _ | refine Grow.drew ?_ | refine Grow.setCell ?_ (by first | (simp; done) | (simp; omega)) _ | refine Grow.trans ?_ (by assumption))))
      unfold callsTo
      have := Ha.out; rw [List.take_of_length_le (by rw [← Hbn.out]; omega)] at this; exact this.symm
end Go.Proofs.Ytiikhfjdpaofdaa
