/- Layer 17: the law of all marks, and of none. -/
import Derived.Test.YtiikhfjdpaofdaaL17w
namespace Go.Proofs.Ytiikhfjdpaofdaa
open Go.RowKit
set_option linter.unusedSimpArgs false
set_option linter.unusedVariables false

theorem says_ones {p : Pr} (h : prErr p = 0) : saysB (withP p (-1)) true false = true := by
  have hq := with_ok h (-1)
  have hu : ∀ f ∈ (withP p (-1)).funcs, f.uns = true := fun f hf => by
    obtain ⟨i, hi, e⟩ := with_mem h hf; rw [e, bitB_ones i hi]
  have hs : safeErr (withP p (-1)) = 0 := by
    unfold safeErr; rw [if_neg (by simpa using hq), if_pos]
    exact List.all_eq_true.2 (fun f hf => by unfold guardF; rw [hu f hf]; rfl)
  have h1 := (pr_ok hq).1
  have hr : (reachL (withP p (-1))).any (unsAt (withP p (-1))) = true := by
    refine List.any_eq_true.2 ⟨0, ?_, ?_⟩
    · unfold reachL reachUpto
      exact List.mem_map.2 ⟨0, List.mem_filter.2 ⟨List.mem_range.2 (by omega), (reachB_iff hq 0).2 (Or.inl rfl)⟩, rfl⟩
    · unfold unsAt
      rw [List.getD_eq_getElem?_getD, List.getElem?_eq_getElem (by show 0 < _; omega)]
      exact hu _ (List.getElem_mem _)
  unfold saysB safeP
  rw [hs, hr]; rfl
theorem says_none {p : Pr} (h : prErr p = 0) {z : Bool} (hz : z = (withP p 0).funcs.any (rawF (withP p 0))) : saysB (withP p 0) (!z) true = true := by
  have hq := with_ok h 0
  have hu : ∀ f ∈ (withP p 0).funcs, f.uns = false := fun f hf => by
    obtain ⟨i, hi, e⟩ := with_mem h hf; rw [e, bitB_zero i hi]
  cases z
  · have hs : safeErr (withP p 0) = 0 := by
      unfold safeErr; rw [if_neg (by simpa using hq), if_pos]
      exact List.all_eq_true.2 (fun f hf => by
        have := List.any_eq_false.1 hz.symm f hf
        unfold guardF; simp only [Bool.not_eq_true] at this; rw [this]; simp)
    have hr : (reachL (withP p 0)).any (unsAt (withP p 0)) = false := by
      refine List.any_eq_false.2 fun x hx => ?_
      obtain ⟨k, rfl, hk, _⟩ := reachL_mem hx
      unfold unsAt
      rw [List.getD_eq_getElem?_getD, List.getElem?_eq_getElem (by simpa using hk)]
      simpa using hu _ (List.getElem_mem _)
    unfold saysB safeP
    rw [hs, hr]; rfl
  · have hs : safeErr (withP p 0) = 46 := by
      unfold safeErr; rw [if_neg (by simpa using hq), if_neg]
      intro ha
      obtain ⟨f, hf, hr⟩ := List.any_eq_true.1 hz.symm
      have := List.all_eq_true.1 ha f hf
      unfold guardF at this; rw [hu f hf, hr] at this; cases this
    unfold saysB safeP
    rw [hs]; rfl
set_option maxRecDepth 100000 in
set_option maxHeartbeats 8000000 in
theorem law_SafetyAll (p : Pr) (pv : Value) (w : World) {F : Nat → Prop} (hpw : p.wf) (hp : Sl F w pv p.funcs) :
    Calls Try.prog 12 #[p.v pv] w (Ret w (.bool true)) := by
  obtain ⟨a, n, cap, rfl, Hn, hm, hcap, hcm, hp⟩ := hp.open
  have i0 : I64 0 := ⟨by decide, by decide⟩
  have im : I64 (-1) := ⟨by decide, by decide⟩
  cases hg : bigPr 10 p
  · cases hpe : (prErr p != 0)
    · have Hpe : Hid (prErr p = 0) := Lib.hid (by simpa using hpe)
      have hn8 : n ≤ 8 := by have := (pr_ok Hpe.out).2.1; rw [← Hn.out] at this; exact this
      go_enter Try.func12, Try.ntmps12
      go_wp2_with (first
        | (go_at_call 43; ((with_reducible refine (law17_alive _).mono ?_); rintro e w1 ⟨rfl, hb1⟩; obtain ⟨x1, rfl⟩ := ext_of_grow hb1; clear hb1))
        | (go_at_call 35; ((with_reducible refine (ref14_Great p _ _ (hp.mono (by (repeat (first | (with_reducible exact Grow.refl _) | assumption | refine Grow.ext ?_ _ | refine Grow.alloc ?_ _ | refine Grow.drew ?_ | refine Grow.setCell ?_ (by first | (simp; done) | (simp; omega)) _ | refine Grow.trans ?_ (by assumption)))))).mono ?_); rintro e w2 ⟨rfl, hb2⟩; obtain ⟨x2, rfl⟩ := ext_of_grow hb2; clear hb2))
        | (go_at_call 26; ((with_reducible refine (ref08_Check p _ _ (hp.mono (by (repeat (first | (with_reducible exact Grow.refl _) | assumption | refine Grow.ext ?_ _ | refine Grow.alloc ?_ _ | refine Grow.drew ?_ | refine Grow.setCell ?_ (by first | (simp; done) | (simp; omega)) _ | refine Grow.trans ?_ (by assumption)))))).mono ?_); rintro e w3 ⟨rfl, hb3⟩; obtain ⟨x3, rfl⟩ := ext_of_grow hb3; clear hb3))
        | (go_at_call 46; first
          | ((with_reducible refine (ref17_With p _ (-1) _ (hp.mono (by (repeat (first | (with_reducible exact Grow.refl _) | assumption | refine Grow.ext ?_ _ | refine Grow.alloc ?_ _ | refine Grow.drew ?_ | refine Grow.setCell ?_ (by first | (simp; done) | (simp; omega)) _ | refine Grow.trans ?_ (by assumption))))) im Hpe.out).mono ?_); rintro e w4 ⟨_, rfl, ⟨u4, rfl, hs4⟩, hb4⟩; obtain ⟨x4, rfl⟩ := ext_of_grow hb4; clear hb4; obtain ⟨a4, n4, c4, rfl, Hn4, hm4, hcap4, hcm4, hs4⟩ := hs4.open)
          | ((with_reducible refine (ref17_With p _ 0 _ (hp.mono (by (repeat (first | (with_reducible exact Grow.refl _) | assumption | refine Grow.ext ?_ _ | refine Grow.alloc ?_ _ | refine Grow.drew ?_ | refine Grow.setCell ?_ (by first | (simp; done) | (simp; omega)) _ | refine Grow.trans ?_ (by assumption))))) i0 Hpe.out).mono ?_); rintro e w6 ⟨_, rfl, ⟨u6, rfl, hs6⟩, hb6⟩; obtain ⟨x6, rfl⟩ := ext_of_grow hb6; clear hb6; obtain ⟨a6, n6, c6, rfl, Hn6, hm6, hcap6, hcm6, hs6⟩ := hs6.open))
        | (go_at_call 45; ((with_reducible refine (law17_says_at (withP p (-1)) _ true false _ (hs4.mono (by (repeat (first | (with_reducible exact Grow.refl _) | assumption | refine Grow.ext ?_ _ | refine Grow.alloc ?_ _ | refine Grow.drew ?_ | refine Grow.setCell ?_ (by first | (simp; done) | (simp; omega)) _ | refine Grow.trans ?_ (by assumption))))) (says_ones Hpe.out)).mono ?_); rintro e w5 ⟨rfl, hb5⟩; obtain ⟨x5, rfl⟩ := ext_of_grow hb5; clear hb5)))
      go_loopw [5, 6] (fun c i wr => ∃ (k : Nat) (z : Bool), k ≤ n6 ∧ c = .bool z ∧ i = .int .i64 k ∧ Grow ((ext (ext (ext (ext (ext (ext (w.alloc (Obj.cells #[.slice a n cap] 24)) x1) x2) x3) x4) x5) x6).alloc (.cells #[.slice a6 n6 c6] 24)) wr ∧ Hid (z = ((withP p 0).funcs.take k).any (rawF (withP p 0)))) (fun _ i _ => n6 - (intOf i).toNat)
      case atStart => exact ⟨0, false, Nat.zero_le _, rfl, rfl, (by (repeat (first | (with_reducible exact Grow.refl _) | assumption | refine Grow.ext ?_ _ | refine Grow.alloc ?_ _ | refine Grow.drew ?_ | refine Grow.setCell ?_ (by first | (simp; done) | (simp; omega)) _ | refine Grow.trans ?_ (by assumption)))), Lib.hid (by simp)⟩
      case round =>
        obtain ⟨k, z, hk, rfl, rfl, hb7, Hz⟩ := hrel
        obtain ⟨y7, rfl⟩ := ext_of_grow hb7
        by_cases hlt : k < n6
        · obtain ⟨b_f, off_f, f, f_locals_a, f_locals_n, f_locals_c, f_blocks_a, f_blocks_n, f_blocks_c, rfl, ⟨Hg_f, hl_f, hw_f, f_locals, f_blocks, c_f0, c_f1, c_f2, c_f3, r_f0⟩⟩ := hs6.fn k hlt
          have hq0 := with_ok Hpe.out 0
          have Hq0 := Lib.hid hq0
          clear hq0
          have Hzs : Hid (((withP p 0).funcs.take (k + 1)).any (rawF (withP p 0)) = (z || rawF (withP p 0) f)) := Lib.hid (by rw [any_snoc Hg_f, ← Hz.out])
          cases hr : rawF (withP p 0) f
          all_goals
            rw [hr] at Hzs
            cases z
          all_goals
            go_wp2_with (first | (go_at_call 36; ((with_reducible refine (safety_Raw_at (withP p 0) _ k f _ (hs6.mono (by (repeat (first | (with_reducible exact Grow.refl _) | assumption | refine Grow.ext ?_ _ | refine Grow.alloc ?_ _ | refine Grow.drew ?_ | refine Grow.setCell ?_ (by first | (simp; done) | (simp; omega)) _ | refine Grow.trans ?_ (by assumption))))) Hq0.out Hg_f hr).mono ?_); rintro e w8 ⟨rfl, hb8⟩; obtain ⟨x8, rfl⟩ := ext_of_grow hb8; clear hb8)))
            go_roundw
            case rel => exact ⟨k + 1, _, by omega, rfl, by go_num, (by (repeat (first | (with_reducible exact Grow.refl _) | assumption | refine Grow.ext ?_ _ | refine Grow.alloc ?_ _ | refine Grow.drew ?_ | refine Grow.setCell ?_ (by first | (simp; done) | (simp; omega)) _ | refine Grow.trans ?_ (by assumption)))), Lib.hid (by rw [Hzs.out]; rfl)⟩
            case measure => simp [intOf]; omega
        · have Hs := Lib.hid (says_none Hpe.out (z := z) (by rw [Hz.out, List.take_of_length_le (by rw [← Hn6.out]; omega)]))
          cases z
          · replace Hs : Hid (saysB (withP p 0) true true = true) := Hs
            go_wp2_with (first | (go_at_call 45; ((with_reducible refine (law17_says_at (withP p 0) _ true true _ (hs6.mono (by (repeat (first | (with_reducible exact Grow.refl _) | assumption | refine Grow.ext ?_ _ | refine Grow.alloc ?_ _ | refine Grow.drew ?_ | refine Grow.setCell ?_ (by first | (simp; done) | (simp; omega)) _ | refine Grow.trans ?_ (by assumption))))) Hs.out).mono ?_); rintro e w9 ⟨rfl, hb9⟩; obtain ⟨x9, rfl⟩ := ext_of_grow hb9; clear hb9)))
            go_ret
            exact Ret.bool rfl (by (repeat (first | (with_reducible exact Grow.refl _) | assumption | refine Grow.ext ?_ _ | refine Grow.alloc ?_ _ | refine Grow.drew ?_ | refine Grow.setCell ?_ (by first | (simp; done) | (simp; omega)) _ | refine Grow.trans ?_ (by assumption))))
          · replace Hs : Hid (saysB (withP p 0) false true = true) := Hs
            go_wp2_with (first | (go_at_call 45; ((with_reducible refine (law17_says_at (withP p 0) _ false true _ (hs6.mono (by (repeat (first | (with_reducible exact Grow.refl _) | assumption | refine Grow.ext ?_ _ | refine Grow.alloc ?_ _ | refine Grow.drew ?_ | refine Grow.setCell ?_ (by first | (simp; done) | (simp; omega)) _ | refine Grow.trans ?_ (by assumption))))) Hs.out).mono ?_); rintro e w9 ⟨rfl, hb9⟩; obtain ⟨x9, rfl⟩ := ext_of_grow hb9; clear hb9)))
            go_ret
            exact Ret.bool rfl (by (repeat (first | (with_reducible exact Grow.refl _) | assumption | refine Grow.ext ?_ _ | refine Grow.alloc ?_ _ | refine Grow.drew ?_ | refine Grow.setCell ?_ (by first | (simp; done) | (simp; omega)) _ | refine Grow.trans ?_ (by assumption))))
    · go_enter Try.func12, Try.ntmps12
      go_wp2_with (first | (go_at_call 43; ((with_reducible refine (law17_alive _).mono ?_); rintro e w1 ⟨rfl, hb1⟩; obtain ⟨x1, rfl⟩ := ext_of_grow hb1; clear hb1)) | (go_at_call 35; ((with_reducible refine (ref14_Great p _ _ (hp.mono (by (repeat (first | (with_reducible exact Grow.refl _) | assumption | refine Grow.ext ?_ _ | refine Grow.alloc ?_ _ | refine Grow.drew ?_ | refine Grow.setCell ?_ (by first | (simp; done) | (simp; omega)) _ | refine Grow.trans ?_ (by assumption)))))).mono ?_); rintro e w2 ⟨rfl, hb2⟩; obtain ⟨x2, rfl⟩ := ext_of_grow hb2; clear hb2)) | (go_at_call 26; ((with_reducible refine (ref08_Check p _ _ (hp.mono (by (repeat (first | (with_reducible exact Grow.refl _) | assumption | refine Grow.ext ?_ _ | refine Grow.alloc ?_ _ | refine Grow.drew ?_ | refine Grow.setCell ?_ (by first | (simp; done) | (simp; omega)) _ | refine Grow.trans ?_ (by assumption)))))).mono ?_); rintro e w3 ⟨rfl, hb3⟩; obtain ⟨x3, rfl⟩ := ext_of_grow hb3; clear hb3)))
      go_ret
      exact Ret.bool rfl (by (repeat (first | (with_reducible exact Grow.refl _) | assumption | refine Grow.ext ?_ _ | refine Grow.alloc ?_ _ | refine Grow.drew ?_ | refine Grow.setCell ?_ (by first | (simp; done) | (simp; omega)) _ | refine Grow.trans ?_ (by assumption))))
  · go_enter Try.func12, Try.ntmps12
    go_wp2_with (first | (go_at_call 43; ((with_reducible refine (law17_alive _).mono ?_); rintro e w1 ⟨rfl, hb1⟩; obtain ⟨x1, rfl⟩ := ext_of_grow hb1; clear hb1)) | (go_at_call 35; ((with_reducible refine (ref14_Great p _ _ (hp.mono (by (repeat (first | (with_reducible exact Grow.refl _) | assumption | refine Grow.ext ?_ _ | refine Grow.alloc ?_ _ | refine Grow.drew ?_ | refine Grow.setCell ?_ (by first | (simp; done) | (simp; omega)) _ | refine Grow.trans ?_ (by assumption)))))).mono ?_); rintro e w2 ⟨rfl, hb2⟩; obtain ⟨x2, rfl⟩ := ext_of_grow hb2; clear hb2)))
    go_ret
    exact Ret.bool rfl (by (repeat (first | (with_reducible exact Grow.refl _) | assumption | refine Grow.ext ?_ _ | refine Grow.alloc ?_ _ | refine Grow.drew ?_ | refine Grow.setCell ?_ (by first | (simp; done) | (simp; omega)) _ | refine Grow.trans ?_ (by assumption))))
end Go.Proofs.Ytiikhfjdpaofdaa
