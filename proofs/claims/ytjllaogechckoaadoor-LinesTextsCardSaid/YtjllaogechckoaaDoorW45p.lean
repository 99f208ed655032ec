/- Layer 45: places as text. -/
import Derived.Test.YtjllaogechckoaaDoorW45a
namespace Go.Proofs.YtjllaogechckoaaDoor
open Go.RowKit
set_option linter.unusedSimpArgs false
set_option linter.unusedVariables false

theorem dec_len {k : Nat} (h : k < 100) : (Lib.decDigits k).length ≤ 2 := by
  rw [Lib.decDigits_length]
  by_cases h1 : k < 10
  · rw [Lib.nDigits_small h1]; omega
  · rw [Lib.nDigits_big h1, Lib.nDigits_small (by omega)]; exact Nat.le_refl _
theorem plErr_0 {p : Pl} (h : p.wf) : plErr p = (if plOk p then 0 else 8) := by
  have hf := h.field.1
  unfold plErr plOk
  by_cases q : PlOk p
  · rw [if_pos q, decide_eq_true (show 0 ≤ p.loc ∧ p.loc < 16 ∧ 0 ≤ p.field ∧ p.field ≤ 2 from ⟨q.1, q.2.1, hf, q.2.2⟩)]; rfl
  · rw [if_neg q, decide_eq_false (show ¬ (0 ≤ p.loc ∧ p.loc < 16 ∧ 0 ≤ p.field ∧ p.field ≤ 2) from fun h => q ⟨h.1, h.2.1, h.2.2.2⟩)]; rfl
set_option maxRecDepth 100000 in
set_option maxHeartbeats 1000000 in
theorem place_Text (p : Pl) (hp : p.wf) (w : World) : Calls Tryd.prog 28 #[p.v] w (Ret w (.tuple #[.string (str (if plOk p then plText p else [])), .int .i64 (if plOk p then 0 else 8)])) := by
  have hpe := plErr_0 hp
  have Hf := hp.field.1
  obtain ⟨l, d, f⟩ := p
  dsimp only at Hf
  by_cases hk : plOk ⟨l, d, f⟩ = true
  · have hk' := hk
    unfold plOk at hk'
    have hr := of_decide_eq_true hk'
    dsimp only at hr
    obtain ⟨k, rfl⟩ : ∃ k : Nat, l = (k : Int) := ⟨l.toNat, by omega⟩
    obtain ⟨j, rfl⟩ : ∃ j : Nat, f = (j : Int) := ⟨f.toNat, by omega⟩
    have hl1 := dec_len (k := k) (by omega)
    have hl2 := dec_len (k := j) (by omega)
    have Ht : Hid (plText ⟨k, d, j⟩ = (if d then [42] else []) ++ (120 :: Lib.decDigits k) ++ (if 0 < j then 46 :: Lib.decDigits j else [])) := Lib.hid (by
      unfold plText; dsimp only; rw [itoa_pos (by omega), itoa_pos (by omega)]; simp)
    rw [hk] at hpe
    rw [if_pos hk, if_pos hk, Ht.out]
    clear Ht hk hk' hp
    simp only [if_true] at hpe
    by_cases hj : 0 < j
    all_goals cases d
    all_goals
      go_enter Tryd.func28, Tryd.ntmps28
      go_wp2_with (first
        | (go_at_call 35; ((with_reducible refine (place_Check ⟨k, true, j⟩ _).mono ?_); rintro e w1 ⟨rfl, hb1⟩; obtain ⟨x1, rfl⟩ := ext_of_grow hb1; clear hb1))
        | (go_at_call 35; ((with_reducible refine (place_Check ⟨k, false, j⟩ _).mono ?_); rintro e w1 ⟨rfl, hb1⟩; obtain ⟨x1, rfl⟩ := ext_of_grow hb1; clear hb1))
        | (go_at_call 26; ((with_reducible refine (Tryd.strconv_Itoa_small k (by omega) _).mono ?_); rintro e w2 ⟨rfl, rfl⟩))
        | (go_at_call 26; ((with_reducible refine (Tryd.strconv_Itoa_small j (by omega) _).mono ?_); rintro e w2 ⟨rfl, rfl⟩)))
      go_ret2
      exact Ret.mk (by simp [ByteArray.ext_iff]) (by (repeat (first | (with_reducible exact Grow.refl _) | assumption | refine Grow.ext ?_ _ | refine Grow.alloc ?_ _ | refine Grow.drew ?_ | refine Grow.setCell ?_ (by first | (simp; done) | (simp; omega)) _ | refine Grow.trans ?_ (by assumption))))
  · rw [if_neg hk, if_neg hk]
    go_enter Tryd.func28, Tryd.ntmps28
    simp only [Bool.not_eq_true] at hk
    simp only [hk, Bool.false_eq_true, if_false] at hpe
    go_wp2_with (first | (go_at_call 35; ((with_reducible refine (place_Check ⟨l, d, f⟩ _).mono ?_); rintro e w1 ⟨rfl, hb1⟩; obtain ⟨x1, rfl⟩ := ext_of_grow hb1; clear hb1)))
    all_goals (first | (go_ret2; exact Ret.mk rfl (by (repeat (first | (with_reducible exact Grow.refl _) | assumption | refine Grow.ext ?_ _ | refine Grow.alloc ?_ _ | refine Grow.drew ?_ | refine Grow.setCell ?_ (by first | (simp; done) | (simp; omega)) _ | refine Grow.trans ?_ (by assumption))))) | (exfalso; simp_all; done))
end Go.Proofs.YtjllaogechckoaaDoor
