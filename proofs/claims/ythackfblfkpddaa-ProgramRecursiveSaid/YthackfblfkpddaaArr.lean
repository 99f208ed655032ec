/- Arrays of sixteen counters, and of sixteen marks. -/
import Derived.Test.YthackfblfkpddaaL07
namespace Go.Proofs.Ythackfblfkpddaa
open Go.RowKit
set_option linter.unusedSimpArgs false
set_option linter.unusedVariables false

/-- How often i is in l, as a 64-bit number. -/
def cw (l : List Int) (i : Nat) : Int := wrap64 (l.count (i : Int) : Nat)
theorem cw_one (l : List Int) (i : Nat) : wrap64 (cw l i + 1) = cw (l ++ [(i : Int)]) i := by
  unfold cw; rw [List.count_append]; simp only [List.count_singleton_self]; unfold wrap64; omega
theorem cw_other (l : List Int) (i k : Nat) (h : k ≠ i) : cw (l ++ [(i : Int)]) k = cw l k := by
  unfold cw; rw [List.count_append, List.count_singleton, if_neg (by simp; omega)]; rfl
theorem cw_in (l : List Int) (i : Nat) : -9223372036854775808 ≤ cw l i ∧ cw l i ≤ 9223372036854775807 := by unfold cw wrap64; omega
theorem cw_small {l : List Int} {i : Nat} (h : l.length ≤ 1000000) : cw l i = (l.count (i : Int) : Nat) := by
  have := List.count_le_length (a := (i : Int)) (l := l)
  unfold cw wrap64; omega
def cnt16 (l : List Int) : Array Value := #[.int .i64 (cw l 0), .int .i64 (cw l 1), .int .i64 (cw l 2), .int .i64 (cw l 3), .int .i64 (cw l 4), .int .i64 (cw l 5), .int .i64 (cw l 6), .int .i64 (cw l 7), .int .i64 (cw l 8), .int .i64 (cw l 9), .int .i64 (cw l 10), .int .i64 (cw l 11), .int .i64 (cw l 12), .int .i64 (cw l 13), .int .i64 (cw l 14), .int .i64 (cw l 15)]
def is16 (l : List Int) : Array Value := #[.bool (decide (((0 : Nat) : Int) ∈ l)), .bool (decide (((1 : Nat) : Int) ∈ l)), .bool (decide (((2 : Nat) : Int) ∈ l)), .bool (decide (((3 : Nat) : Int) ∈ l)), .bool (decide (((4 : Nat) : Int) ∈ l)), .bool (decide (((5 : Nat) : Int) ∈ l)), .bool (decide (((6 : Nat) : Int) ∈ l)), .bool (decide (((7 : Nat) : Int) ∈ l)), .bool (decide (((8 : Nat) : Int) ∈ l)), .bool (decide (((9 : Nat) : Int) ∈ l)), .bool (decide (((10 : Nat) : Int) ∈ l)), .bool (decide (((11 : Nat) : Int) ∈ l)), .bool (decide (((12 : Nat) : Int) ∈ l)), .bool (decide (((13 : Nat) : Int) ∈ l)), .bool (decide (((14 : Nat) : Int) ∈ l)), .bool (decide (((15 : Nat) : Int) ∈ l))]
theorem sixteen {P : Nat → Prop} (h0 : P 0) (h1 : P 1) (h2 : P 2) (h3 : P 3) (h4 : P 4) (h5 : P 5) (h6 : P 6) (h7 : P 7) (h8 : P 8) (h9 : P 9) (h10 : P 10) (h11 : P 11) (h12 : P 12) (h13 : P 13) (h14 : P 14) (h15 : P 15) : ∀ i, i < 16 → P i := by
  intro i hi
  rcases i with _ | _ | _ | _ | _ | _ | _ | _ | _ | _ | _ | _ | _ | _ | _ | _ | i
  all_goals first | assumption | omega
theorem cnt16_size (l : List Int) : (cnt16 l).size = 16 := rfl
theorem is16_size (l : List Int) : (is16 l).size = 16 := rfl
theorem cnt16_get (l : List Int) : ∀ i, i < 16 → (cnt16 l)[i]? = some (.int .i64 (cw l i)) :=
  sixteen rfl rfl rfl rfl rfl rfl rfl rfl rfl rfl rfl rfl rfl rfl rfl rfl
theorem is16_get (l : List Int) : ∀ i, i < 16 → (is16 l)[i]? = some (.bool (decide ((i : Int) ∈ l))) :=
  sixteen rfl rfl rfl rfl rfl rfl rfl rfl rfl rfl rfl rfl rfl rfl rfl rfl
theorem cnt16_set (l : List Int) (i : Nat) (hi : i < 16) : (cnt16 l).setIfInBounds i (.int .i64 (cw (l ++ [(i : Int)]) i)) = cnt16 (l ++ [(i : Int)]) := by
  apply Array.ext_getElem?
  intro k
  rw [Array.getElem?_setIfInBounds]
  by_cases hk : k < 16
  · by_cases h : i = k
    · subst h; rw [if_pos rfl, if_pos (by rw [cnt16_size]; exact hi), cnt16_get _ _ hk]
    · rw [if_neg h, cnt16_get _ _ hk, cnt16_get _ _ hk, cw_other _ _ _ (Ne.symm h)]
  · rw [if_neg (by omega), Array.getElem?_eq_none (by rw [cnt16_size]; omega), Array.getElem?_eq_none (by rw [cnt16_size]; omega)]
theorem is16_set (l : List Int) (i : Nat) (hi : i < 16) : (is16 l).setIfInBounds i (.bool true) = is16 (l ++ [(i : Int)]) := by
  apply Array.ext_getElem?
  intro k
  rw [Array.getElem?_setIfInBounds]
  by_cases hk : k < 16
  · by_cases h : i = k
    · subst h; rw [if_pos rfl, if_pos (by rw [is16_size]; exact hi), is16_get _ _ hk]; simp
    · rw [if_neg h, is16_get _ _ hk, is16_get _ _ hk]
      have : ¬ (k : Int) = (i : Int) := by omega
      simp [this]
  · rw [if_neg (by omega), Array.getElem?_eq_none (by rw [is16_size]; omega), Array.getElem?_eq_none (by rw [is16_size]; omega)]
theorem cw_nil (i : Nat) : cw [] i = 0 := by unfold cw wrap64; simp
theorem cnt16_nil : (#[.int .i64 0, .int .i64 0, .int .i64 0, .int .i64 0, .int .i64 0, .int .i64 0, .int .i64 0, .int .i64 0, .int .i64 0, .int .i64 0, .int .i64 0, .int .i64 0, .int .i64 0, .int .i64 0, .int .i64 0, .int .i64 0] : Array Value) = cnt16 [] := by unfold cnt16; simp only [cw_nil]
theorem is16_nil : (#[.bool false, .bool false, .bool false, .bool false, .bool false, .bool false, .bool false, .bool false, .bool false, .bool false, .bool false, .bool false, .bool false, .bool false, .bool false, .bool false] : Array Value) = is16 [] := rfl
theorem cnt16_list (l : List Int) : (cnt16 l).toList = [.int .i64 (cw l 0), .int .i64 (cw l 1), .int .i64 (cw l 2), .int .i64 (cw l 3), .int .i64 (cw l 4), .int .i64 (cw l 5), .int .i64 (cw l 6), .int .i64 (cw l 7), .int .i64 (cw l 8), .int .i64 (cw l 9), .int .i64 (cw l 10), .int .i64 (cw l 11), .int .i64 (cw l 12), .int .i64 (cw l 13), .int .i64 (cw l 14), .int .i64 (cw l 15)] := rfl
theorem is16_list (l : List Int) : (is16 l).toList = [.bool (decide ((0 : Int) ∈ l)), .bool (decide ((1 : Int) ∈ l)), .bool (decide ((2 : Int) ∈ l)), .bool (decide ((3 : Int) ∈ l)), .bool (decide ((4 : Int) ∈ l)), .bool (decide ((5 : Int) ∈ l)), .bool (decide ((6 : Int) ∈ l)), .bool (decide ((7 : Int) ∈ l)), .bool (decide ((8 : Int) ∈ l)), .bool (decide ((9 : Int) ∈ l)), .bool (decide ((10 : Int) ∈ l)), .bool (decide ((11 : Int) ∈ l)), .bool (decide ((12 : Int) ∈ l)), .bool (decide ((13 : Int) ∈ l)), .bool (decide ((14 : Int) ∈ l)), .bool (decide ((15 : Int) ∈ l))] := rfl
attribute [go_sem] cnt16_size is16_size
theorem row_is16 {W : World} {l : List Int} {t : TypeId} {b : Nat} [h : EqW b W] : row? (W.alloc (.cells (is16 l) t)) b 0 16 = some (is16 l).toList := row_alloc_at
theorem row_cnt16 {W : World} {l : List Int} {t : TypeId} {b : Nat} [h : EqW b W] : row? (W.alloc (.cells (cnt16 l) t)) b 0 16 = some (cnt16 l).toList := row_alloc_at
theorem put_is16 {W : World} {l : List Int} {c : Array Value} {t : TypeId} {b : Nat} [h : EqW b W] (hc : c.size = 16) : put? (W.alloc (.cells c t)) b 0 (is16 l).toList = some (W.alloc (.cells (is16 l) t)) := by
  rw [put_alloc_at]
  have e1 : c.toList.drop (0 + (is16 l).toList.length) = [] := List.drop_eq_nil_of_le (by show c.toList.length ≤ 0 + 16; simp [hc])
  rw [if_pos ⟨by show 0 + 16 ≤ c.size; omega, rfl⟩, e1, List.take_zero, List.nil_append, List.append_nil]
theorem put_cnt16 {W : World} {l : List Int} {c : Array Value} {t : TypeId} {b : Nat} [h : EqW b W] (hc : c.size = 16) : put? (W.alloc (.cells c t)) b 0 (cnt16 l).toList = some (W.alloc (.cells (cnt16 l) t)) := by
  rw [put_alloc_at]
  have e1 : c.toList.drop (0 + (cnt16 l).toList.length) = [] := List.drop_eq_nil_of_le (by show c.toList.length ≤ 0 + 16; simp [hc])
  rw [if_pos ⟨by show 0 + 16 ≤ c.size; omega, rfl⟩, e1, List.take_zero, List.nil_append, List.append_nil]
theorem sc_is16 (a : Addr) (l : List Int) : storeCells a (is16 l).toList 0 = storeRow a (is16 l).toList := rfl
theorem sc_cnt16 (a : Addr) (l : List Int) : storeCells a (cnt16 l).toList 0 = storeRow a (cnt16 l).toList := rfl
theorem ta_is16 (l : List Int) : (is16 l).toList.toArray = is16 l := rfl
theorem ta_cnt16 (l : List Int) : (cnt16 l).toList.toArray = cnt16 l := rfl
theorem put_is16' {W : World} {l l0 : List Int} {t : TypeId} {b : Nat} [h : EqW b W] : put? (W.alloc (.cells (is16 l0) t)) b 0 (is16 l).toList = some (W.alloc (.cells (is16 l) t)) := put_is16 rfl
theorem put_cnt16' {W : World} {l l0 : List Int} {t : TypeId} {b : Nat} [h : EqW b W] : put? (W.alloc (.cells (cnt16 l0) t)) b 0 (cnt16 l).toList = some (W.alloc (.cells (cnt16 l) t)) := put_cnt16 rfl
attribute [go_sem high] row_is16 row_cnt16 put_is16' put_cnt16' sc_is16 sc_cnt16 ta_is16 ta_cnt16
end Go.Proofs.Ythackfblfkpddaa
