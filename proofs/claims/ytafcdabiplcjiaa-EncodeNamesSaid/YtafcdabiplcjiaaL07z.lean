/- Arrays of eight marks; the functions that a function calls. -/
import Derived.Test.YtafcdabiplcjiaaL07g
import Derived.Test.YtafcdabiplcjiaaOwn
import Derived.Deep.DeepMust
namespace Go.Proofs.Ytafcdabiplcjiaa
open Go.RowKit
set_option linter.unusedSimpArgs false
set_option linter.unusedVariables false

def b8 (h : Nat → Bool) : Array Value := #[.bool (h 0), .bool (h 1), .bool (h 2), .bool (h 3), .bool (h 4), .bool (h 5), .bool (h 6), .bool (h 7)]
theorem eight {P : Nat → Prop} (h0 : P 0) (h1 : P 1) (h2 : P 2) (h3 : P 3) (h4 : P 4) (h5 : P 5) (h6 : P 6) (h7 : P 7) : ∀ i, i < 8 → P i := by
  intro i hi
  rcases i with _ | _ | _ | _ | _ | _ | _ | _ | i
  all_goals first | assumption | omega
theorem b8_size (h : Nat → Bool) : (b8 h).size = 8 := rfl
theorem b8_get (h : Nat → Bool) : ∀ i, i < 8 → (b8 h)[i]? = some (.bool (h i)) := eight rfl rfl rfl rfl rfl rfl rfl rfl
theorem b8_set (h : Nat → Bool) (i : Nat) (v : Bool) (hi : i < 8) : (b8 h).setIfInBounds i (.bool v) = b8 (fun k => if k = i then v else h k) := by
  apply Array.ext_getElem?
  intro k
  rw [Array.getElem?_setIfInBounds]
  by_cases hk : k < 8
  · by_cases e : i = k
    · subst e; rw [if_pos rfl, if_pos (by rw [b8_size]; exact hi), b8_get _ _ hk]; simp
    · rw [if_neg e, b8_get _ _ hk, b8_get _ _ hk, if_neg (Ne.symm e)]
  · rw [if_neg (by omega), Array.getElem?_eq_none (by rw [b8_size]; omega), Array.getElem?_eq_none (by rw [b8_size]; omega)]
theorem b8_nil : (#[.bool false, .bool false, .bool false, .bool false, .bool false, .bool false, .bool false, .bool false] : Array Value) = b8 (fun _ => false) := rfl
theorem row_b8 {W : World} {h : Nat → Bool} {t : TypeId} {b : Nat} [e : EqW b W] : row? (W.alloc (.cells (b8 h) t)) b 0 8 = some (b8 h).toList := row_alloc_at
theorem put_b8 {W : World} {h h0 : Nat → Bool} {t : TypeId} {b : Nat} [e : EqW b W] : put? (W.alloc (.cells (b8 h0) t)) b 0 (b8 h).toList = some (W.alloc (.cells (b8 h) t)) := by
  rw [put_alloc_at]
  have e1 : (b8 h0).toList.drop (0 + (b8 h).toList.length) = [] := List.drop_eq_nil_of_le (by show (b8 h0).toList.length ≤ 0 + 8; simp [b8_size])
  rw [if_pos ⟨by show 0 + 8 ≤ (b8 h0).size; rw [b8_size]; omega, rfl⟩, e1, List.take_zero, List.nil_append, List.append_nil]
theorem sc_b8 (a : Addr) (h : Nat → Bool) : storeCells a (b8 h).toList 0 = storeRow a (b8 h).toList := rfl
theorem ta_b8 (h : Nat → Bool) : (b8 h).toList.toArray = b8 h := rfl
attribute [go_sem] b8_size
attribute [go_sem high] row_b8 put_b8 sc_b8 ta_b8
/-- f calls c. -/
def callsTo (f : Fn) (c : Nat) : Bool := f.blocks.any (fun b => decide (b.jump.kind = 4) && decide (b.jump.fn = (c : Int)))
def callsL (f : Fn) : List Int := ((List.range 8).filter (callsTo f)).map (fun c : Nat => (c : Int))
theorem any_snoc {α : Type} {p : α → Bool} {xs : List α} {k : Nat} {x : α} (h : Hid (xs[k]? = some x)) : (xs.take (k + 1)).any p = ((xs.take k).any p || p x) := by
  rw [List.take_add_one, h.out]; simp [List.any_append]
theorem ju_fn8 {j : Ju} (h : juErr j = 0) (h4 : j.kind = 4) : 0 ≤ j.fn ∧ j.fn < 8 := by
  have h := (juErr_iff j).1 h; unfold juOk juPre at h; grind
theorem fn_made {f : Fn} (h : fnErr f = 0) : madeB f = true := by
  unfold fnErr at h
  split at h
  · cases h
  · split at h
    · cases h
    · simpa using (by assumption : ¬ madeB f = false)
theorem slT_int : SlT Try.prog 109 3 1 8 := SlT.mk' (z := .int .i64 0) Try.underlying109 (by kernel_rfl) rfl (by omega)
def callsUpto (f : Fn) (q : Nat) : List Int := ((List.range q).filter (callsTo f)).map (fun c : Nat => (c : Int))
theorem callsUpto_succ (f : Fn) (q : Nat) : callsUpto f (q + 1) = callsUpto f q ++ (if callsTo f q = true then [(q : Int)] else []) := by
  unfold callsUpto; rw [List.range_succ, List.filter_append, List.map_append]
  cases h : callsTo f q <;> simp [h]
theorem callsUpto_len (f : Fn) (q : Nat) : (callsUpto f q).length ≤ q := by
  unfold callsUpto; rw [List.length_map]
  have := List.length_filter_le (callsTo f) (List.range q); simpa using this
end Go.Proofs.Ytafcdabiplcjiaa
