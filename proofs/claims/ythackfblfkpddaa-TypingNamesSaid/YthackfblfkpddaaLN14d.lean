/- Layer 14: the law TypingNames: the walk. Printed by gen14n.py. -/
import Derived.Test.YthackfblfkpddaaLN14c
namespace Go.Proofs.Ythackfblfkpddaa
open Go.RowKit
set_option linter.unusedSimpArgs false
set_option linter.unusedVariables false
def ph11 (w wb : World) (i : Nat) (vs : Nat → Value) (wz : World) : Prop :=
  match i with
  | 0 => vs 0 = .slice (some ⟨w.heap.size, 0, none⟩) 4 4
  | 1 => vs 1 = .agg #[.int .u8 1, .int .i64 1, .int .i64 0, .bool false, .int .u8 0]
  | 2 => vs 2 = .agg #[.int .u8 2, .int .i64 0, .int .i64 1, .bool true, .int .u8 2]
  | 3 => vs 3 = .agg #[.int .u8 3, .int .u8 0, .int .u8 0, .int .u8 1, .int .i64 1, .int .i64 0, .bool false, .int .u8 0, .int .u8 2, .int .i64 0, .int .i64 1, .bool true, .int .u8 2, .int .i64 0, .bool false, .int .u8 0]
  | 4 => vs 4 = .tuple #[.agg #[.int .u8 2, .int .u8 0], .int .i64 0]
  | 5 => vs 5 = .tuple #[.agg #[.int .u8 2, .int .u8 0], .int .i64 0]
  | 6 => vs 6 = .agg #[.int .u8 2, .int .u8 0]
  | 7 => vs 7 = .int .i64 0
  | 8 => BoxZV wb (.cells #[.int .u8 0, .int .u8 0] 23) (.cells #[.int .u8 2, .int .u8 0] 23) (vs 8) wz
  | 9 => BoxV wb (.cells #[.int .u8 2, .int .u8 0] 23) (vs 8) wz
  | _ => True
theorem ph11_stay (w0 wb : World) (i : Nat) (vs : Nat → Value) (w w' : World) (g : Rho wb (.cells #[.int .u8 0, .int .u8 0] 23) (.cells #[.int .u8 2, .int .u8 0] 23) w w') (h : ph11 w0 wb i vs w) : ph11 w0 wb i vs w' := by
  unfold ph11 at h ⊢
  split at h <;> first
    | exact h
    | exact BoxZV.stay g h
    | exact BoxV.stay g h
theorem ph11_loc (w0 wb : World) (D : Nat → List Nat) (hD : (D 9).elem 8 = true) (i : Nat) (vs vs' : Nat → Value) (w : World) (h : ∀ j, j = i ∨ j ∈ D i → vs j = vs' j) (hp : ph11 w0 wb i vs w) : ph11 w0 wb i vs' w := by
  unfold ph11 at hp ⊢
  split at hp <;> (try dsimp only at hp ⊢) <;> first
    | (rw [← h 8 (Or.inr (List.mem_of_elem_eq_true hD))]; exact hp)
    | (rw [← h _ (Or.inl rfl)]; exact hp)
    | trivial
def ph12 (w wb : World) (i : Nat) (vs : Nat → Value) (wz : World) : Prop :=
  match i with
  | 0 => vs 0 = .slice (some ⟨w.heap.size, 0, none⟩) 4 4
  | 1 => vs 1 = .agg #[.int .u8 2, .int .i64 0, .int .i64 1, .bool true, .int .u8 2]
  | 2 => vs 2 = .agg #[.int .u8 1, .int .i64 2, .int .i64 0, .bool false, .int .u8 0]
  | 3 => vs 3 = .agg #[.int .u8 2, .int .u8 5, .int .u8 0, .int .u8 2, .int .i64 0, .int .i64 1, .bool true, .int .u8 2, .int .u8 1, .int .i64 2, .int .i64 0, .bool false, .int .u8 0, .int .i64 0, .bool false, .int .u8 0]
  | 4 => vs 4 = .tuple #[.agg #[.int .u8 1, .int .u8 0], .int .i64 0]
  | 5 => vs 5 = .tuple #[.agg #[.int .u8 1, .int .u8 0], .int .i64 0]
  | 6 => vs 6 = .agg #[.int .u8 1, .int .u8 0]
  | 7 => vs 7 = .int .i64 0
  | 8 => BoxZV wb (.cells #[.int .u8 0, .int .u8 0] 23) (.cells #[.int .u8 1, .int .u8 0] 23) (vs 8) wz
  | 9 => BoxV wb (.cells #[.int .u8 1, .int .u8 0] 23) (vs 8) wz
  | _ => True
theorem ph12_stay (w0 wb : World) (i : Nat) (vs : Nat → Value) (w w' : World) (g : Rho wb (.cells #[.int .u8 0, .int .u8 0] 23) (.cells #[.int .u8 1, .int .u8 0] 23) w w') (h : ph12 w0 wb i vs w) : ph12 w0 wb i vs w' := by
  unfold ph12 at h ⊢
  split at h <;> first
    | exact h
    | exact BoxZV.stay g h
    | exact BoxV.stay g h
theorem ph12_loc (w0 wb : World) (D : Nat → List Nat) (hD : (D 9).elem 8 = true) (i : Nat) (vs vs' : Nat → Value) (w : World) (h : ∀ j, j = i ∨ j ∈ D i → vs j = vs' j) (hp : ph12 w0 wb i vs w) : ph12 w0 wb i vs' w := by
  unfold ph12 at hp ⊢
  split at hp <;> (try dsimp only at hp ⊢) <;> first
    | (rw [← h 8 (Or.inr (List.mem_of_elem_eq_true hD))]; exact hp)
    | (rw [← h _ (Or.inl rfl)]; exact hp)
    | trivial
def ph18 (w wb : World) (i : Nat) (v : Value) (wz : World) : Prop :=
  match i with
  | 0 => v = .slice (some ⟨w.heap.size, 0, none⟩) 4 4
  | 1 => v = .agg #[.int .i64 1, .bool true, .int .u8 2]
  | 2 => v = .agg #[.int .u8 1, .int .i64 1, .int .i64 0, .bool false, .int .u8 0]
  | 3 => v = .agg #[.int .u8 1, .int .u8 0, .int .u8 0, .int .u8 1, .int .i64 1, .int .i64 0, .bool false, .int .u8 0, .int .u8 0, .int .i64 0, .int .i64 0, .bool false, .int .u8 0, .int .i64 0, .bool false, .int .u8 0]
  | 4 => v = .agg #[.int .u8 1, .int .i64 1, .bool true, .int .u8 2, .int .u8 1, .int .u8 0, .int .u8 0, .int .u8 1, .int .i64 1, .int .i64 0, .bool false, .int .u8 0, .int .u8 0, .int .i64 0, .int .i64 0, .bool false, .int .u8 0, .int .i64 0, .bool false, .int .u8 0, .int .u8 0, .int .i64 0, .int .i64 0, .bool false, .int .u8 0, .int .i64 0]
  | 5 => v = .int .i64 42
  | 6 => v = .bool true
  | 7 => v = .bool true
  | 8 => v = .slice (some ⟨w.heap.size, 0, none⟩) 4 4
  | 9 => v = .agg #[.int .i64 2, .bool true, .int .u8 0]
  | 10 => v = .agg #[.int .u8 1, .int .i64 1, .int .i64 0, .bool false, .int .u8 0]
  | 11 => v = .agg #[.int .u8 1, .int .u8 0, .int .u8 0, .int .u8 1, .int .i64 1, .int .i64 0, .bool false, .int .u8 0, .int .u8 0, .int .i64 0, .int .i64 0, .bool false, .int .u8 0, .int .i64 0, .bool false, .int .u8 0]
  | 12 => v = .agg #[.int .u8 1, .int .i64 2, .bool true, .int .u8 0, .int .u8 1, .int .u8 0, .int .u8 0, .int .u8 1, .int .i64 1, .int .i64 0, .bool false, .int .u8 0, .int .u8 0, .int .i64 0, .int .i64 0, .bool false, .int .u8 0, .int .i64 0, .bool false, .int .u8 0, .int .u8 0, .int .i64 0, .int .i64 0, .bool false, .int .u8 0, .int .i64 0]
  | 13 => v = .int .i64 0
  | 14 => v = .bool true
  | 15 => v = .bool true
  | 16 => v = .bool true
  | 17 => v = .slice (some ⟨w.heap.size, 0, none⟩) 4 4
  | 18 => v = .agg #[.int .u8 2, .int .i64 0, .int .i64 1, .bool true, .int .u8 2]
  | 19 => v = .agg #[.int .u8 2, .int .i64 0, .bool false, .int .u8 0, .int .u8 0, .int .u8 0, .int .u8 0, .int .u8 0, .int .i64 0, .int .i64 0, .bool false, .int .u8 0, .int .u8 0, .int .i64 0, .int .i64 0, .bool false, .int .u8 0, .int .i64 0, .bool false, .int .u8 0, .int .u8 2, .int .i64 0, .int .i64 1, .bool true, .int .u8 2, .int .i64 0]
  | 20 => v = .int .i64 0
  | 21 => v = .bool true
  | 22 => v = .bool true
  | 23 => v = .bool true
  | 24 => v = .slice (some ⟨w.heap.size, 0, none⟩) 4 4
  | 25 => v = .agg #[.int .i64 3, .bool false, .int .u8 0]
  | 26 => v = .agg #[.int .u8 2, .int .i64 0, .int .i64 3, .bool false, .int .u8 0]
  | 27 => v = .agg #[.int .u8 4, .int .i64 0, .bool false, .int .u8 0, .int .u8 0, .int .u8 0, .int .u8 0, .int .u8 0, .int .i64 0, .int .i64 0, .bool false, .int .u8 0, .int .u8 0, .int .i64 0, .int .i64 0, .bool false, .int .u8 0, .int .i64 0, .bool false, .int .u8 0, .int .u8 2, .int .i64 0, .int .i64 3, .bool false, .int .u8 0, .int .i64 0]
  | 28 => v = .int .i64 42
  | 29 => v = .bool true
  | 30 => v = .bool true
  | 31 => v = .bool true
  | 32 => v = .slice (some ⟨w.heap.size, 0, none⟩) 4 4
  | 33 => v = .agg #[.int .u8 3, .int .i64 0, .bool false, .int .u8 0, .int .u8 0, .int .u8 0, .int .u8 0, .int .u8 0, .int .i64 0, .int .i64 0, .bool false, .int .u8 0, .int .u8 0, .int .i64 0, .int .i64 0, .bool false, .int .u8 0, .int .i64 0, .bool false, .int .u8 0, .int .u8 0, .int .i64 0, .int .i64 0, .bool false, .int .u8 0, .int .i64 3]
  | 34 => v = .int .i64 0
  | 35 => v = .bool true
  | 36 => v = .bool true
  | 37 => v = .bool true
  | 38 => v = .slice (some ⟨w.heap.size, 0, none⟩) 4 4
  | 39 => v = .agg #[.int .u8 3, .int .i64 0, .bool false, .int .u8 0, .int .u8 0, .int .u8 0, .int .u8 0, .int .u8 0, .int .i64 0, .int .i64 0, .bool false, .int .u8 0, .int .u8 0, .int .i64 0, .int .i64 0, .bool false, .int .u8 0, .int .i64 0, .bool false, .int .u8 0, .int .u8 0, .int .i64 0, .int .i64 0, .bool false, .int .u8 0, .int .i64 4]
  | 40 => v = .int .i64 6
  | 41 => v = .bool true
  | 42 => v = .bool true
  | 43 => v = .bool true
  | 44 => v = .slice (some ⟨w.heap.size, 0, none⟩) 4 4
  | 45 => v = .agg #[.int .u8 3, .int .i64 0, .bool false, .int .u8 0, .int .u8 0, .int .u8 0, .int .u8 0, .int .u8 0, .int .i64 0, .int .i64 0, .bool false, .int .u8 0, .int .u8 0, .int .i64 0, .int .i64 0, .bool false, .int .u8 0, .int .i64 0, .bool false, .int .u8 0, .int .u8 0, .int .i64 0, .int .i64 0, .bool false, .int .u8 0, .int .i64 16]
  | 46 => v = .int .i64 8
  | 47 => v = .bool true
  | 48 => v = .bool true
  | 49 => v = .bool true
  | 50 => v = .agg #[.int .u8 0, .int .i64 0, .bool false, .int .u8 0, .int .u8 0, .int .u8 0, .int .u8 0, .int .u8 0, .int .i64 0, .int .i64 0, .bool false, .int .u8 0, .int .u8 0, .int .i64 0, .int .i64 0, .bool false, .int .u8 0, .int .i64 0, .bool false, .int .u8 0, .int .u8 0, .int .i64 0, .int .i64 0, .bool false, .int .u8 0, .int .i64 0]
  | 51 => v = .int .i64 8
  | 52 => v = .bool true
  | 53 => v = .bool true
  | 54 => v = .bool true
  | _ => True
theorem ph18_stay (w0 wb : World) (i : Nat) (v : Value) (w w' : World) (g : Grow w w') (h : ph18 w0 wb i v w) : ph18 w0 wb i v w' := by
  unfold ph18 at h ⊢
  split at h <;> first
    | exact h
def ph20 (w wb : World) (i : Nat) (v : Value) (wz : World) : Prop :=
  match i with
  | 0 => v = .agg #[.int .u8 3, .int .i64 0, .int .i64 2, .bool false, .int .u8 0]
  | 1 => v = .agg #[.int .u8 2, .int .i64 0, .int .i64 1, .bool false, .int .u8 0]
  | 2 => ∃ b, v = .slice (some ⟨b, 0, none⟩) 2 2 ∧ Sl (fun _ => True) wz (.slice (some ⟨b, 0, none⟩) 2 2) [mvA, prA]
  | 3 => v = .agg #[.int .i64 0, .bool false, .int .u8 0]
  | 4 => v = .int .i64 0
  | 5 => v = .bool true
  | 6 => v = .bool true
  | 7 => v = .agg #[.int .u8 2, .int .i64 0, .int .i64 1, .bool false, .int .u8 0]
  | 8 => v = .agg #[.int .u8 3, .int .i64 0, .int .i64 2, .bool false, .int .u8 0]
  | 9 => ∃ b, v = .slice (some ⟨b, 0, none⟩) 2 2 ∧ Sl (fun _ => True) wz (.slice (some ⟨b, 0, none⟩) 2 2) [prA, mvA]
  | 10 => v = .agg #[.int .i64 0, .bool false, .int .u8 0]
  | 11 => v = .int .i64 42
  | 12 => v = .bool true
  | 13 => v = .bool true
  | 14 => v = .bool true
  | 15 => v = .agg #[.int .u8 3, .int .i64 0, .int .i64 2, .bool false, .int .u8 0]
  | 16 => ∃ b, v = .slice (some ⟨b, 0, none⟩) 1 1 ∧ Sl (fun _ => True) wz (.slice (some ⟨b, 0, none⟩) 1 1) [mvA]
  | 17 => v = .agg #[.int .i64 0, .bool false, .int .u8 0]
  | 18 => v = .int .i64 42
  | 19 => v = .bool true
  | 20 => v = .bool true
  | 21 => v = .bool true
  | 22 => v = .agg #[.int .u8 3, .int .i64 0, .int .i64 2, .bool false, .int .u8 0]
  | 23 => v = .agg #[.int .u8 2, .int .i64 0, .int .i64 1, .bool false, .int .u8 0]
  | 24 => v = .agg #[.int .u8 2, .int .i64 0, .int .i64 1, .bool false, .int .u8 0]
  | 25 => ∃ b, v = .slice (some ⟨b, 0, none⟩) 3 3 ∧ Sl (fun _ => True) wz (.slice (some ⟨b, 0, none⟩) 3 3) [mvA, prA, prA]
  | 26 => v = .agg #[.int .i64 0, .bool false, .int .u8 0]
  | 27 => v = .int .i64 42
  | 28 => v = .bool true
  | 29 => v = .bool true
  | 30 => v = .bool true
  | 31 => v = .agg #[.int .u8 3, .int .i64 0, .int .i64 2, .bool false, .int .u8 0]
  | 32 => v = .agg #[.int .u8 2, .int .i64 0, .int .i64 1, .bool false, .int .u8 0]
  | 33 => ∃ b, v = .slice (some ⟨b, 0, none⟩) 2 2 ∧ Sl (fun _ => True) wz (.slice (some ⟨b, 0, none⟩) 2 2) [mvA, prA]
  | 34 => v = .agg #[.int .i64 1, .bool false, .int .u8 0]
  | 35 => v = .int .i64 42
  | 36 => v = .bool true
  | 37 => v = .bool true
  | 38 => v = .bool true
  | 39 => v = .agg #[.int .u8 3, .int .i64 0, .int .i64 2, .bool false, .int .u8 0]
  | 40 => v = .agg #[.int .u8 2, .int .i64 0, .int .i64 1, .bool false, .int .u8 0]
  | 41 => ∃ b, v = .slice (some ⟨b, 0, none⟩) 2 2 ∧ Sl (fun _ => True) wz (.slice (some ⟨b, 0, none⟩) 2 2) [mvA, prA]
  | 42 => v = .agg #[.int .i64 3, .bool false, .int .u8 0]
  | 43 => v = .int .i64 6
  | 44 => v = .bool true
  | 45 => v = .bool true
  | 46 => v = .bool true
  | 47 => v = .agg #[.int .u8 3, .int .i64 0, .int .i64 2, .bool false, .int .u8 0]
  | 48 => v = .agg #[.int .u8 2, .int .i64 0, .int .i64 1, .bool false, .int .u8 0]
  | 49 => ∃ b, v = .slice (some ⟨b, 0, none⟩) 2 2 ∧ Sl (fun _ => True) wz (.slice (some ⟨b, 0, none⟩) 2 2) [mvA, prA]
  | 50 => v = .agg #[.int .i64 2, .bool true, .int .u8 0]
  | 51 => v = .int .i64 0
  | 52 => v = .bool true
  | 53 => v = .bool true
  | 54 => v = .bool true
  | 55 => v = .agg #[.int .u8 2, .int .i64 0, .int .i64 1, .bool false, .int .u8 0]
  | 56 => v = .agg #[.int .i64 5, .bool false, .int .u8 0]
  | 57 => v = .agg #[.int .u8 2, .int .i64 0, .int .i64 5, .bool false, .int .u8 0]
  | 58 => ∃ b, v = .slice (some ⟨b, 0, none⟩) 2 2 ∧ Sl (fun _ => True) wz (.slice (some ⟨b, 0, none⟩) 2 2) [prA, p5A]
  | 59 => v = .agg #[.int .i64 0, .bool false, .int .u8 0]
  | 60 => v = .int .i64 6
  | 61 => v = .bool true
  | 62 => v = .bool true
  | 63 => v = .bool true
  | _ => True
theorem ph20_stay (w0 wb : World) (i : Nat) (v : Value) (w w' : World) (g : Grow w w') (h : ph20 w0 wb i v w) : ph20 w0 wb i v w' := by
  unfold ph20 at h ⊢
  split at h <;> first
    | exact h
    | (obtain ⟨b, e, s⟩ := h; exact ⟨b, e, s.mono g⟩)
def ph21 (w wb : World) (i : Nat) (v : Value) (wz : World) : Prop :=
  match i with
  | 0 => v = .agg #[.int .u8 3, .int .i64 0, .int .i64 2, .bool false, .int .u8 0]
  | 1 => v = .agg #[.int .u8 2, .int .i64 0, .int .i64 1, .bool false, .int .u8 0]
  | 2 => ∃ b, v = .slice (some ⟨b, 0, none⟩) 2 2 ∧ Sl (fun _ => True) wz (.slice (some ⟨b, 0, none⟩) 2 2) [mvA, prA]
  | 3 => v = .agg #[.int .i64 0, .bool false, .int .u8 0]
  | 4 => ∃ b B, v = .agg #[.slice (some ⟨b, 0, none⟩) 2 2] ∧ w.heap.size ≤ b ∧ PrAt B b wz (tF 2)
  | 5 => ∃ b, v = .pointer (some ⟨b, 0, none⟩) ∧ wb.heap.size ≤ b ∧ wz.heap[b]? = some (.cells #[.slice none 0 0] 43)
  | _ => True
theorem ph21_stay (w0 wb : World) (i : Nat) (v : Value) (w w' : World) (g : Grow w w') (h : ph21 w0 wb i v w) : ph21 w0 wb i v w' := by
  unfold ph21 at h ⊢
  split at h <;> first
    | exact h
    | (obtain ⟨b, e, s⟩ := h; exact ⟨b, e, s.mono g⟩)
    | (obtain ⟨b, B, e, hb, s⟩ := h; exact ⟨b, B, e, hb, s.keep (Agr.of_grow g) g.size⟩)
    | (obtain ⟨b, e, hb, h⟩ := h; exact ⟨b, e, hb, block_stay g h⟩)
set_option maxRecDepth 100000 in
set_option maxHeartbeats 32000000 in
theorem law_TypingNames (w : World) : Calls Try.prog 3 #[] w (Ret w (.bool true)) := by
  go_enter Try.func3, Try.ntmps3
  go_upto_region 4 with fail
  refine hide_wp (fun a ha => ?_)

  have S : St8 a 383 _ := ⟨by rw [ha.out]; rfl, by rw [ha.out], Lk.cons (k := 1) (v := .slice (some ⟨w.heap.size, 0, none⟩) 4 4) (by rw [ha.out]; rfl) (Lk.cons (k := 2) (v := .pointer (some ⟨w.heap.size + 1, 0, none⟩)) (by rw [ha.out]; rfl) (Lk.cons (k := 3) (v := .pointer (some ⟨w.heap.size + 1 + 1, 0, none⟩)) (by rw [ha.out]; rfl) (Lk.nil)))⟩
  clear ha
  go_upto_region 4 with fail
  refine wp_region_lit ?_
  refine st_val S (Op.move (.const (.slice (some ⟨w.heap.size, 0, none⟩) 4 4))) (.slice (some ⟨w.heap.size, 0, none⟩) 4 4) rfl rfl (wanted_none rfl _) (by simp [execOp, resolve, S.g 1 rfl, ev_c, ev_f]) ?_ (fun a S => ?_)
  · intro K' hK'
    go_wp2_with fail
    exact hK'
  refine st_val S (Op.load 26 (.const (.pointer (some ⟨w.heap.size + 1, 0, none⟩)))) (.agg #[.int .i64 1, .bool true, .int .u8 2]) rfl rfl (wanted_none rfl _) (by simp [execOp, resolve, S.g 2 rfl, ev_c, ev_f]) ?_ (fun a S => ?_)
  · intro K' hK'
    go_wp2_with fail
    exact hK'
  refine st_val S (Op.build 33 #[(0, .const (.int .u8 4)), (2, .const (.int .u8 1)), (5, .const (.agg #[.int .i64 1, .bool true, .int .u8 2]))]) (.agg #[.int .u8 4, .int .u8 0, .int .u8 1, .int .u8 0, .int .i64 0, .int .i64 0, .bool false, .int .u8 0, .int .u8 0, .int .i64 0, .int .i64 0, .bool false, .int .u8 0, .int .i64 1, .bool true, .int .u8 2]) rfl rfl (wanted_none rfl _) (by simp [execOp, resolve, S.g 37 rfl, ev_c, ev_f]) ?_ (fun a S => ?_)
  · intro K' hK'
    go_wp2_with fail
    exact hK'
  refine st_any S (Op.call { callee := Callee.value (Operand.func 6), args := #[.const (.slice (some ⟨w.heap.size, 0, none⟩) 4 4), .const (.agg #[.int .u8 4, .int .u8 0, .int .u8 1, .int .u8 0, .int .i64 0, .int .i64 0, .bool false, .int .u8 0, .int .u8 0, .int .i64 0, .int .i64 0, .bool false, .int .u8 0, .int .i64 1, .bool true, .int .u8 2])], argTypes := #[24, 33] }) (fun u w'' => u = .tuple #[.agg #[.int .u8 3, .int .u8 1], .int .i64 0] ∧ Grow (Wa w) w'') rfl rfl (wanted_none rfl _) (by simp [execOp, resolve, S.g 36 rfl, S.g 38 rfl, ev_c, ev_f]) ?_ (fun u w'' a h S => ?_)
  · intro K' hK'
    go_wp2_with ((go_at_call 6; ((with_reducible refine (sh_rv nr0 _ _ _ _ nr0_wf nr0_e (sh_at (by first | (simp only [hp_at, hp_alloc, hp_ext, hp_drew]; done) | (simp only [hp_at, hp_alloc, hp_ext, hp_drew]; kernel_rfl)))).mono ?_); rintro e w1 ⟨rfl, hb1⟩; obtain ⟨x1, rfl⟩ := ext_of_grow hb1; clear hb1)))
    exact hK' _ _ ⟨rfl, Gw.h⟩
  obtain ⟨rfl, hg⟩ := h
  obtain ⟨x1, rfl⟩ := ext_of_grow hg
  clear hg
  refine st_val S (Op.move (.const (.tuple #[.agg #[.int .u8 3, .int .u8 1], .int .i64 0]))) (.tuple #[.agg #[.int .u8 3, .int .u8 1], .int .i64 0]) rfl rfl (wanted_none rfl _) (by simp [execOp, resolve, S.g 39 rfl, ev_c, ev_f]) ?_ (fun a S => ?_)
  · intro K' hK'
    go_wp2_with fail
    exact hK'
  refine st_val S (Op.extract (.const (.tuple #[.agg #[.int .u8 3, .int .u8 1], .int .i64 0])) 0) (.agg #[.int .u8 3, .int .u8 1]) rfl rfl (wanted_none rfl _) (by simp [execOp, resolve, S.g 35 rfl, ev_c, ev_f]) ?_ (fun a S => ?_)
  · intro K' hK'
    go_wp2_with fail
    exact hK'
  refine st_val S (Op.extract (.const (.tuple #[.agg #[.int .u8 3, .int .u8 1], .int .i64 0])) 1) (.int .i64 0) rfl rfl (wanted_none rfl _) (by simp [execOp, resolve, S.g 35 rfl, ev_c, ev_f]) ?_ (fun a S => ?_)
  · intro K' hK'
    go_wp2_with fail
    exact hK'
  refine st_any S (Op.alloc 23) (fun u w'' => ∃ b, u = .pointer (some ⟨b, 0, none⟩) ∧ b = (ext (Wa w) x1).heap.size ∧ w'' = (ext (Wa w) x1).alloc (.cells #[.int .u8 0, .int .u8 0] 23)) rfl rfl (wanted_none rfl _) (by simp [execOp, resolve, ev_c, ev_f]) ?_ (fun u w'' a h S => ?_)
  · intro K' hK'
    go_wp2_with (fail)
    exact hK' _ _ ⟨_, rfl, by first | rfl | (simp only [size_ext, alloc_size]; done) | (simp only [size_ext, alloc_size]; omega), rfl⟩
  obtain ⟨p4, rfl, hp4, rfl⟩ := h
  haveI ep4 : EqW p4 (ext (Wa w) x1) := ⟨hp4⟩
  clear hp4
  refine st_put S (Op.store 23 (.const (.pointer (some ⟨p4, 0, none⟩))) (.const (.agg #[.int .u8 3, .int .u8 1]))) ((ext (Wa w) x1).alloc (.cells #[.int .u8 3, .int .u8 1] 23)) rfl (wanted_none rfl _) (by simp [execOp, resolve, S.g 4 rfl, S.g 40 rfl, ev_c, ev_f]) ?_ (fun a S => ?_)
  · intro K' hK'
    go_wp2_with fail
    exact hK' _
  refine st_val S (Op.assign (.const (.int .i64 0))) (.int .i64 0) rfl rfl (wanted_none rfl _) (by simp [execOp, resolve, S.g 41 rfl, ev_c, ev_f]) ?_ (fun a S => ?_)
  · intro K' hK'
    go_wp2_with fail
    exact hK'
  replace S : St8 a 383 _ := ⟨S.size, S.defers, Lk.cons (S.g 1 rfl) (Lk.cons (S.g 2 rfl) (Lk.cons (S.g 3 rfl) (Lk.cons (S.g 4 rfl) (Lk.cons (S.g 5 rfl) (Lk.nil)))))⟩
  go_upto_region 5 with fail
  refine wp_region_lit ?_
  refine st_val S (Op.move (.const (.slice (some ⟨w.heap.size, 0, none⟩) 4 4))) (.slice (some ⟨w.heap.size, 0, none⟩) 4 4) rfl rfl (wanted_none rfl _) (by simp [execOp, resolve, S.g 1 rfl, ev_c, ev_f]) ?_ (fun a S => ?_)
  · intro K' hK'
    go_wp2_with fail
    exact hK'
  refine st_val S (Op.load 26 (.const (.pointer (some ⟨w.heap.size + 1, 0, none⟩)))) (.agg #[.int .i64 1, .bool true, .int .u8 2]) rfl rfl (wanted_none rfl _) (by simp [execOp, resolve, S.g 2 rfl, ev_c, ev_f]) ?_ (fun a S => ?_)
  · intro K' hK'
    go_wp2_with fail
    exact hK'
  refine st_val S (Op.build 33 #[(0, .const (.int .u8 4)), (2, .const (.int .u8 2)), (5, .const (.agg #[.int .i64 1, .bool true, .int .u8 2]))]) (.agg #[.int .u8 4, .int .u8 0, .int .u8 2, .int .u8 0, .int .i64 0, .int .i64 0, .bool false, .int .u8 0, .int .u8 0, .int .i64 0, .int .i64 0, .bool false, .int .u8 0, .int .i64 1, .bool true, .int .u8 2]) rfl rfl (wanted_none rfl _) (by simp [execOp, resolve, S.g 44 rfl, ev_c, ev_f]) ?_ (fun a S => ?_)
  · intro K' hK'
    go_wp2_with fail
    exact hK'
  refine st_any S (Op.call { callee := Callee.value (Operand.func 6), args := #[.const (.slice (some ⟨w.heap.size, 0, none⟩) 4 4), .const (.agg #[.int .u8 4, .int .u8 0, .int .u8 2, .int .u8 0, .int .i64 0, .int .i64 0, .bool false, .int .u8 0, .int .u8 0, .int .i64 0, .int .i64 0, .bool false, .int .u8 0, .int .i64 1, .bool true, .int .u8 2])], argTypes := #[24, 33] }) (fun u w'' => u = .tuple #[.agg #[.int .u8 0, .int .u8 0], .int .i64 42] ∧ Grow ((ext (Wa w) x1).alloc (.cells #[.int .u8 3, .int .u8 1] 23)) w'') rfl rfl (wanted_none rfl _) (by simp [execOp, resolve, S.g 43 rfl, S.g 45 rfl, ev_c, ev_f]) ?_ (fun u w'' a h S => ?_)
  · intro K' hK'
    go_wp2_with ((go_at_call 6; ((with_reducible refine (sh_rv nr1 _ _ _ _ nr1_wf nr1_e (sh_at (by first | (simp only [hp_at, hp_alloc, hp_ext, hp_drew]; done) | (simp only [hp_at, hp_alloc, hp_ext, hp_drew]; kernel_rfl)))).mono ?_); rintro e w1 ⟨rfl, hb1⟩; obtain ⟨x1, rfl⟩ := ext_of_grow hb1; clear hb1)))
    exact hK' _ _ ⟨rfl, Gw.h⟩
  obtain ⟨rfl, hg⟩ := h
  obtain ⟨x2, rfl⟩ := ext_of_grow hg
  clear hg
  refine st_val S (Op.move (.const (.tuple #[.agg #[.int .u8 0, .int .u8 0], .int .i64 42]))) (.tuple #[.agg #[.int .u8 0, .int .u8 0], .int .i64 42]) rfl rfl (wanted_none rfl _) (by simp [execOp, resolve, S.g 46 rfl, ev_c, ev_f]) ?_ (fun a S => ?_)
  · intro K' hK'
    go_wp2_with fail
    exact hK'
  refine st_val S (Op.extract (.const (.tuple #[.agg #[.int .u8 0, .int .u8 0], .int .i64 42])) 0) (.agg #[.int .u8 0, .int .u8 0]) rfl rfl (wanted_none rfl _) (by simp [execOp, resolve, S.g 42 rfl, ev_c, ev_f]) ?_ (fun a S => ?_)
  · intro K' hK'
    go_wp2_with fail
    exact hK'
  refine st_val S (Op.extract (.const (.tuple #[.agg #[.int .u8 0, .int .u8 0], .int .i64 42])) 1) (.int .i64 42) rfl rfl (wanted_none rfl _) (by simp [execOp, resolve, S.g 42 rfl, ev_c, ev_f]) ?_ (fun a S => ?_)
  · intro K' hK'
    go_wp2_with fail
    exact hK'
  refine st_any S (Op.alloc 23) (fun u w'' => ∃ b, u = .pointer (some ⟨b, 0, none⟩) ∧ b = (ext ((ext (Wa w) x1).alloc (.cells #[.int .u8 3, .int .u8 1] 23)) x2).heap.size ∧ w'' = (ext ((ext (Wa w) x1).alloc (.cells #[.int .u8 3, .int .u8 1] 23)) x2).alloc (.cells #[.int .u8 0, .int .u8 0] 23)) rfl rfl (wanted_none rfl _) (by simp [execOp, resolve, ev_c, ev_f]) ?_ (fun u w'' a h S => ?_)
  · intro K' hK'
    go_wp2_with (fail)
    exact hK' _ _ ⟨_, rfl, by first | rfl | (simp only [size_ext, alloc_size]; done) | (simp only [size_ext, alloc_size]; omega), rfl⟩
  obtain ⟨p6, rfl, hp6, rfl⟩ := h
  haveI ep6 : EqW p6 (ext ((ext (Wa w) x1).alloc (.cells #[.int .u8 3, .int .u8 1] 23)) x2) := ⟨hp6⟩
  clear hp6
  refine st_put S (Op.store 23 (.const (.pointer (some ⟨p6, 0, none⟩))) (.const (.agg #[.int .u8 0, .int .u8 0]))) ((ext ((ext (Wa w) x1).alloc (.cells #[.int .u8 3, .int .u8 1] 23)) x2).alloc (.cells #[.int .u8 0, .int .u8 0] 23)) rfl (wanted_none rfl _) (by simp [execOp, resolve, S.g 6 rfl, S.g 47 rfl, ev_c, ev_f]) ?_ (fun a S => ?_)
  · intro K' hK'
    go_wp2_with fail
    exact hK' _
  refine st_val S (Op.assign (.const (.int .i64 42))) (.int .i64 42) rfl rfl (wanted_none rfl _) (by simp [execOp, resolve, S.g 48 rfl, ev_c, ev_f]) ?_ (fun a S => ?_)
  · intro K' hK'
    go_wp2_with fail
    exact hK'
  replace S : St8 a 383 _ := ⟨S.size, S.defers, Lk.cons (S.g 1 rfl) (Lk.cons (S.g 2 rfl) (Lk.cons (S.g 3 rfl) (Lk.cons (S.g 4 rfl) (Lk.cons (S.g 5 rfl) (Lk.cons (S.g 7 rfl) (Lk.nil))))))⟩
  obtain ⟨x3, hx⟩ := ext_of_grow (Gw.h : Grow ((ext (Wa w) x1).alloc (.cells #[.int .u8 3, .int .u8 1] 23)) ((ext ((ext (Wa w) x1).alloc (.cells #[.int .u8 3, .int .u8 1] 23)) x2).alloc (.cells #[.int .u8 0, .int .u8 0] 23)))
  rw [hx]
  clear hx
  clear ep6
  go_upto_region 6 with fail
  refine wp_region_lit ?_
  refine st_val S (Op.move (.const (.slice (some ⟨w.heap.size, 0, none⟩) 4 4))) (.slice (some ⟨w.heap.size, 0, none⟩) 4 4) rfl rfl (wanted_none rfl _) (by simp [execOp, resolve, S.g 1 rfl, ev_c, ev_f]) ?_ (fun a S => ?_)
  · intro K' hK'
    go_wp2_with fail
    exact hK'
  refine st_val S (Op.load 26 (.const (.pointer (some ⟨w.heap.size + 1, 0, none⟩)))) (.agg #[.int .i64 1, .bool true, .int .u8 2]) rfl rfl (wanted_none rfl _) (by simp [execOp, resolve, S.g 2 rfl, ev_c, ev_f]) ?_ (fun a S => ?_)
  · intro K' hK'
    go_wp2_with fail
    exact hK'
  refine st_val S (Op.build 33 #[(0, .const (.int .u8 4)), (2, .const (.int .u8 3)), (5, .const (.agg #[.int .i64 1, .bool true, .int .u8 2]))]) (.agg #[.int .u8 4, .int .u8 0, .int .u8 3, .int .u8 0, .int .i64 0, .int .i64 0, .bool false, .int .u8 0, .int .u8 0, .int .i64 0, .int .i64 0, .bool false, .int .u8 0, .int .i64 1, .bool true, .int .u8 2]) rfl rfl (wanted_none rfl _) (by simp [execOp, resolve, S.g 51 rfl, ev_c, ev_f]) ?_ (fun a S => ?_)
  · intro K' hK'
    go_wp2_with fail
    exact hK'
  refine st_any S (Op.call { callee := Callee.value (Operand.func 6), args := #[.const (.slice (some ⟨w.heap.size, 0, none⟩) 4 4), .const (.agg #[.int .u8 4, .int .u8 0, .int .u8 3, .int .u8 0, .int .i64 0, .int .i64 0, .bool false, .int .u8 0, .int .u8 0, .int .i64 0, .int .i64 0, .bool false, .int .u8 0, .int .i64 1, .bool true, .int .u8 2])], argTypes := #[24, 33] }) (fun u w'' => u = .tuple #[.agg #[.int .u8 0, .int .u8 0], .int .i64 42] ∧ Grow ((ext (Wa w) x1).alloc (.cells #[.int .u8 3, .int .u8 1] 23)) w'') rfl rfl (wanted_none rfl _) (by simp [execOp, resolve, S.g 50 rfl, S.g 52 rfl, ev_c, ev_f]) ?_ (fun u w'' a h S => ?_)
  · intro K' hK'
    go_wp2_with ((go_at_call 6; ((with_reducible refine (sh_rv nr2 _ _ _ _ nr2_wf nr2_e (sh_at (by first | (simp only [hp_at, hp_alloc, hp_ext, hp_drew]; done) | (simp only [hp_at, hp_alloc, hp_ext, hp_drew]; kernel_rfl)))).mono ?_); rintro e w1 ⟨rfl, hb1⟩; obtain ⟨x1, rfl⟩ := ext_of_grow hb1; clear hb1)))
    exact hK' _ _ ⟨rfl, Gw.h⟩
  obtain ⟨rfl, hg⟩ := h
  obtain ⟨x4, rfl⟩ := ext_of_grow hg
  clear hg
  refine st_val S (Op.move (.const (.tuple #[.agg #[.int .u8 0, .int .u8 0], .int .i64 42]))) (.tuple #[.agg #[.int .u8 0, .int .u8 0], .int .i64 42]) rfl rfl (wanted_none rfl _) (by simp [execOp, resolve, S.g 53 rfl, ev_c, ev_f]) ?_ (fun a S => ?_)
  · intro K' hK'
    go_wp2_with fail
    exact hK'
  refine st_val S (Op.extract (.const (.tuple #[.agg #[.int .u8 0, .int .u8 0], .int .i64 42])) 0) (.agg #[.int .u8 0, .int .u8 0]) rfl rfl (wanted_none rfl _) (by simp [execOp, resolve, S.g 49 rfl, ev_c, ev_f]) ?_ (fun a S => ?_)
  · intro K' hK'
    go_wp2_with fail
    exact hK'
  refine st_val S (Op.extract (.const (.tuple #[.agg #[.int .u8 0, .int .u8 0], .int .i64 42])) 1) (.int .i64 42) rfl rfl (wanted_none rfl _) (by simp [execOp, resolve, S.g 49 rfl, ev_c, ev_f]) ?_ (fun a S => ?_)
  · intro K' hK'
    go_wp2_with fail
    exact hK'
  refine st_any S (Op.alloc 23) (fun u w'' => ∃ b, u = .pointer (some ⟨b, 0, none⟩) ∧ b = (ext ((ext (Wa w) x1).alloc (.cells #[.int .u8 3, .int .u8 1] 23)) x4).heap.size ∧ w'' = (ext ((ext (Wa w) x1).alloc (.cells #[.int .u8 3, .int .u8 1] 23)) x4).alloc (.cells #[.int .u8 0, .int .u8 0] 23)) rfl rfl (wanted_none rfl _) (by simp [execOp, resolve, ev_c, ev_f]) ?_ (fun u w'' a h S => ?_)
  · intro K' hK'
    go_wp2_with (fail)
    exact hK' _ _ ⟨_, rfl, by first | rfl | (simp only [size_ext, alloc_size]; done) | (simp only [size_ext, alloc_size]; omega), rfl⟩
  obtain ⟨p8, rfl, hp8, rfl⟩ := h
  haveI ep8 : EqW p8 (ext ((ext (Wa w) x1).alloc (.cells #[.int .u8 3, .int .u8 1] 23)) x4) := ⟨hp8⟩
  clear hp8
  refine st_put S (Op.store 23 (.const (.pointer (some ⟨p8, 0, none⟩))) (.const (.agg #[.int .u8 0, .int .u8 0]))) ((ext ((ext (Wa w) x1).alloc (.cells #[.int .u8 3, .int .u8 1] 23)) x4).alloc (.cells #[.int .u8 0, .int .u8 0] 23)) rfl (wanted_none rfl _) (by simp [execOp, resolve, S.g 8 rfl, S.g 54 rfl, ev_c, ev_f]) ?_ (fun a S => ?_)
  · intro K' hK'
    go_wp2_with fail
    exact hK' _
  refine st_val S (Op.assign (.const (.int .i64 42))) (.int .i64 42) rfl rfl (wanted_none rfl _) (by simp [execOp, resolve, S.g 55 rfl, ev_c, ev_f]) ?_ (fun a S => ?_)
  · intro K' hK'
    go_wp2_with fail
    exact hK'
  replace S : St8 a 383 _ := ⟨S.size, S.defers, Lk.cons (S.g 1 rfl) (Lk.cons (S.g 2 rfl) (Lk.cons (S.g 3 rfl) (Lk.cons (S.g 4 rfl) (Lk.cons (S.g 5 rfl) (Lk.cons (S.g 7 rfl) (Lk.cons (S.g 9 rfl) (Lk.nil)))))))⟩
  obtain ⟨x5, hx⟩ := ext_of_grow (Gw.h : Grow ((ext (Wa w) x1).alloc (.cells #[.int .u8 3, .int .u8 1] 23)) ((ext ((ext (Wa w) x1).alloc (.cells #[.int .u8 3, .int .u8 1] 23)) x4).alloc (.cells #[.int .u8 0, .int .u8 0] 23)))
  rw [hx]
  clear hx
  clear ep8
  go_upto_region 7 with fail
  refine wp_region_lit ?_
  refine st_val S (Op.move (.const (.slice (some ⟨w.heap.size, 0, none⟩) 4 4))) (.slice (some ⟨w.heap.size, 0, none⟩) 4 4) rfl rfl (wanted_none rfl _) (by simp [execOp, resolve, S.g 1 rfl, ev_c, ev_f]) ?_ (fun a S => ?_)
  · intro K' hK'
    go_wp2_with fail
    exact hK'
  refine st_val S (Op.load 26 (.const (.pointer (some ⟨w.heap.size + 1, 0, none⟩)))) (.agg #[.int .i64 1, .bool true, .int .u8 2]) rfl rfl (wanted_none rfl _) (by simp [execOp, resolve, S.g 2 rfl, ev_c, ev_f]) ?_ (fun a S => ?_)
  · intro K' hK'
    go_wp2_with fail
    exact hK'
  refine st_val S (Op.build 33 #[(0, .const (.int .u8 5)), (5, .const (.agg #[.int .i64 1, .bool true, .int .u8 2]))]) (.agg #[.int .u8 5, .int .u8 0, .int .u8 0, .int .u8 0, .int .i64 0, .int .i64 0, .bool false, .int .u8 0, .int .u8 0, .int .i64 0, .int .i64 0, .bool false, .int .u8 0, .int .i64 1, .bool true, .int .u8 2]) rfl rfl (wanted_none rfl _) (by simp [execOp, resolve, S.g 58 rfl, ev_c, ev_f]) ?_ (fun a S => ?_)
  · intro K' hK'
    go_wp2_with fail
    exact hK'
  refine st_any S (Op.call { callee := Callee.value (Operand.func 6), args := #[.const (.slice (some ⟨w.heap.size, 0, none⟩) 4 4), .const (.agg #[.int .u8 5, .int .u8 0, .int .u8 0, .int .u8 0, .int .i64 0, .int .i64 0, .bool false, .int .u8 0, .int .u8 0, .int .i64 0, .int .i64 0, .bool false, .int .u8 0, .int .i64 1, .bool true, .int .u8 2])], argTypes := #[24, 33] }) (fun u w'' => u = .tuple #[.agg #[.int .u8 5, .int .u8 1], .int .i64 0] ∧ Grow ((ext (Wa w) x1).alloc (.cells #[.int .u8 3, .int .u8 1] 23)) w'') rfl rfl (wanted_none rfl _) (by simp [execOp, resolve, S.g 57 rfl, S.g 59 rfl, ev_c, ev_f]) ?_ (fun u w'' a h S => ?_)
  · intro K' hK'
    go_wp2_with ((go_at_call 6; ((with_reducible refine (sh_rv nr3 _ _ _ _ nr3_wf nr3_e (sh_at (by first | (simp only [hp_at, hp_alloc, hp_ext, hp_drew]; done) | (simp only [hp_at, hp_alloc, hp_ext, hp_drew]; kernel_rfl)))).mono ?_); rintro e w1 ⟨rfl, hb1⟩; obtain ⟨x1, rfl⟩ := ext_of_grow hb1; clear hb1)))
    exact hK' _ _ ⟨rfl, Gw.h⟩
  obtain ⟨rfl, hg⟩ := h
  obtain ⟨x6, rfl⟩ := ext_of_grow hg
  clear hg
  refine st_val S (Op.move (.const (.tuple #[.agg #[.int .u8 5, .int .u8 1], .int .i64 0]))) (.tuple #[.agg #[.int .u8 5, .int .u8 1], .int .i64 0]) rfl rfl (wanted_none rfl _) (by simp [execOp, resolve, S.g 60 rfl, ev_c, ev_f]) ?_ (fun a S => ?_)
  · intro K' hK'
    go_wp2_with fail
    exact hK'
  refine st_val S (Op.extract (.const (.tuple #[.agg #[.int .u8 5, .int .u8 1], .int .i64 0])) 0) (.agg #[.int .u8 5, .int .u8 1]) rfl rfl (wanted_none rfl _) (by simp [execOp, resolve, S.g 56 rfl, ev_c, ev_f]) ?_ (fun a S => ?_)
  · intro K' hK'
    go_wp2_with fail
    exact hK'
  refine st_val S (Op.extract (.const (.tuple #[.agg #[.int .u8 5, .int .u8 1], .int .i64 0])) 1) (.int .i64 0) rfl rfl (wanted_none rfl _) (by simp [execOp, resolve, S.g 56 rfl, ev_c, ev_f]) ?_ (fun a S => ?_)
  · intro K' hK'
    go_wp2_with fail
    exact hK'
  refine st_any S (Op.alloc 23) (fun u w'' => ∃ b, u = .pointer (some ⟨b, 0, none⟩) ∧ b = (ext ((ext (Wa w) x1).alloc (.cells #[.int .u8 3, .int .u8 1] 23)) x6).heap.size ∧ w'' = (ext ((ext (Wa w) x1).alloc (.cells #[.int .u8 3, .int .u8 1] 23)) x6).alloc (.cells #[.int .u8 0, .int .u8 0] 23)) rfl rfl (wanted_none rfl _) (by simp [execOp, resolve, ev_c, ev_f]) ?_ (fun u w'' a h S => ?_)
  · intro K' hK'
    go_wp2_with (fail)
    exact hK' _ _ ⟨_, rfl, by first | rfl | (simp only [size_ext, alloc_size]; done) | (simp only [size_ext, alloc_size]; omega), rfl⟩
  obtain ⟨p10, rfl, hp10, rfl⟩ := h
  haveI ep10 : EqW p10 (ext ((ext (Wa w) x1).alloc (.cells #[.int .u8 3, .int .u8 1] 23)) x6) := ⟨hp10⟩
  clear hp10
  refine st_put S (Op.store 23 (.const (.pointer (some ⟨p10, 0, none⟩))) (.const (.agg #[.int .u8 5, .int .u8 1]))) ((ext ((ext (Wa w) x1).alloc (.cells #[.int .u8 3, .int .u8 1] 23)) x6).alloc (.cells #[.int .u8 5, .int .u8 1] 23)) rfl (wanted_none rfl _) (by simp [execOp, resolve, S.g 10 rfl, S.g 61 rfl, ev_c, ev_f]) ?_ (fun a S => ?_)
  · intro K' hK'
    go_wp2_with fail
    exact hK' _
  refine st_val S (Op.assign (.const (.int .i64 0))) (.int .i64 0) rfl rfl (wanted_none rfl _) (by simp [execOp, resolve, S.g 62 rfl, ev_c, ev_f]) ?_ (fun a S => ?_)
  · intro K' hK'
    go_wp2_with fail
    exact hK'
  replace S : St8 a 383 _ := ⟨S.size, S.defers, Lk.cons (S.g 1 rfl) (Lk.cons (S.g 2 rfl) (Lk.cons (S.g 3 rfl) (Lk.cons (S.g 4 rfl) (Lk.cons (S.g 5 rfl) (Lk.cons (S.g 7 rfl) (Lk.cons (S.g 9 rfl) (Lk.cons (S.g 10 rfl) (Lk.cons (S.g 11 rfl) (Lk.nil)))))))))⟩
  go_upto_region 8 with fail
  refine wp_region_lit ?_
  refine st_val S (Op.move (.const (.slice (some ⟨w.heap.size, 0, none⟩) 4 4))) (.slice (some ⟨w.heap.size, 0, none⟩) 4 4) rfl rfl (wanted_none rfl _) (by simp [execOp, resolve, S.g 1 rfl, ev_c, ev_f]) ?_ (fun a S => ?_)
  · intro K' hK'
    go_wp2_with fail
    exact hK'
  refine st_any S (Op.call { callee := Callee.value (Operand.func 7), args := #[.const (.int .i64 1)], argTypes := #[3] }) (fun u w'' => u = .agg #[.int .i64 1, .bool false, .int .u8 0] ∧ Grow ((ext ((ext (Wa w) x1).alloc (.cells #[.int .u8 3, .int .u8 1] 23)) x6).alloc (.cells #[.int .u8 5, .int .u8 1] 23)) w'') rfl rfl (wanted_none rfl _) (by simp [execOp, resolve, ev_c, ev_f]) ?_ (fun u w'' a h S => ?_)
  · intro K' hK'
    go_wp2_with ((go_at_call 7; ((with_reducible refine (law14_local _ _).mono ?_); rintro e w1 ⟨rfl, hb1⟩; obtain ⟨x1, rfl⟩ := ext_of_grow hb1; clear hb1)))
    exact hK' _ _ ⟨rfl, Gw.h⟩
  obtain ⟨rfl, hg⟩ := h
  obtain ⟨x7, rfl⟩ := ext_of_grow hg
  clear hg
  refine st_val S (Op.build 33 #[(0, .const (.int .u8 4)), (2, .const (.int .u8 1)), (5, .const (.agg #[.int .i64 1, .bool false, .int .u8 0]))]) (.agg #[.int .u8 4, .int .u8 0, .int .u8 1, .int .u8 0, .int .i64 0, .int .i64 0, .bool false, .int .u8 0, .int .u8 0, .int .i64 0, .int .i64 0, .bool false, .int .u8 0, .int .i64 1, .bool false, .int .u8 0]) rfl rfl (wanted_none rfl _) (by simp [execOp, resolve, S.g 65 rfl, ev_c, ev_f]) ?_ (fun a S => ?_)
  · intro K' hK'
    go_wp2_with fail
    exact hK'
  refine st_any S (Op.call { callee := Callee.value (Operand.func 6), args := #[.const (.slice (some ⟨w.heap.size, 0, none⟩) 4 4), .const (.agg #[.int .u8 4, .int .u8 0, .int .u8 1, .int .u8 0, .int .i64 0, .int .i64 0, .bool false, .int .u8 0, .int .u8 0, .int .i64 0, .int .i64 0, .bool false, .int .u8 0, .int .i64 1, .bool false, .int .u8 0])], argTypes := #[24, 33] }) (fun u w'' => u = .tuple #[.agg #[.int .u8 0, .int .u8 0], .int .i64 42] ∧ Grow ((ext ((ext (Wa w) x1).alloc (.cells #[.int .u8 3, .int .u8 1] 23)) x6).alloc (.cells #[.int .u8 5, .int .u8 1] 23)) w'') rfl rfl (wanted_none rfl _) (by simp [execOp, resolve, S.g 64 rfl, S.g 66 rfl, ev_c, ev_f]) ?_ (fun u w'' a h S => ?_)
  · intro K' hK'
    go_wp2_with ((go_at_call 6; ((with_reducible refine (sh_rv nr4 _ _ _ _ nr4_wf nr4_e (sh_at (by first | (simp only [hp_at, hp_alloc, hp_ext, hp_drew]; done) | (simp only [hp_at, hp_alloc, hp_ext, hp_drew]; kernel_rfl)))).mono ?_); rintro e w1 ⟨rfl, hb1⟩; obtain ⟨x1, rfl⟩ := ext_of_grow hb1; clear hb1)))
    exact hK' _ _ ⟨rfl, Gw.h⟩
  obtain ⟨rfl, hg⟩ := h
  obtain ⟨x8, rfl⟩ := ext_of_grow hg
  clear hg
  refine st_val S (Op.move (.const (.tuple #[.agg #[.int .u8 0, .int .u8 0], .int .i64 42]))) (.tuple #[.agg #[.int .u8 0, .int .u8 0], .int .i64 42]) rfl rfl (wanted_none rfl _) (by simp [execOp, resolve, S.g 67 rfl, ev_c, ev_f]) ?_ (fun a S => ?_)
  · intro K' hK'
    go_wp2_with fail
    exact hK'
  refine st_val S (Op.extract (.const (.tuple #[.agg #[.int .u8 0, .int .u8 0], .int .i64 42])) 0) (.agg #[.int .u8 0, .int .u8 0]) rfl rfl (wanted_none rfl _) (by simp [execOp, resolve, S.g 63 rfl, ev_c, ev_f]) ?_ (fun a S => ?_)
  · intro K' hK'
    go_wp2_with fail
    exact hK'
  refine st_val S (Op.extract (.const (.tuple #[.agg #[.int .u8 0, .int .u8 0], .int .i64 42])) 1) (.int .i64 42) rfl rfl (wanted_none rfl _) (by simp [execOp, resolve, S.g 63 rfl, ev_c, ev_f]) ?_ (fun a S => ?_)
  · intro K' hK'
    go_wp2_with fail
    exact hK'
  refine st_any S (Op.alloc 23) (fun u w'' => ∃ b, u = .pointer (some ⟨b, 0, none⟩) ∧ b = (ext ((ext ((ext (Wa w) x1).alloc (.cells #[.int .u8 3, .int .u8 1] 23)) x6).alloc (.cells #[.int .u8 5, .int .u8 1] 23)) x8).heap.size ∧ w'' = (ext ((ext ((ext (Wa w) x1).alloc (.cells #[.int .u8 3, .int .u8 1] 23)) x6).alloc (.cells #[.int .u8 5, .int .u8 1] 23)) x8).alloc (.cells #[.int .u8 0, .int .u8 0] 23)) rfl rfl (wanted_none rfl _) (by simp [execOp, resolve, ev_c, ev_f]) ?_ (fun u w'' a h S => ?_)
  · intro K' hK'
    go_wp2_with (fail)
    exact hK' _ _ ⟨_, rfl, by first | rfl | (simp only [size_ext, alloc_size]; done) | (simp only [size_ext, alloc_size]; omega), rfl⟩
  obtain ⟨p12, rfl, hp12, rfl⟩ := h
  haveI ep12 : EqW p12 (ext ((ext ((ext (Wa w) x1).alloc (.cells #[.int .u8 3, .int .u8 1] 23)) x6).alloc (.cells #[.int .u8 5, .int .u8 1] 23)) x8) := ⟨hp12⟩
  clear hp12
  refine st_put S (Op.store 23 (.const (.pointer (some ⟨p12, 0, none⟩))) (.const (.agg #[.int .u8 0, .int .u8 0]))) ((ext ((ext ((ext (Wa w) x1).alloc (.cells #[.int .u8 3, .int .u8 1] 23)) x6).alloc (.cells #[.int .u8 5, .int .u8 1] 23)) x8).alloc (.cells #[.int .u8 0, .int .u8 0] 23)) rfl (wanted_none rfl _) (by simp [execOp, resolve, S.g 12 rfl, S.g 68 rfl, ev_c, ev_f]) ?_ (fun a S => ?_)
  · intro K' hK'
    go_wp2_with fail
    exact hK' _
  refine st_val S (Op.assign (.const (.int .i64 42))) (.int .i64 42) rfl rfl (wanted_none rfl _) (by simp [execOp, resolve, S.g 69 rfl, ev_c, ev_f]) ?_ (fun a S => ?_)
  · intro K' hK'
    go_wp2_with fail
    exact hK'
  replace S : St8 a 383 _ := ⟨S.size, S.defers, Lk.cons (S.g 1 rfl) (Lk.cons (S.g 2 rfl) (Lk.cons (S.g 3 rfl) (Lk.cons (S.g 4 rfl) (Lk.cons (S.g 5 rfl) (Lk.cons (S.g 7 rfl) (Lk.cons (S.g 9 rfl) (Lk.cons (S.g 10 rfl) (Lk.cons (S.g 11 rfl) (Lk.cons (S.g 13 rfl) (Lk.nil))))))))))⟩
  obtain ⟨x9, hx⟩ := ext_of_grow (Gw.h : Grow ((ext ((ext (Wa w) x1).alloc (.cells #[.int .u8 3, .int .u8 1] 23)) x6).alloc (.cells #[.int .u8 5, .int .u8 1] 23)) ((ext ((ext ((ext (Wa w) x1).alloc (.cells #[.int .u8 3, .int .u8 1] 23)) x6).alloc (.cells #[.int .u8 5, .int .u8 1] 23)) x8).alloc (.cells #[.int .u8 0, .int .u8 0] 23)))
  rw [hx]
  clear hx
  clear ep12
  go_upto_region 9 with fail
  refine wp_region_lit ?_
  refine st_val S (Op.move (.const (.slice (some ⟨w.heap.size, 0, none⟩) 4 4))) (.slice (some ⟨w.heap.size, 0, none⟩) 4 4) rfl rfl (wanted_none rfl _) (by simp [execOp, resolve, S.g 1 rfl, ev_c, ev_f]) ?_ (fun a S => ?_)
  · intro K' hK'
    go_wp2_with fail
    exact hK'
  refine st_any S (Op.call { callee := Callee.value (Operand.func 7), args := #[.const (.int .i64 2)], argTypes := #[3] }) (fun u w'' => u = .agg #[.int .i64 2, .bool false, .int .u8 0] ∧ Grow ((ext ((ext (Wa w) x1).alloc (.cells #[.int .u8 3, .int .u8 1] 23)) x6).alloc (.cells #[.int .u8 5, .int .u8 1] 23)) w'') rfl rfl (wanted_none rfl _) (by simp [execOp, resolve, ev_c, ev_f]) ?_ (fun u w'' a h S => ?_)
  · intro K' hK'
    go_wp2_with ((go_at_call 7; ((with_reducible refine (law14_local _ _).mono ?_); rintro e w1 ⟨rfl, hb1⟩; obtain ⟨x1, rfl⟩ := ext_of_grow hb1; clear hb1)))
    exact hK' _ _ ⟨rfl, Gw.h⟩
  obtain ⟨rfl, hg⟩ := h
  obtain ⟨x10, rfl⟩ := ext_of_grow hg
  clear hg
  refine st_val S (Op.build 33 #[(0, .const (.int .u8 5)), (5, .const (.agg #[.int .i64 2, .bool false, .int .u8 0]))]) (.agg #[.int .u8 5, .int .u8 0, .int .u8 0, .int .u8 0, .int .i64 0, .int .i64 0, .bool false, .int .u8 0, .int .u8 0, .int .i64 0, .int .i64 0, .bool false, .int .u8 0, .int .i64 2, .bool false, .int .u8 0]) rfl rfl (wanted_none rfl _) (by simp [execOp, resolve, S.g 72 rfl, ev_c, ev_f]) ?_ (fun a S => ?_)
  · intro K' hK'
    go_wp2_with fail
    exact hK'
  refine st_any S (Op.call { callee := Callee.value (Operand.func 6), args := #[.const (.slice (some ⟨w.heap.size, 0, none⟩) 4 4), .const (.agg #[.int .u8 5, .int .u8 0, .int .u8 0, .int .u8 0, .int .i64 0, .int .i64 0, .bool false, .int .u8 0, .int .u8 0, .int .i64 0, .int .i64 0, .bool false, .int .u8 0, .int .i64 2, .bool false, .int .u8 0])], argTypes := #[24, 33] }) (fun u w'' => u = .tuple #[.agg #[.int .u8 0, .int .u8 0], .int .i64 42] ∧ Grow ((ext ((ext (Wa w) x1).alloc (.cells #[.int .u8 3, .int .u8 1] 23)) x6).alloc (.cells #[.int .u8 5, .int .u8 1] 23)) w'') rfl rfl (wanted_none rfl _) (by simp [execOp, resolve, S.g 71 rfl, S.g 73 rfl, ev_c, ev_f]) ?_ (fun u w'' a h S => ?_)
  · intro K' hK'
    go_wp2_with ((go_at_call 6; ((with_reducible refine (sh_rv nr5 _ _ _ _ nr5_wf nr5_e (sh_at (by first | (simp only [hp_at, hp_alloc, hp_ext, hp_drew]; done) | (simp only [hp_at, hp_alloc, hp_ext, hp_drew]; kernel_rfl)))).mono ?_); rintro e w1 ⟨rfl, hb1⟩; obtain ⟨x1, rfl⟩ := ext_of_grow hb1; clear hb1)))
    exact hK' _ _ ⟨rfl, Gw.h⟩
  obtain ⟨rfl, hg⟩ := h
  obtain ⟨x11, rfl⟩ := ext_of_grow hg
  clear hg
  refine st_val S (Op.move (.const (.tuple #[.agg #[.int .u8 0, .int .u8 0], .int .i64 42]))) (.tuple #[.agg #[.int .u8 0, .int .u8 0], .int .i64 42]) rfl rfl (wanted_none rfl _) (by simp [execOp, resolve, S.g 74 rfl, ev_c, ev_f]) ?_ (fun a S => ?_)
  · intro K' hK'
    go_wp2_with fail
    exact hK'
  refine st_val S (Op.extract (.const (.tuple #[.agg #[.int .u8 0, .int .u8 0], .int .i64 42])) 0) (.agg #[.int .u8 0, .int .u8 0]) rfl rfl (wanted_none rfl _) (by simp [execOp, resolve, S.g 70 rfl, ev_c, ev_f]) ?_ (fun a S => ?_)
  · intro K' hK'
    go_wp2_with fail
    exact hK'
  refine st_val S (Op.extract (.const (.tuple #[.agg #[.int .u8 0, .int .u8 0], .int .i64 42])) 1) (.int .i64 42) rfl rfl (wanted_none rfl _) (by simp [execOp, resolve, S.g 70 rfl, ev_c, ev_f]) ?_ (fun a S => ?_)
  · intro K' hK'
    go_wp2_with fail
    exact hK'
  refine st_any S (Op.alloc 23) (fun u w'' => ∃ b, u = .pointer (some ⟨b, 0, none⟩) ∧ b = (ext ((ext ((ext (Wa w) x1).alloc (.cells #[.int .u8 3, .int .u8 1] 23)) x6).alloc (.cells #[.int .u8 5, .int .u8 1] 23)) x11).heap.size ∧ w'' = (ext ((ext ((ext (Wa w) x1).alloc (.cells #[.int .u8 3, .int .u8 1] 23)) x6).alloc (.cells #[.int .u8 5, .int .u8 1] 23)) x11).alloc (.cells #[.int .u8 0, .int .u8 0] 23)) rfl rfl (wanted_none rfl _) (by simp [execOp, resolve, ev_c, ev_f]) ?_ (fun u w'' a h S => ?_)
  · intro K' hK'
    go_wp2_with (fail)
    exact hK' _ _ ⟨_, rfl, by first | rfl | (simp only [size_ext, alloc_size]; done) | (simp only [size_ext, alloc_size]; omega), rfl⟩
  obtain ⟨p14, rfl, hp14, rfl⟩ := h
  haveI ep14 : EqW p14 (ext ((ext ((ext (Wa w) x1).alloc (.cells #[.int .u8 3, .int .u8 1] 23)) x6).alloc (.cells #[.int .u8 5, .int .u8 1] 23)) x11) := ⟨hp14⟩
  clear hp14
  refine st_put S (Op.store 23 (.const (.pointer (some ⟨p14, 0, none⟩))) (.const (.agg #[.int .u8 0, .int .u8 0]))) ((ext ((ext ((ext (Wa w) x1).alloc (.cells #[.int .u8 3, .int .u8 1] 23)) x6).alloc (.cells #[.int .u8 5, .int .u8 1] 23)) x11).alloc (.cells #[.int .u8 0, .int .u8 0] 23)) rfl (wanted_none rfl _) (by simp [execOp, resolve, S.g 14 rfl, S.g 75 rfl, ev_c, ev_f]) ?_ (fun a S => ?_)
  · intro K' hK'
    go_wp2_with fail
    exact hK' _
  refine st_val S (Op.assign (.const (.int .i64 42))) (.int .i64 42) rfl rfl (wanted_none rfl _) (by simp [execOp, resolve, S.g 76 rfl, ev_c, ev_f]) ?_ (fun a S => ?_)
  · intro K' hK'
    go_wp2_with fail
    exact hK'
  replace S : St8 a 383 _ := ⟨S.size, S.defers, Lk.cons (S.g 1 rfl) (Lk.cons (S.g 2 rfl) (Lk.cons (S.g 3 rfl) (Lk.cons (S.g 4 rfl) (Lk.cons (S.g 5 rfl) (Lk.cons (S.g 7 rfl) (Lk.cons (S.g 9 rfl) (Lk.cons (S.g 10 rfl) (Lk.cons (S.g 11 rfl) (Lk.cons (S.g 13 rfl) (Lk.cons (S.g 15 rfl) (Lk.nil)))))))))))⟩
  obtain ⟨x12, hx⟩ := ext_of_grow (Gw.h : Grow ((ext ((ext (Wa w) x1).alloc (.cells #[.int .u8 3, .int .u8 1] 23)) x6).alloc (.cells #[.int .u8 5, .int .u8 1] 23)) ((ext ((ext ((ext (Wa w) x1).alloc (.cells #[.int .u8 3, .int .u8 1] 23)) x6).alloc (.cells #[.int .u8 5, .int .u8 1] 23)) x11).alloc (.cells #[.int .u8 0, .int .u8 0] 23)))
  rw [hx]
  clear hx
  clear ep14
  go_upto_region 10 with fail
  refine wp_region_lit ?_
  refine st_val S (Op.move (.const (.int .i64 0))) (.int .i64 0) rfl rfl (wanted_none rfl _) (by simp [execOp, resolve, S.g 5 rfl, ev_c, ev_f]) ?_ (fun a S => ?_)
  · intro K' hK'
    go_wp2_with fail
    exact hK'
  refine st_val S (Op.binOp BinOp.eql 29 (.const (.int .i64 0)) (.const (.int .i64 0)) 29) (.bool true) rfl rfl (wanted_none rfl _) (by simp [execOp, resolve, S.g 77 rfl, ev_c, ev_f, eqGuard]) ?_ (fun a S => ?_)
  · intro K' hK'
    go_wp2_with fail
    exact hK'
  refine st_val S (Op.move (.const (.bool true))) (.bool true) rfl rfl (wanted_none rfl _) (by simp [execOp, resolve, S.g 78 rfl, ev_c, ev_f]) ?_ (fun a S => ?_)
  · intro K' hK'
    go_wp2_with fail
    exact hK'
  refine st_val S (Op.load 23 (.const (.pointer (some ⟨p4, 0, none⟩)))) (.agg #[.int .u8 3, .int .u8 1]) rfl rfl (want_at (g := 2) (d := 79) (b := true) S rfl rfl rfl rfl rfl) (by simp [execOp, resolve, S.g 4 rfl, ev_c, ev_f]) ?_ (fun a S => ?_)
  · intro K' hK'
    go_wp2_with fail
    exact hK'
  refine st_val S (Op.build 23 #[(0, .const (.int .u8 3)), (1, .const (.int .u8 1))]) (.agg #[.int .u8 3, .int .u8 1]) rfl rfl (want_at (g := 2) (d := 79) (b := true) S rfl rfl rfl rfl rfl) (by simp [execOp, resolve, ev_c, ev_f]) ?_ (fun a S => ?_)
  · intro K' hK'
    go_wp2_with fail
    exact hK'
  refine st_val S (Op.binOp BinOp.eql 23 (.const (.agg #[.int .u8 3, .int .u8 1])) (.const (.agg #[.int .u8 3, .int .u8 1])) 23) (.bool true) rfl rfl (want_at (g := 2) (d := 79) (b := true) S rfl rfl rfl rfl rfl) (by simp [execOp, resolve, S.g 80 rfl, S.g 81 rfl, ev_c, ev_f, eqGuard]) ?_ (fun a S => ?_)
  · intro K' hK'
    go_wp2_with fail
    exact hK'
  refine st_val S (Op.pick (.const (.bool true)) (.const (.bool true)) (.const (.bool false))) (.bool true) rfl rfl (wanted_none rfl _) (by simp [execOp, resolve, S.g 79 rfl, S.g 82 rfl, ev_c, ev_f]) ?_ (fun a S => ?_)
  · intro K' hK'
    go_wp2_with fail
    exact hK'
  refine st_val S (Op.move (.const (.bool true))) (.bool true) rfl rfl (wanted_none rfl _) (by simp [execOp, resolve, S.g 83 rfl, ev_c, ev_f]) ?_ (fun a S => ?_)
  · intro K' hK'
    go_wp2_with fail
    exact hK'
  refine st_val S (Op.move (.const (.int .i64 42))) (.int .i64 42) rfl rfl (want_at (g := 7) (d := 84) (b := true) S rfl rfl rfl rfl rfl) (by simp [execOp, resolve, S.g 7 rfl, ev_c, ev_f]) ?_ (fun a S => ?_)
  · intro K' hK'
    go_wp2_with fail
    exact hK'
  refine st_val S (Op.binOp BinOp.eql 29 (.const (.int .i64 42)) (.const (.int .i64 42)) 29) (.bool true) rfl rfl (want_at (g := 7) (d := 84) (b := true) S rfl rfl rfl rfl rfl) (by simp [execOp, resolve, S.g 85 rfl, ev_c, ev_f, eqGuard]) ?_ (fun a S => ?_)
  · intro K' hK'
    go_wp2_with fail
    exact hK'
  refine st_val S (Op.pick (.const (.bool true)) (.const (.bool true)) (.const (.bool false))) (.bool true) rfl rfl (wanted_none rfl _) (by simp [execOp, resolve, S.g 84 rfl, S.g 86 rfl, ev_c, ev_f]) ?_ (fun a S => ?_)
  · intro K' hK'
    go_wp2_with fail
    exact hK'
  refine st_val S (Op.move (.const (.bool true))) (.bool true) rfl rfl (wanted_none rfl _) (by simp [execOp, resolve, S.g 87 rfl, ev_c, ev_f]) ?_ (fun a S => ?_)
  · intro K' hK'
    go_wp2_with fail
    exact hK'
  refine st_val S (Op.move (.const (.int .i64 42))) (.int .i64 42) rfl rfl (want_at (g := 11) (d := 88) (b := true) S rfl rfl rfl rfl rfl) (by simp [execOp, resolve, S.g 9 rfl, ev_c, ev_f]) ?_ (fun a S => ?_)
  · intro K' hK'
    go_wp2_with fail
    exact hK'
  refine st_val S (Op.binOp BinOp.eql 29 (.const (.int .i64 42)) (.const (.int .i64 42)) 29) (.bool true) rfl rfl (want_at (g := 11) (d := 88) (b := true) S rfl rfl rfl rfl rfl) (by simp [execOp, resolve, S.g 89 rfl, ev_c, ev_f, eqGuard]) ?_ (fun a S => ?_)
  · intro K' hK'
    go_wp2_with fail
    exact hK'
  refine st_val S (Op.pick (.const (.bool true)) (.const (.bool true)) (.const (.bool false))) (.bool true) rfl rfl (wanted_none rfl _) (by simp [execOp, resolve, S.g 88 rfl, S.g 90 rfl, ev_c, ev_f]) ?_ (fun a S => ?_)
  · intro K' hK'
    go_wp2_with fail
    exact hK'
  refine st_val S (Op.move (.const (.bool true))) (.bool true) rfl rfl (wanted_none rfl _) (by simp [execOp, resolve, S.g 91 rfl, ev_c, ev_f]) ?_ (fun a S => ?_)
  · intro K' hK'
    go_wp2_with fail
    exact hK'
  refine st_val S (Op.move (.const (.int .i64 0))) (.int .i64 0) rfl rfl (want_at (g := 15) (d := 92) (b := true) S rfl rfl rfl rfl rfl) (by simp [execOp, resolve, S.g 11 rfl, ev_c, ev_f]) ?_ (fun a S => ?_)
  · intro K' hK'
    go_wp2_with fail
    exact hK'
  refine st_val S (Op.binOp BinOp.eql 29 (.const (.int .i64 0)) (.const (.int .i64 0)) 29) (.bool true) rfl rfl (want_at (g := 15) (d := 92) (b := true) S rfl rfl rfl rfl rfl) (by simp [execOp, resolve, S.g 93 rfl, ev_c, ev_f, eqGuard]) ?_ (fun a S => ?_)
  · intro K' hK'
    go_wp2_with fail
    exact hK'
  refine st_val S (Op.pick (.const (.bool true)) (.const (.bool true)) (.const (.bool false))) (.bool true) rfl rfl (wanted_none rfl _) (by simp [execOp, resolve, S.g 92 rfl, S.g 94 rfl, ev_c, ev_f]) ?_ (fun a S => ?_)
  · intro K' hK'
    go_wp2_with fail
    exact hK'
  refine st_val S (Op.move (.const (.bool true))) (.bool true) rfl rfl (wanted_none rfl _) (by simp [execOp, resolve, S.g 95 rfl, ev_c, ev_f]) ?_ (fun a S => ?_)
  · intro K' hK'
    go_wp2_with fail
    exact hK'
  refine st_val S (Op.load 23 (.const (.pointer (some ⟨p10, 0, none⟩)))) (.agg #[.int .u8 5, .int .u8 1]) rfl rfl (want_at (g := 19) (d := 96) (b := true) S rfl rfl rfl rfl rfl) (by simp [execOp, resolve, S.g 10 rfl, ev_c, ev_f]) ?_ (fun a S => ?_)
  · intro K' hK'
    go_wp2_with fail
    exact hK'
  refine st_val S (Op.build 23 #[(0, .const (.int .u8 5)), (1, .const (.int .u8 1))]) (.agg #[.int .u8 5, .int .u8 1]) rfl rfl (want_at (g := 19) (d := 96) (b := true) S rfl rfl rfl rfl rfl) (by simp [execOp, resolve, ev_c, ev_f]) ?_ (fun a S => ?_)
  · intro K' hK'
    go_wp2_with fail
    exact hK'
  refine st_val S (Op.binOp BinOp.eql 23 (.const (.agg #[.int .u8 5, .int .u8 1])) (.const (.agg #[.int .u8 5, .int .u8 1])) 23) (.bool true) rfl rfl (want_at (g := 19) (d := 96) (b := true) S rfl rfl rfl rfl rfl) (by simp [execOp, resolve, S.g 97 rfl, S.g 98 rfl, ev_c, ev_f, eqGuard]) ?_ (fun a S => ?_)
  · intro K' hK'
    go_wp2_with fail
    exact hK'
  refine st_val S (Op.pick (.const (.bool true)) (.const (.bool true)) (.const (.bool false))) (.bool true) rfl rfl (wanted_none rfl _) (by simp [execOp, resolve, S.g 96 rfl, S.g 99 rfl, ev_c, ev_f]) ?_ (fun a S => ?_)
  · intro K' hK'
    go_wp2_with fail
    exact hK'
  refine st_val S (Op.move (.const (.bool true))) (.bool true) rfl rfl (wanted_none rfl _) (by simp [execOp, resolve, S.g 100 rfl, ev_c, ev_f]) ?_ (fun a S => ?_)
  · intro K' hK'
    go_wp2_with fail
    exact hK'
  refine st_val S (Op.move (.const (.int .i64 42))) (.int .i64 42) rfl rfl (want_at (g := 24) (d := 101) (b := true) S rfl rfl rfl rfl rfl) (by simp [execOp, resolve, S.g 13 rfl, ev_c, ev_f]) ?_ (fun a S => ?_)
  · intro K' hK'
    go_wp2_with fail
    exact hK'
  refine st_val S (Op.binOp BinOp.eql 29 (.const (.int .i64 42)) (.const (.int .i64 42)) 29) (.bool true) rfl rfl (want_at (g := 24) (d := 101) (b := true) S rfl rfl rfl rfl rfl) (by simp [execOp, resolve, S.g 102 rfl, ev_c, ev_f, eqGuard]) ?_ (fun a S => ?_)
  · intro K' hK'
    go_wp2_with fail
    exact hK'
  refine st_val S (Op.pick (.const (.bool true)) (.const (.bool true)) (.const (.bool false))) (.bool true) rfl rfl (wanted_none rfl _) (by simp [execOp, resolve, S.g 101 rfl, S.g 103 rfl, ev_c, ev_f]) ?_ (fun a S => ?_)
  · intro K' hK'
    go_wp2_with fail
    exact hK'
  refine st_val S (Op.move (.const (.bool true))) (.bool true) rfl rfl (wanted_none rfl _) (by simp [execOp, resolve, S.g 104 rfl, ev_c, ev_f]) ?_ (fun a S => ?_)
  · intro K' hK'
    go_wp2_with fail
    exact hK'
  refine st_val S (Op.move (.const (.int .i64 42))) (.int .i64 42) rfl rfl (want_at (g := 28) (d := 105) (b := true) S rfl rfl rfl rfl rfl) (by simp [execOp, resolve, S.g 15 rfl, ev_c, ev_f]) ?_ (fun a S => ?_)
  · intro K' hK'
    go_wp2_with fail
    exact hK'
  refine st_val S (Op.binOp BinOp.eql 29 (.const (.int .i64 42)) (.const (.int .i64 42)) 29) (.bool true) rfl rfl (want_at (g := 28) (d := 105) (b := true) S rfl rfl rfl rfl rfl) (by simp [execOp, resolve, S.g 106 rfl, ev_c, ev_f, eqGuard]) ?_ (fun a S => ?_)
  · intro K' hK'
    go_wp2_with fail
    exact hK'
  refine st_val S (Op.pick (.const (.bool true)) (.const (.bool true)) (.const (.bool false))) (.bool true) rfl rfl (wanted_none rfl _) (by simp [execOp, resolve, S.g 105 rfl, S.g 107 rfl, ev_c, ev_f]) ?_ (fun a S => ?_)
  · intro K' hK'
    go_wp2_with fail
    exact hK'
  refine st_val S (Op.assign (.const (.bool true))) (.bool true) rfl rfl (wanted_none rfl _) (by simp [execOp, resolve, S.g 108 rfl, ev_c, ev_f]) ?_ (fun a S => ?_)
  · intro K' hK'
    go_wp2_with fail
    exact hK'
  replace S : St8 a 383 _ := ⟨S.size, S.defers, Lk.cons (S.g 1 rfl) (Lk.cons (S.g 2 rfl) (Lk.cons (S.g 3 rfl) (Lk.cons (S.g 5 rfl) (Lk.cons (S.g 7 rfl) (Lk.cons (S.g 9 rfl) (Lk.cons (S.g 11 rfl) (Lk.cons (S.g 13 rfl) (Lk.cons (S.g 15 rfl) (Lk.cons (S.g 16 rfl) (Lk.nil))))))))))⟩
  obtain ⟨x13, hx⟩ := ext_of_grow (Gw.h : Grow (Wa w) (ext ((ext ((ext (Wa w) x1).alloc (.cells #[.int .u8 3, .int .u8 1] 23)) x6).alloc (.cells #[.int .u8 5, .int .u8 1] 23)) x12))
  rw [hx]
  clear hx
  clear ep4 ep10
  go_upto_region 11 with fail
  refine region_rho' 10 383 (by kernel_rfl) (by kernel_rfl) S.size (by kernel_rfl) (Rho (Wa w) (.cells #[.int .u8 0, .int .u8 0] 23) (.cells #[.int .u8 2, .int .u8 0] 23)) (fun _ _ _ => Rho.trans) (fun _ _ => Rho.of) (ph11 w (Wa w)) (ph11_stay w _) (ph11_loc w _ _ (by kernel_rfl)) (fun i hi vs w' A hg hΦ hin hout hsz K hK => ?_) (fun vs w' A hDA hg hΦ hin hout hNA => ?_)
  · obtain ⟨xq, rfl⟩ := ext_of_grow (hg.1 (Gw.h : Grow (Wa w) _))
    clear hg
    obtain rfl | rfl | rfl | rfl | rfl | rfl | rfl | rfl | rfl | rfl : i = 0 ∨ i = 1 ∨ i = 2 ∨ i = 3 ∨ i = 4 ∨ i = 5 ∨ i = 6 ∨ i = 7 ∨ i = 8 ∨ i = 9 := by omega
    · have e1 := hout 1 _ (by kernel_rfl) (S.g 1 rfl)
      refine ⟨_, rfl, ?_⟩
      refine wp_tiny (Op.move (.const (.slice (some ⟨w.heap.size, 0, none⟩) 4 4))) (R := fun u w'' => Grow (ext (Wa w) xq) w'' ∧ u = .slice (some ⟨w.heap.size, 0, none⟩) 4 4) (wanted_none rfl _) (by simp [execOp, resolve, e1, ev_c, ev_f]) ?_ (fun u w'' h => hK u w'' (Rho.of h.1) ((if_pos rfl : (if (0 : Nat) = 0 then u else vs 0) = u).trans h.2))
      clear hK
      intro K' hK'
      go_wp2_with (fail)
      exact hK' _ _ ⟨Gw.h, rfl⟩
    · refine ⟨_, rfl, ?_⟩
      refine wp_tiny (Op.call { callee := Callee.value (Operand.func 8), args := #[.const (.int .i64 1)], argTypes := #[2] }) (R := fun u w'' => Grow (ext (Wa w) xq) w'' ∧ u = .agg #[.int .u8 1, .int .i64 1, .int .i64 0, .bool false, .int .u8 0]) (wanted_none rfl _) (by simp [execOp, resolve, ev_c, ev_f]) ?_ (fun u w'' h => hK u w'' (Rho.of h.1) ((if_pos rfl : (if (1 : Nat) = 1 then u else vs 1) = u).trans h.2))
      clear hK
      intro K' hK'
      go_wp2_with ((go_at_call 8; ((with_reducible refine (law14_number _ _).mono ?_); rintro e w1 ⟨rfl, hb1⟩; obtain ⟨x1, rfl⟩ := ext_of_grow hb1; clear hb1)))
      exact hK' _ _ ⟨Gw.h, rfl⟩
    · have e3 := hout 3 _ (by kernel_rfl) (S.g 3 rfl)
      refine ⟨_, rfl, ?_⟩
      refine wp_tiny (Op.load 28 (.const (.pointer (some ⟨w.heap.size + 1 + 1, 0, none⟩)))) (R := fun u w'' => Grow (ext (Wa w) xq) w'' ∧ u = .agg #[.int .u8 2, .int .i64 0, .int .i64 1, .bool true, .int .u8 2]) (wanted_none rfl _) (by simp [execOp, resolve, e3, ev_c, ev_f]) ?_ (fun u w'' h => hK u w'' (Rho.of h.1) ((if_pos rfl : (if (2 : Nat) = 2 then u else vs 2) = u).trans h.2))
      clear hK
      intro K' hK'
      go_wp2_with (fail)
      exact hK' _ _ ⟨Gw.h, rfl⟩
    · have e111 : A.eval (.tmp 111) = .agg #[.int .u8 1, .int .i64 1, .int .i64 0, .bool false, .int .u8 0] := (hin 1 111 (by omega) (by kernel_rfl)).trans (hΦ 1 (List.mem_of_elem_eq_true (by kernel_rfl)))
      have e112 : A.eval (.tmp 112) = .agg #[.int .u8 2, .int .i64 0, .int .i64 1, .bool true, .int .u8 2] := (hin 2 112 (by omega) (by kernel_rfl)).trans (hΦ 2 (List.mem_of_elem_eq_true (by kernel_rfl)))
      refine ⟨_, rfl, ?_⟩
      refine wp_tiny (Op.build 33 #[(0, .const (.int .u8 3)), (3, .const (.agg #[.int .u8 1, .int .i64 1, .int .i64 0, .bool false, .int .u8 0])), (4, .const (.agg #[.int .u8 2, .int .i64 0, .int .i64 1, .bool true, .int .u8 2]))]) (R := fun u w'' => Grow (ext (Wa w) xq) w'' ∧ u = .agg #[.int .u8 3, .int .u8 0, .int .u8 0, .int .u8 1, .int .i64 1, .int .i64 0, .bool false, .int .u8 0, .int .u8 2, .int .i64 0, .int .i64 1, .bool true, .int .u8 2, .int .i64 0, .bool false, .int .u8 0]) (wanted_none rfl _) (by simp [execOp, resolve, e111, e112, ev_c, ev_f]) ?_ (fun u w'' h => hK u w'' (Rho.of h.1) ((if_pos rfl : (if (3 : Nat) = 3 then u else vs 3) = u).trans h.2))
      clear hK
      intro K' hK'
      go_wp2_with (fail)
      exact hK' _ _ ⟨Gw.h, rfl⟩
    · have e110 : A.eval (.tmp 110) = .slice (some ⟨w.heap.size, 0, none⟩) 4 4 := (hin 0 110 (by omega) (by kernel_rfl)).trans (hΦ 0 (List.mem_of_elem_eq_true (by kernel_rfl)))
      have e113 : A.eval (.tmp 113) = .agg #[.int .u8 3, .int .u8 0, .int .u8 0, .int .u8 1, .int .i64 1, .int .i64 0, .bool false, .int .u8 0, .int .u8 2, .int .i64 0, .int .i64 1, .bool true, .int .u8 2, .int .i64 0, .bool false, .int .u8 0] := (hin 3 113 (by omega) (by kernel_rfl)).trans (hΦ 3 (List.mem_of_elem_eq_true (by kernel_rfl)))
      refine ⟨_, rfl, ?_⟩
      refine wp_tiny (Op.call { callee := Callee.value (Operand.func 6), args := #[.const (.slice (some ⟨w.heap.size, 0, none⟩) 4 4), .const (.agg #[.int .u8 3, .int .u8 0, .int .u8 0, .int .u8 1, .int .i64 1, .int .i64 0, .bool false, .int .u8 0, .int .u8 2, .int .i64 0, .int .i64 1, .bool true, .int .u8 2, .int .i64 0, .bool false, .int .u8 0])], argTypes := #[24, 33] }) (R := fun u w'' => Grow (ext (Wa w) xq) w'' ∧ u = .tuple #[.agg #[.int .u8 2, .int .u8 0], .int .i64 0]) (wanted_none rfl _) (by simp [execOp, resolve, e110, e113, ev_c, ev_f]) ?_ (fun u w'' h => hK u w'' (Rho.of h.1) ((if_pos rfl : (if (4 : Nat) = 4 then u else vs 4) = u).trans h.2))
      clear hK
      intro K' hK'
      go_wp2_with ((go_at_call 6; ((with_reducible refine (sh_rv nr6 _ _ _ _ nr6_wf nr6_e (sh_at (by first | (simp only [hp_at, hp_alloc, hp_ext, hp_drew]; done) | (simp only [hp_at, hp_alloc, hp_ext, hp_drew]; kernel_rfl)))).mono ?_); rintro e w1 ⟨rfl, hb1⟩; obtain ⟨x1, rfl⟩ := ext_of_grow hb1; clear hb1)))
      exact hK' _ _ ⟨Gw.h, rfl⟩
    · have e114 : A.eval (.tmp 114) = .tuple #[.agg #[.int .u8 2, .int .u8 0], .int .i64 0] := (hin 4 114 (by omega) (by kernel_rfl)).trans (hΦ 4 (List.mem_of_elem_eq_true (by kernel_rfl)))
      refine ⟨_, rfl, ?_⟩
      refine wp_tiny (Op.move (.const (.tuple #[.agg #[.int .u8 2, .int .u8 0], .int .i64 0]))) (R := fun u w'' => Grow (ext (Wa w) xq) w'' ∧ u = .tuple #[.agg #[.int .u8 2, .int .u8 0], .int .i64 0]) (wanted_none rfl _) (by simp [execOp, resolve, e114, ev_c, ev_f]) ?_ (fun u w'' h => hK u w'' (Rho.of h.1) ((if_pos rfl : (if (5 : Nat) = 5 then u else vs 5) = u).trans h.2))
      clear hK
      intro K' hK'
      go_wp2_with (fail)
      exact hK' _ _ ⟨Gw.h, rfl⟩
    · have e109 : A.eval (.tmp 109) = .tuple #[.agg #[.int .u8 2, .int .u8 0], .int .i64 0] := (hin 5 109 (by omega) (by kernel_rfl)).trans (hΦ 5 (List.mem_of_elem_eq_true (by kernel_rfl)))
      refine ⟨_, rfl, ?_⟩
      refine wp_tiny (Op.extract (.const (.tuple #[.agg #[.int .u8 2, .int .u8 0], .int .i64 0])) 0) (R := fun u w'' => Grow (ext (Wa w) xq) w'' ∧ u = .agg #[.int .u8 2, .int .u8 0]) (wanted_none rfl _) (by simp [execOp, resolve, e109, ev_c, ev_f]) ?_ (fun u w'' h => hK u w'' (Rho.of h.1) ((if_pos rfl : (if (6 : Nat) = 6 then u else vs 6) = u).trans h.2))
      clear hK
      intro K' hK'
      go_wp2_with (fail)
      exact hK' _ _ ⟨Gw.h, rfl⟩
    · have e109 : A.eval (.tmp 109) = .tuple #[.agg #[.int .u8 2, .int .u8 0], .int .i64 0] := (hin 5 109 (by omega) (by kernel_rfl)).trans (hΦ 5 (List.mem_of_elem_eq_true (by kernel_rfl)))
      refine ⟨_, rfl, ?_⟩
      refine wp_tiny (Op.extract (.const (.tuple #[.agg #[.int .u8 2, .int .u8 0], .int .i64 0])) 1) (R := fun u w'' => Grow (ext (Wa w) xq) w'' ∧ u = .int .i64 0) (wanted_none rfl _) (by simp [execOp, resolve, e109, ev_c, ev_f]) ?_ (fun u w'' h => hK u w'' (Rho.of h.1) ((if_pos rfl : (if (7 : Nat) = 7 then u else vs 7) = u).trans h.2))
      clear hK
      intro K' hK'
      go_wp2_with (fail)
      exact hK' _ _ ⟨Gw.h, rfl⟩
    · refine ⟨_, rfl, ?_⟩
      refine wp_tiny (Op.alloc 23) (R := fun u w'' => Grow (ext (Wa w) xq) w'' ∧ BoxZV (Wa w) (.cells #[.int .u8 0, .int .u8 0] 23) (.cells #[.int .u8 2, .int .u8 0] 23) u w'') (wanted_none rfl _) (by simp [execOp, resolve, ev_c, ev_f]) ?_ (fun u w'' h => hK u w'' (Rho.of h.1) (show BoxZV _ _ _ (if (8 : Nat) = 8 then u else vs 8) _ from by rw [if_pos rfl]; exact h.2))
      clear hK
      intro K' hK'
      go_wp2_with (fail)
      exact hK' _ _ ⟨Gw.h, _, rfl, by first | (simp only [size_ext, alloc_size]; omega) | (simp only [size_ext]; omega), Or.inl (heap_newE (by simp only [size_ext, alloc_size]))⟩
    · obtain ⟨b, eb, hb, hz⟩ := hΦ 8 (List.mem_of_elem_eq_true (by kernel_rfl))
      have e17 : A.eval (.tmp 17) = .pointer (some ⟨b, 0, none⟩) := (hin 8 17 (by omega) (by kernel_rfl)).trans eb
      have e115 : A.eval (.tmp 115) = .agg #[.int .u8 2, .int .u8 0] := (hin 6 115 (by omega) (by kernel_rfl)).trans (hΦ 6 (List.mem_of_elem_eq_true (by kernel_rfl)))
      rcases hz with hz | hz
      · obtain ⟨xa, xb, hbW, hw⟩ := split_box hz hb
        rw [hw] at hK ⊢
        refine ⟨_, rfl, wp_tiny (Op.store 23 (.const (.pointer (some ⟨b, 0, none⟩))) (.const (.agg #[.int .u8 2, .int .u8 0]))) (R := fun u w'' => w'' = ext ((ext (Wa w) xa).alloc (.cells #[.int .u8 2, .int .u8 0] 23)) xb) (wanted_none rfl _) (by simp [execOp, resolve, e17, e115, ev_c, ev_f]) ?_ (fun u w'' h => ?_)⟩
        · haveI : EqW b (ext (Wa w) xa) := ⟨hbW⟩
          clear hbW hw hz hK
          intro K' hK'
          go_wp2_with fail
          exact hK' _ _ rfl
        · subst h
          exact hK u _ (Rho.store) ⟨b, (if_neg (by decide) : (if (8 : Nat) = 9 then u else vs 8) = vs 8).trans eb, hb, block_stay (grow_ext _ xb) (heap_newE hbW)⟩
      · obtain ⟨xa, xb, hbW, hw⟩ := split_box hz hb
        rw [hw] at hK ⊢
        refine ⟨_, rfl, wp_tiny (Op.store 23 (.const (.pointer (some ⟨b, 0, none⟩))) (.const (.agg #[.int .u8 2, .int .u8 0]))) (R := fun u w'' => w'' = ext ((ext (Wa w) xa).alloc (.cells #[.int .u8 2, .int .u8 0] 23)) xb) (wanted_none rfl _) (by simp [execOp, resolve, e17, e115, ev_c, ev_f]) ?_ (fun u w'' h => ?_)⟩
        · haveI : EqW b (ext (Wa w) xa) := ⟨hbW⟩
          clear hbW hw hz hK
          intro K' hK'
          go_wp2_with fail
          exact hK' _ _ rfl
        · subst h
          exact hK u _ (Rho.of (Grow.refl _)) ⟨b, (if_neg (by decide) : (if (8 : Nat) = 9 then u else vs 8) = vs 8).trans eb, hb, block_stay (grow_ext _ xb) (heap_newE hbW)⟩
  obtain ⟨xq, rfl⟩ := ext_of_grow (hg.1 (Gw.h : Grow (Wa w) _))
  clear hg
  obtain ⟨p17, e17, hb17, hc17⟩ := hΦ 9 (by omega)
  replace S : St8 A 383 _ := ⟨hNA, hDA.trans S.defers, Lk.cons (hout 1 _ (by kernel_rfl) (S.g 1 rfl)) (Lk.cons (hout 2 _ (by kernel_rfl) (S.g 2 rfl)) (Lk.cons (hout 3 _ (by kernel_rfl) (S.g 3 rfl)) (Lk.cons (hout 5 _ (by kernel_rfl) (S.g 5 rfl)) (Lk.cons (hout 7 _ (by kernel_rfl) (S.g 7 rfl)) (Lk.cons (hout 9 _ (by kernel_rfl) (S.g 9 rfl)) (Lk.cons (hout 11 _ (by kernel_rfl) (S.g 11 rfl)) (Lk.cons (hout 13 _ (by kernel_rfl) (S.g 13 rfl)) (Lk.cons (hout 15 _ (by kernel_rfl) (S.g 15 rfl)) (Lk.cons (hout 16 _ (by kernel_rfl) (S.g 16 rfl)) (Lk.cons ((hin 7 116 (by omega) (by kernel_rfl)).trans (hΦ 7 (by omega))) (Lk.cons ((hin 8 17 (by omega) (by kernel_rfl)).trans e17) (Lk.nil))))))))))))⟩
  clear hΦ hin hout hNA hDA a
  rename Act => a
  simp only [List.drop_succ_cons, List.drop_zero]
  obtain ⟨x14, x15, hp17, hw⟩ := split_box hc17 hb17
  rw [hw]
  clear hw hb17 hc17
  haveI ep17 : EqW p17 (ext (Wa w) x14) := ⟨hp17⟩
  clear hp17
  refine st_val S (Op.assign (.const (.int .i64 0))) (.int .i64 0) rfl rfl (wanted_none rfl _) (by simp [execOp, resolve, S.g 116 rfl, ev_c, ev_f]) ?_ (fun a S => ?_)
  · intro K' hK'
    go_wp2_with fail
    exact hK'
  replace S : St8 a 383 _ := ⟨S.size, S.defers, Lk.cons (S.g 1 rfl) (Lk.cons (S.g 2 rfl) (Lk.cons (S.g 3 rfl) (Lk.cons (S.g 5 rfl) (Lk.cons (S.g 7 rfl) (Lk.cons (S.g 9 rfl) (Lk.cons (S.g 11 rfl) (Lk.cons (S.g 13 rfl) (Lk.cons (S.g 15 rfl) (Lk.cons (S.g 16 rfl) (Lk.cons (S.g 17 rfl) (Lk.nil)))))))))))⟩
  go_upto_region 12 with fail
  refine region_rho' 10 383 (by kernel_rfl) (by kernel_rfl) S.size (by kernel_rfl) (Rho ((ext (Wa w) x14).alloc (.cells #[.int .u8 2, .int .u8 0] 23)) (.cells #[.int .u8 0, .int .u8 0] 23) (.cells #[.int .u8 1, .int .u8 0] 23)) (fun _ _ _ => Rho.trans) (fun _ _ => Rho.of) (ph12 w ((ext (Wa w) x14).alloc (.cells #[.int .u8 2, .int .u8 0] 23))) (ph12_stay w _) (ph12_loc w _ _ (by kernel_rfl)) (fun i hi vs w' A hg hΦ hin hout hsz K hK => ?_) (fun vs w' A hDA hg hΦ hin hout hNA => ?_)
  · obtain ⟨xq, rfl⟩ := ext_of_grow (hg.1 (Gw.h : Grow ((ext (Wa w) x14).alloc (.cells #[.int .u8 2, .int .u8 0] 23)) _))
    clear hg
    obtain rfl | rfl | rfl | rfl | rfl | rfl | rfl | rfl | rfl | rfl : i = 0 ∨ i = 1 ∨ i = 2 ∨ i = 3 ∨ i = 4 ∨ i = 5 ∨ i = 6 ∨ i = 7 ∨ i = 8 ∨ i = 9 := by omega
    · have e1 := hout 1 _ (by kernel_rfl) (S.g 1 rfl)
      refine ⟨_, rfl, ?_⟩
      refine wp_tiny (Op.move (.const (.slice (some ⟨w.heap.size, 0, none⟩) 4 4))) (R := fun u w'' => Grow (ext ((ext (Wa w) x14).alloc (.cells #[.int .u8 2, .int .u8 0] 23)) xq) w'' ∧ u = .slice (some ⟨w.heap.size, 0, none⟩) 4 4) (wanted_none rfl _) (by simp [execOp, resolve, e1, ev_c, ev_f]) ?_ (fun u w'' h => hK u w'' (Rho.of h.1) ((if_pos rfl : (if (0 : Nat) = 0 then u else vs 0) = u).trans h.2))
      clear hK
      intro K' hK'
      go_wp2_with (fail)
      exact hK' _ _ ⟨Gw.h, rfl⟩
    · have e3 := hout 3 _ (by kernel_rfl) (S.g 3 rfl)
      refine ⟨_, rfl, ?_⟩
      refine wp_tiny (Op.load 28 (.const (.pointer (some ⟨w.heap.size + 1 + 1, 0, none⟩)))) (R := fun u w'' => Grow (ext ((ext (Wa w) x14).alloc (.cells #[.int .u8 2, .int .u8 0] 23)) xq) w'' ∧ u = .agg #[.int .u8 2, .int .i64 0, .int .i64 1, .bool true, .int .u8 2]) (wanted_none rfl _) (by simp [execOp, resolve, e3, ev_c, ev_f]) ?_ (fun u w'' h => hK u w'' (Rho.of h.1) ((if_pos rfl : (if (1 : Nat) = 1 then u else vs 1) = u).trans h.2))
      clear hK
      intro K' hK'
      go_wp2_with (fail)
      exact hK' _ _ ⟨Gw.h, rfl⟩
    · refine ⟨_, rfl, ?_⟩
      refine wp_tiny (Op.call { callee := Callee.value (Operand.func 8), args := #[.const (.int .i64 2)], argTypes := #[2] }) (R := fun u w'' => Grow (ext ((ext (Wa w) x14).alloc (.cells #[.int .u8 2, .int .u8 0] 23)) xq) w'' ∧ u = .agg #[.int .u8 1, .int .i64 2, .int .i64 0, .bool false, .int .u8 0]) (wanted_none rfl _) (by simp [execOp, resolve, ev_c, ev_f]) ?_ (fun u w'' h => hK u w'' (Rho.of h.1) ((if_pos rfl : (if (2 : Nat) = 2 then u else vs 2) = u).trans h.2))
      clear hK
      intro K' hK'
      go_wp2_with ((go_at_call 8; ((with_reducible refine (law14_number _ _).mono ?_); rintro e w1 ⟨rfl, hb1⟩; obtain ⟨x1, rfl⟩ := ext_of_grow hb1; clear hb1)))
      exact hK' _ _ ⟨Gw.h, rfl⟩
    · have e119 : A.eval (.tmp 119) = .agg #[.int .u8 2, .int .i64 0, .int .i64 1, .bool true, .int .u8 2] := (hin 1 119 (by omega) (by kernel_rfl)).trans (hΦ 1 (List.mem_of_elem_eq_true (by kernel_rfl)))
      have e120 : A.eval (.tmp 120) = .agg #[.int .u8 1, .int .i64 2, .int .i64 0, .bool false, .int .u8 0] := (hin 2 120 (by omega) (by kernel_rfl)).trans (hΦ 2 (List.mem_of_elem_eq_true (by kernel_rfl)))
      refine ⟨_, rfl, ?_⟩
      refine wp_tiny (Op.build 33 #[(0, .const (.int .u8 2)), (1, .const (.int .u8 5)), (3, .const (.agg #[.int .u8 2, .int .i64 0, .int .i64 1, .bool true, .int .u8 2])), (4, .const (.agg #[.int .u8 1, .int .i64 2, .int .i64 0, .bool false, .int .u8 0]))]) (R := fun u w'' => Grow (ext ((ext (Wa w) x14).alloc (.cells #[.int .u8 2, .int .u8 0] 23)) xq) w'' ∧ u = .agg #[.int .u8 2, .int .u8 5, .int .u8 0, .int .u8 2, .int .i64 0, .int .i64 1, .bool true, .int .u8 2, .int .u8 1, .int .i64 2, .int .i64 0, .bool false, .int .u8 0, .int .i64 0, .bool false, .int .u8 0]) (wanted_none rfl _) (by simp [execOp, resolve, e119, e120, ev_c, ev_f]) ?_ (fun u w'' h => hK u w'' (Rho.of h.1) ((if_pos rfl : (if (3 : Nat) = 3 then u else vs 3) = u).trans h.2))
      clear hK
      intro K' hK'
      go_wp2_with (fail)
      exact hK' _ _ ⟨Gw.h, rfl⟩
    · have e118 : A.eval (.tmp 118) = .slice (some ⟨w.heap.size, 0, none⟩) 4 4 := (hin 0 118 (by omega) (by kernel_rfl)).trans (hΦ 0 (List.mem_of_elem_eq_true (by kernel_rfl)))
      have e121 : A.eval (.tmp 121) = .agg #[.int .u8 2, .int .u8 5, .int .u8 0, .int .u8 2, .int .i64 0, .int .i64 1, .bool true, .int .u8 2, .int .u8 1, .int .i64 2, .int .i64 0, .bool false, .int .u8 0, .int .i64 0, .bool false, .int .u8 0] := (hin 3 121 (by omega) (by kernel_rfl)).trans (hΦ 3 (List.mem_of_elem_eq_true (by kernel_rfl)))
      refine ⟨_, rfl, ?_⟩
      refine wp_tiny (Op.call { callee := Callee.value (Operand.func 6), args := #[.const (.slice (some ⟨w.heap.size, 0, none⟩) 4 4), .const (.agg #[.int .u8 2, .int .u8 5, .int .u8 0, .int .u8 2, .int .i64 0, .int .i64 1, .bool true, .int .u8 2, .int .u8 1, .int .i64 2, .int .i64 0, .bool false, .int .u8 0, .int .i64 0, .bool false, .int .u8 0])], argTypes := #[24, 33] }) (R := fun u w'' => Grow (ext ((ext (Wa w) x14).alloc (.cells #[.int .u8 2, .int .u8 0] 23)) xq) w'' ∧ u = .tuple #[.agg #[.int .u8 1, .int .u8 0], .int .i64 0]) (wanted_none rfl _) (by simp [execOp, resolve, e118, e121, ev_c, ev_f]) ?_ (fun u w'' h => hK u w'' (Rho.of h.1) ((if_pos rfl : (if (4 : Nat) = 4 then u else vs 4) = u).trans h.2))
      clear hK
      intro K' hK'
      go_wp2_with ((go_at_call 6; ((with_reducible refine (sh_rv nr7 _ _ _ _ nr7_wf nr7_e (sh_at (by first | (simp only [hp_at, hp_alloc, hp_ext, hp_drew]; done) | (simp only [hp_at, hp_alloc, hp_ext, hp_drew]; kernel_rfl)))).mono ?_); rintro e w1 ⟨rfl, hb1⟩; obtain ⟨x1, rfl⟩ := ext_of_grow hb1; clear hb1)))
      exact hK' _ _ ⟨Gw.h, rfl⟩
    · have e122 : A.eval (.tmp 122) = .tuple #[.agg #[.int .u8 1, .int .u8 0], .int .i64 0] := (hin 4 122 (by omega) (by kernel_rfl)).trans (hΦ 4 (List.mem_of_elem_eq_true (by kernel_rfl)))
      refine ⟨_, rfl, ?_⟩
      refine wp_tiny (Op.move (.const (.tuple #[.agg #[.int .u8 1, .int .u8 0], .int .i64 0]))) (R := fun u w'' => Grow (ext ((ext (Wa w) x14).alloc (.cells #[.int .u8 2, .int .u8 0] 23)) xq) w'' ∧ u = .tuple #[.agg #[.int .u8 1, .int .u8 0], .int .i64 0]) (wanted_none rfl _) (by simp [execOp, resolve, e122, ev_c, ev_f]) ?_ (fun u w'' h => hK u w'' (Rho.of h.1) ((if_pos rfl : (if (5 : Nat) = 5 then u else vs 5) = u).trans h.2))
      clear hK
      intro K' hK'
      go_wp2_with (fail)
      exact hK' _ _ ⟨Gw.h, rfl⟩
    · have e117 : A.eval (.tmp 117) = .tuple #[.agg #[.int .u8 1, .int .u8 0], .int .i64 0] := (hin 5 117 (by omega) (by kernel_rfl)).trans (hΦ 5 (List.mem_of_elem_eq_true (by kernel_rfl)))
      refine ⟨_, rfl, ?_⟩
      refine wp_tiny (Op.extract (.const (.tuple #[.agg #[.int .u8 1, .int .u8 0], .int .i64 0])) 0) (R := fun u w'' => Grow (ext ((ext (Wa w) x14).alloc (.cells #[.int .u8 2, .int .u8 0] 23)) xq) w'' ∧ u = .agg #[.int .u8 1, .int .u8 0]) (wanted_none rfl _) (by simp [execOp, resolve, e117, ev_c, ev_f]) ?_ (fun u w'' h => hK u w'' (Rho.of h.1) ((if_pos rfl : (if (6 : Nat) = 6 then u else vs 6) = u).trans h.2))
      clear hK
      intro K' hK'
      go_wp2_with (fail)
      exact hK' _ _ ⟨Gw.h, rfl⟩
    · have e117 : A.eval (.tmp 117) = .tuple #[.agg #[.int .u8 1, .int .u8 0], .int .i64 0] := (hin 5 117 (by omega) (by kernel_rfl)).trans (hΦ 5 (List.mem_of_elem_eq_true (by kernel_rfl)))
      refine ⟨_, rfl, ?_⟩
      refine wp_tiny (Op.extract (.const (.tuple #[.agg #[.int .u8 1, .int .u8 0], .int .i64 0])) 1) (R := fun u w'' => Grow (ext ((ext (Wa w) x14).alloc (.cells #[.int .u8 2, .int .u8 0] 23)) xq) w'' ∧ u = .int .i64 0) (wanted_none rfl _) (by simp [execOp, resolve, e117, ev_c, ev_f]) ?_ (fun u w'' h => hK u w'' (Rho.of h.1) ((if_pos rfl : (if (7 : Nat) = 7 then u else vs 7) = u).trans h.2))
      clear hK
      intro K' hK'
      go_wp2_with (fail)
      exact hK' _ _ ⟨Gw.h, rfl⟩
    · refine ⟨_, rfl, ?_⟩
      refine wp_tiny (Op.alloc 23) (R := fun u w'' => Grow (ext ((ext (Wa w) x14).alloc (.cells #[.int .u8 2, .int .u8 0] 23)) xq) w'' ∧ BoxZV ((ext (Wa w) x14).alloc (.cells #[.int .u8 2, .int .u8 0] 23)) (.cells #[.int .u8 0, .int .u8 0] 23) (.cells #[.int .u8 1, .int .u8 0] 23) u w'') (wanted_none rfl _) (by simp [execOp, resolve, ev_c, ev_f]) ?_ (fun u w'' h => hK u w'' (Rho.of h.1) (show BoxZV _ _ _ (if (8 : Nat) = 8 then u else vs 8) _ from by rw [if_pos rfl]; exact h.2))
      clear hK
      intro K' hK'
      go_wp2_with (fail)
      exact hK' _ _ ⟨Gw.h, _, rfl, by first | (simp only [size_ext, alloc_size]; omega) | (simp only [size_ext]; omega), Or.inl (heap_newE (by simp only [size_ext, alloc_size]))⟩
    · obtain ⟨b, eb, hb, hz⟩ := hΦ 8 (List.mem_of_elem_eq_true (by kernel_rfl))
      have e18 : A.eval (.tmp 18) = .pointer (some ⟨b, 0, none⟩) := (hin 8 18 (by omega) (by kernel_rfl)).trans eb
      have e123 : A.eval (.tmp 123) = .agg #[.int .u8 1, .int .u8 0] := (hin 6 123 (by omega) (by kernel_rfl)).trans (hΦ 6 (List.mem_of_elem_eq_true (by kernel_rfl)))
      rcases hz with hz | hz
      · obtain ⟨xa, xb, hbW, hw⟩ := split_box hz hb
        rw [hw] at hK ⊢
        refine ⟨_, rfl, wp_tiny (Op.store 23 (.const (.pointer (some ⟨b, 0, none⟩))) (.const (.agg #[.int .u8 1, .int .u8 0]))) (R := fun u w'' => w'' = ext ((ext ((ext (Wa w) x14).alloc (.cells #[.int .u8 2, .int .u8 0] 23)) xa).alloc (.cells #[.int .u8 1, .int .u8 0] 23)) xb) (wanted_none rfl _) (by simp [execOp, resolve, e18, e123, ev_c, ev_f]) ?_ (fun u w'' h => ?_)⟩
        · haveI : EqW b (ext ((ext (Wa w) x14).alloc (.cells #[.int .u8 2, .int .u8 0] 23)) xa) := ⟨hbW⟩
          clear hbW hw hz hK
          intro K' hK'
          go_wp2_with fail
          exact hK' _ _ rfl
        · subst h
          exact hK u _ (Rho.store) ⟨b, (if_neg (by decide) : (if (8 : Nat) = 9 then u else vs 8) = vs 8).trans eb, hb, block_stay (grow_ext _ xb) (heap_newE hbW)⟩
      · obtain ⟨xa, xb, hbW, hw⟩ := split_box hz hb
        rw [hw] at hK ⊢
        refine ⟨_, rfl, wp_tiny (Op.store 23 (.const (.pointer (some ⟨b, 0, none⟩))) (.const (.agg #[.int .u8 1, .int .u8 0]))) (R := fun u w'' => w'' = ext ((ext ((ext (Wa w) x14).alloc (.cells #[.int .u8 2, .int .u8 0] 23)) xa).alloc (.cells #[.int .u8 1, .int .u8 0] 23)) xb) (wanted_none rfl _) (by simp [execOp, resolve, e18, e123, ev_c, ev_f]) ?_ (fun u w'' h => ?_)⟩
        · haveI : EqW b (ext ((ext (Wa w) x14).alloc (.cells #[.int .u8 2, .int .u8 0] 23)) xa) := ⟨hbW⟩
          clear hbW hw hz hK
          intro K' hK'
          go_wp2_with fail
          exact hK' _ _ rfl
        · subst h
          exact hK u _ (Rho.of (Grow.refl _)) ⟨b, (if_neg (by decide) : (if (8 : Nat) = 9 then u else vs 8) = vs 8).trans eb, hb, block_stay (grow_ext _ xb) (heap_newE hbW)⟩
  obtain ⟨xq, rfl⟩ := ext_of_grow (hg.1 (Gw.h : Grow ((ext (Wa w) x14).alloc (.cells #[.int .u8 2, .int .u8 0] 23)) _))
  clear hg
  obtain ⟨p18, e18, hb18, hc18⟩ := hΦ 9 (by omega)
  replace S : St8 A 383 _ := ⟨hNA, hDA.trans S.defers, Lk.cons (hout 1 _ (by kernel_rfl) (S.g 1 rfl)) (Lk.cons (hout 2 _ (by kernel_rfl) (S.g 2 rfl)) (Lk.cons (hout 3 _ (by kernel_rfl) (S.g 3 rfl)) (Lk.cons (hout 5 _ (by kernel_rfl) (S.g 5 rfl)) (Lk.cons (hout 7 _ (by kernel_rfl) (S.g 7 rfl)) (Lk.cons (hout 9 _ (by kernel_rfl) (S.g 9 rfl)) (Lk.cons (hout 11 _ (by kernel_rfl) (S.g 11 rfl)) (Lk.cons (hout 13 _ (by kernel_rfl) (S.g 13 rfl)) (Lk.cons (hout 15 _ (by kernel_rfl) (S.g 15 rfl)) (Lk.cons (hout 16 _ (by kernel_rfl) (S.g 16 rfl)) (Lk.cons (hout 17 _ (by kernel_rfl) (S.g 17 rfl)) (Lk.cons ((hin 7 124 (by omega) (by kernel_rfl)).trans (hΦ 7 (by omega))) (Lk.cons ((hin 8 18 (by omega) (by kernel_rfl)).trans e18) (Lk.nil)))))))))))))⟩
  clear hΦ hin hout hNA hDA a
  rename Act => a
  simp only [List.drop_succ_cons, List.drop_zero]
  obtain ⟨x16, x17, hp18, hw⟩ := split_box hc18 hb18
  rw [hw]
  clear hw hb18 hc18
  haveI ep18 : EqW p18 (ext ((ext (Wa w) x14).alloc (.cells #[.int .u8 2, .int .u8 0] 23)) x16) := ⟨hp18⟩
  clear hp18
  refine st_val S (Op.assign (.const (.int .i64 0))) (.int .i64 0) rfl rfl (wanted_none rfl _) (by simp [execOp, resolve, S.g 124 rfl, ev_c, ev_f]) ?_ (fun a S => ?_)
  · intro K' hK'
    go_wp2_with fail
    exact hK'
  replace S : St8 a 383 _ := ⟨S.size, S.defers, Lk.cons (S.g 1 rfl) (Lk.cons (S.g 2 rfl) (Lk.cons (S.g 3 rfl) (Lk.cons (S.g 5 rfl) (Lk.cons (S.g 7 rfl) (Lk.cons (S.g 9 rfl) (Lk.cons (S.g 11 rfl) (Lk.cons (S.g 13 rfl) (Lk.cons (S.g 15 rfl) (Lk.cons (S.g 16 rfl) (Lk.cons (S.g 17 rfl) (Lk.cons (S.g 18 rfl) (Lk.nil))))))))))))⟩
  go_upto_region 13 with fail
  refine wp_region_lit ?_
  refine st_val S (Op.move (.const (.slice (some ⟨w.heap.size, 0, none⟩) 4 4))) (.slice (some ⟨w.heap.size, 0, none⟩) 4 4) rfl rfl (wanted_none rfl _) (by simp [execOp, resolve, S.g 1 rfl, ev_c, ev_f]) ?_ (fun a S => ?_)
  · intro K' hK'
    go_wp2_with fail
    exact hK'
  refine st_any S (Op.call { callee := Callee.value (Operand.func 8), args := #[.const (.int .i64 1)], argTypes := #[2] }) (fun u w'' => u = .agg #[.int .u8 1, .int .i64 1, .int .i64 0, .bool false, .int .u8 0] ∧ Grow ((ext ((ext (Wa w) x14).alloc (.cells #[.int .u8 2, .int .u8 0] 23)) x16).alloc (.cells #[.int .u8 1, .int .u8 0] 23)) w'') rfl rfl (wanted_none rfl _) (by simp [execOp, resolve, ev_c, ev_f]) ?_ (fun u w'' a h S => ?_)
  · intro K' hK'
    go_wp2_with ((go_at_call 8; ((with_reducible refine (law14_number _ _).mono ?_); rintro e w1 ⟨rfl, hb1⟩; obtain ⟨x1, rfl⟩ := ext_of_grow hb1; clear hb1)))
    exact hK' _ _ ⟨rfl, Gw.h⟩
  obtain ⟨rfl, hg⟩ := h
  obtain ⟨x18, rfl⟩ := ext_of_grow hg
  clear hg
  refine st_any S (Op.call { callee := Callee.value (Operand.func 7), args := #[.const (.int .i64 3)], argTypes := #[3] }) (fun u w'' => u = .agg #[.int .i64 3, .bool false, .int .u8 0] ∧ Grow ((ext ((ext (Wa w) x14).alloc (.cells #[.int .u8 2, .int .u8 0] 23)) x16).alloc (.cells #[.int .u8 1, .int .u8 0] 23)) w'') rfl rfl (wanted_none rfl _) (by simp [execOp, resolve, ev_c, ev_f]) ?_ (fun u w'' a h S => ?_)
  · intro K' hK'
    go_wp2_with ((go_at_call 7; ((with_reducible refine (law14_local _ _).mono ?_); rintro e w1 ⟨rfl, hb1⟩; obtain ⟨x1, rfl⟩ := ext_of_grow hb1; clear hb1)))
    exact hK' _ _ ⟨rfl, Gw.h⟩
  obtain ⟨rfl, hg⟩ := h
  obtain ⟨x19, rfl⟩ := ext_of_grow hg
  clear hg
  refine st_val S (Op.build 28 #[(0, .const (.int .u8 2)), (2, .const (.agg #[.int .i64 3, .bool false, .int .u8 0]))]) (.agg #[.int .u8 2, .int .i64 0, .int .i64 3, .bool false, .int .u8 0]) rfl rfl (wanted_none rfl _) (by simp [execOp, resolve, S.g 128 rfl, ev_c, ev_f]) ?_ (fun a S => ?_)
  · intro K' hK'
    go_wp2_with fail
    exact hK'
  refine st_val S (Op.build 33 #[(0, .const (.int .u8 3)), (3, .const (.agg #[.int .u8 1, .int .i64 1, .int .i64 0, .bool false, .int .u8 0])), (4, .const (.agg #[.int .u8 2, .int .i64 0, .int .i64 3, .bool false, .int .u8 0]))]) (.agg #[.int .u8 3, .int .u8 0, .int .u8 0, .int .u8 1, .int .i64 1, .int .i64 0, .bool false, .int .u8 0, .int .u8 2, .int .i64 0, .int .i64 3, .bool false, .int .u8 0, .int .i64 0, .bool false, .int .u8 0]) rfl rfl (wanted_none rfl _) (by simp [execOp, resolve, S.g 127 rfl, S.g 129 rfl, ev_c, ev_f]) ?_ (fun a S => ?_)
  · intro K' hK'
    go_wp2_with fail
    exact hK'
  refine st_any S (Op.call { callee := Callee.value (Operand.func 6), args := #[.const (.slice (some ⟨w.heap.size, 0, none⟩) 4 4), .const (.agg #[.int .u8 3, .int .u8 0, .int .u8 0, .int .u8 1, .int .i64 1, .int .i64 0, .bool false, .int .u8 0, .int .u8 2, .int .i64 0, .int .i64 3, .bool false, .int .u8 0, .int .i64 0, .bool false, .int .u8 0])], argTypes := #[24, 33] }) (fun u w'' => u = .tuple #[.agg #[.int .u8 0, .int .u8 0], .int .i64 42] ∧ Grow ((ext ((ext (Wa w) x14).alloc (.cells #[.int .u8 2, .int .u8 0] 23)) x16).alloc (.cells #[.int .u8 1, .int .u8 0] 23)) w'') rfl rfl (wanted_none rfl _) (by simp [execOp, resolve, S.g 126 rfl, S.g 130 rfl, ev_c, ev_f]) ?_ (fun u w'' a h S => ?_)
  · intro K' hK'
    go_wp2_with ((go_at_call 6; ((with_reducible refine (sh_rv nr8 _ _ _ _ nr8_wf nr8_e (sh_at (by first | (simp only [hp_at, hp_alloc, hp_ext, hp_drew]; done) | (simp only [hp_at, hp_alloc, hp_ext, hp_drew]; kernel_rfl)))).mono ?_); rintro e w1 ⟨rfl, hb1⟩; obtain ⟨x1, rfl⟩ := ext_of_grow hb1; clear hb1)))
    exact hK' _ _ ⟨rfl, Gw.h⟩
  obtain ⟨rfl, hg⟩ := h
  obtain ⟨x20, rfl⟩ := ext_of_grow hg
  clear hg
  refine st_val S (Op.move (.const (.tuple #[.agg #[.int .u8 0, .int .u8 0], .int .i64 42]))) (.tuple #[.agg #[.int .u8 0, .int .u8 0], .int .i64 42]) rfl rfl (wanted_none rfl _) (by simp [execOp, resolve, S.g 131 rfl, ev_c, ev_f]) ?_ (fun a S => ?_)
  · intro K' hK'
    go_wp2_with fail
    exact hK'
  refine st_val S (Op.extract (.const (.tuple #[.agg #[.int .u8 0, .int .u8 0], .int .i64 42])) 0) (.agg #[.int .u8 0, .int .u8 0]) rfl rfl (wanted_none rfl _) (by simp [execOp, resolve, S.g 125 rfl, ev_c, ev_f]) ?_ (fun a S => ?_)
  · intro K' hK'
    go_wp2_with fail
    exact hK'
  refine st_val S (Op.extract (.const (.tuple #[.agg #[.int .u8 0, .int .u8 0], .int .i64 42])) 1) (.int .i64 42) rfl rfl (wanted_none rfl _) (by simp [execOp, resolve, S.g 125 rfl, ev_c, ev_f]) ?_ (fun a S => ?_)
  · intro K' hK'
    go_wp2_with fail
    exact hK'
  refine st_val S (Op.assign (.const (.int .i64 42))) (.int .i64 42) rfl rfl (wanted_none rfl _) (by simp [execOp, resolve, S.g 133 rfl, ev_c, ev_f]) ?_ (fun a S => ?_)
  · intro K' hK'
    go_wp2_with fail
    exact hK'
  replace S : St8 a 383 _ := ⟨S.size, S.defers, Lk.cons (S.g 1 rfl) (Lk.cons (S.g 2 rfl) (Lk.cons (S.g 3 rfl) (Lk.cons (S.g 5 rfl) (Lk.cons (S.g 7 rfl) (Lk.cons (S.g 9 rfl) (Lk.cons (S.g 11 rfl) (Lk.cons (S.g 13 rfl) (Lk.cons (S.g 15 rfl) (Lk.cons (S.g 16 rfl) (Lk.cons (S.g 17 rfl) (Lk.cons (S.g 18 rfl) (Lk.nil))))))))))))⟩
  go_upto_region 14 with fail
  refine wp_region_lit ?_
  refine st_val S (Op.move (.const (.slice (some ⟨w.heap.size, 0, none⟩) 4 4))) (.slice (some ⟨w.heap.size, 0, none⟩) 4 4) rfl rfl (wanted_none rfl _) (by simp [execOp, resolve, S.g 1 rfl, ev_c, ev_f]) ?_ (fun a S => ?_)
  · intro K' hK'
    go_wp2_with fail
    exact hK'
  refine st_any S (Op.call { callee := Callee.value (Operand.func 7), args := #[.const (.int .i64 3)], argTypes := #[3] }) (fun u w'' => u = .agg #[.int .i64 3, .bool false, .int .u8 0] ∧ Grow ((ext ((ext (Wa w) x14).alloc (.cells #[.int .u8 2, .int .u8 0] 23)) x16).alloc (.cells #[.int .u8 1, .int .u8 0] 23)) w'') rfl rfl (wanted_none rfl _) (by simp [execOp, resolve, ev_c, ev_f]) ?_ (fun u w'' a h S => ?_)
  · intro K' hK'
    go_wp2_with ((go_at_call 7; ((with_reducible refine (law14_local _ _).mono ?_); rintro e w1 ⟨rfl, hb1⟩; obtain ⟨x1, rfl⟩ := ext_of_grow hb1; clear hb1)))
    exact hK' _ _ ⟨rfl, Gw.h⟩
  obtain ⟨rfl, hg⟩ := h
  obtain ⟨x21, rfl⟩ := ext_of_grow hg
  clear hg
  refine st_val S (Op.build 28 #[(0, .const (.int .u8 2)), (2, .const (.agg #[.int .i64 3, .bool false, .int .u8 0]))]) (.agg #[.int .u8 2, .int .i64 0, .int .i64 3, .bool false, .int .u8 0]) rfl rfl (wanted_none rfl _) (by simp [execOp, resolve, S.g 136 rfl, ev_c, ev_f]) ?_ (fun a S => ?_)
  · intro K' hK'
    go_wp2_with fail
    exact hK'
  refine st_any S (Op.call { callee := Callee.value (Operand.func 7), args := #[.const (.int .i64 9)], argTypes := #[3] }) (fun u w'' => u = .agg #[.int .i64 9, .bool false, .int .u8 0] ∧ Grow ((ext ((ext (Wa w) x14).alloc (.cells #[.int .u8 2, .int .u8 0] 23)) x16).alloc (.cells #[.int .u8 1, .int .u8 0] 23)) w'') rfl rfl (wanted_none rfl _) (by simp [execOp, resolve, ev_c, ev_f]) ?_ (fun u w'' a h S => ?_)
  · intro K' hK'
    go_wp2_with ((go_at_call 7; ((with_reducible refine (law14_local _ _).mono ?_); rintro e w1 ⟨rfl, hb1⟩; obtain ⟨x1, rfl⟩ := ext_of_grow hb1; clear hb1)))
    exact hK' _ _ ⟨rfl, Gw.h⟩
  obtain ⟨rfl, hg⟩ := h
  obtain ⟨x22, rfl⟩ := ext_of_grow hg
  clear hg
  refine st_val S (Op.build 28 #[(0, .const (.int .u8 2)), (2, .const (.agg #[.int .i64 9, .bool false, .int .u8 0]))]) (.agg #[.int .u8 2, .int .i64 0, .int .i64 9, .bool false, .int .u8 0]) rfl rfl (wanted_none rfl _) (by simp [execOp, resolve, S.g 138 rfl, ev_c, ev_f]) ?_ (fun a S => ?_)
  · intro K' hK'
    go_wp2_with fail
    exact hK'
  refine st_val S (Op.build 33 #[(0, .const (.int .u8 2)), (1, .const (.int .u8 1)), (3, .const (.agg #[.int .u8 2, .int .i64 0, .int .i64 3, .bool false, .int .u8 0])), (4, .const (.agg #[.int .u8 2, .int .i64 0, .int .i64 9, .bool false, .int .u8 0]))]) (.agg #[.int .u8 2, .int .u8 1, .int .u8 0, .int .u8 2, .int .i64 0, .int .i64 3, .bool false, .int .u8 0, .int .u8 2, .int .i64 0, .int .i64 9, .bool false, .int .u8 0, .int .i64 0, .bool false, .int .u8 0]) rfl rfl (wanted_none rfl _) (by simp [execOp, resolve, S.g 137 rfl, S.g 139 rfl, ev_c, ev_f]) ?_ (fun a S => ?_)
  · intro K' hK'
    go_wp2_with fail
    exact hK'
  refine st_any S (Op.call { callee := Callee.value (Operand.func 6), args := #[.const (.slice (some ⟨w.heap.size, 0, none⟩) 4 4), .const (.agg #[.int .u8 2, .int .u8 1, .int .u8 0, .int .u8 2, .int .i64 0, .int .i64 3, .bool false, .int .u8 0, .int .u8 2, .int .i64 0, .int .i64 9, .bool false, .int .u8 0, .int .i64 0, .bool false, .int .u8 0])], argTypes := #[24, 33] }) (fun u w'' => u = .tuple #[.agg #[.int .u8 0, .int .u8 0], .int .i64 6] ∧ Grow ((ext ((ext (Wa w) x14).alloc (.cells #[.int .u8 2, .int .u8 0] 23)) x16).alloc (.cells #[.int .u8 1, .int .u8 0] 23)) w'') rfl rfl (wanted_none rfl _) (by simp [execOp, resolve, S.g 135 rfl, S.g 140 rfl, ev_c, ev_f]) ?_ (fun u w'' a h S => ?_)
  · intro K' hK'
    go_wp2_with ((go_at_call 6; ((with_reducible refine (sh_rv nr9 _ _ _ _ nr9_wf nr9_e (sh_at (by first | (simp only [hp_at, hp_alloc, hp_ext, hp_drew]; done) | (simp only [hp_at, hp_alloc, hp_ext, hp_drew]; kernel_rfl)))).mono ?_); rintro e w1 ⟨rfl, hb1⟩; obtain ⟨x1, rfl⟩ := ext_of_grow hb1; clear hb1)))
    exact hK' _ _ ⟨rfl, Gw.h⟩
  obtain ⟨rfl, hg⟩ := h
  obtain ⟨x23, rfl⟩ := ext_of_grow hg
  clear hg
  refine st_val S (Op.move (.const (.tuple #[.agg #[.int .u8 0, .int .u8 0], .int .i64 6]))) (.tuple #[.agg #[.int .u8 0, .int .u8 0], .int .i64 6]) rfl rfl (wanted_none rfl _) (by simp [execOp, resolve, S.g 141 rfl, ev_c, ev_f]) ?_ (fun a S => ?_)
  · intro K' hK'
    go_wp2_with fail
    exact hK'
  refine st_val S (Op.extract (.const (.tuple #[.agg #[.int .u8 0, .int .u8 0], .int .i64 6])) 0) (.agg #[.int .u8 0, .int .u8 0]) rfl rfl (wanted_none rfl _) (by simp [execOp, resolve, S.g 134 rfl, ev_c, ev_f]) ?_ (fun a S => ?_)
  · intro K' hK'
    go_wp2_with fail
    exact hK'
  refine st_val S (Op.extract (.const (.tuple #[.agg #[.int .u8 0, .int .u8 0], .int .i64 6])) 1) (.int .i64 6) rfl rfl (wanted_none rfl _) (by simp [execOp, resolve, S.g 134 rfl, ev_c, ev_f]) ?_ (fun a S => ?_)
  · intro K' hK'
    go_wp2_with fail
    exact hK'
  refine st_val S (Op.assign (.const (.int .i64 6))) (.int .i64 6) rfl rfl (wanted_none rfl _) (by simp [execOp, resolve, S.g 143 rfl, ev_c, ev_f]) ?_ (fun a S => ?_)
  · intro K' hK'
    go_wp2_with fail
    exact hK'
  replace S : St8 a 383 _ := ⟨S.size, S.defers, Lk.cons (S.g 1 rfl) (Lk.cons (S.g 2 rfl) (Lk.cons (S.g 3 rfl) (Lk.cons (S.g 5 rfl) (Lk.cons (S.g 7 rfl) (Lk.cons (S.g 9 rfl) (Lk.cons (S.g 11 rfl) (Lk.cons (S.g 13 rfl) (Lk.cons (S.g 15 rfl) (Lk.cons (S.g 16 rfl) (Lk.cons (S.g 17 rfl) (Lk.cons (S.g 18 rfl) (Lk.nil))))))))))))⟩
  go_upto_region 15 with fail
  refine wp_region_lit ?_
  refine st_val S (Op.move (.const (.slice (some ⟨w.heap.size, 0, none⟩) 4 4))) (.slice (some ⟨w.heap.size, 0, none⟩) 4 4) rfl rfl (wanted_none rfl _) (by simp [execOp, resolve, S.g 1 rfl, ev_c, ev_f]) ?_ (fun a S => ?_)
  · intro K' hK'
    go_wp2_with fail
    exact hK'
  refine st_any S (Op.call { callee := Callee.value (Operand.func 7), args := #[.const (.int .i64 1)], argTypes := #[3] }) (fun u w'' => u = .agg #[.int .i64 1, .bool false, .int .u8 0] ∧ Grow ((ext ((ext (Wa w) x14).alloc (.cells #[.int .u8 2, .int .u8 0] 23)) x16).alloc (.cells #[.int .u8 1, .int .u8 0] 23)) w'') rfl rfl (wanted_none rfl _) (by simp [execOp, resolve, ev_c, ev_f]) ?_ (fun u w'' a h S => ?_)
  · intro K' hK'
    go_wp2_with ((go_at_call 7; ((with_reducible refine (law14_local _ _).mono ?_); rintro e w1 ⟨rfl, hb1⟩; obtain ⟨x1, rfl⟩ := ext_of_grow hb1; clear hb1)))
    exact hK' _ _ ⟨rfl, Gw.h⟩
  obtain ⟨rfl, hg⟩ := h
  obtain ⟨x24, rfl⟩ := ext_of_grow hg
  clear hg
  refine st_val S (Op.build 28 #[(0, .const (.int .u8 3)), (2, .const (.agg #[.int .i64 1, .bool false, .int .u8 0]))]) (.agg #[.int .u8 3, .int .i64 0, .int .i64 1, .bool false, .int .u8 0]) rfl rfl (wanted_none rfl _) (by simp [execOp, resolve, S.g 146 rfl, ev_c, ev_f]) ?_ (fun a S => ?_)
  · intro K' hK'
    go_wp2_with fail
    exact hK'
  refine st_val S (Op.build 33 #[(0, .const (.int .u8 1)), (3, .const (.agg #[.int .u8 3, .int .i64 0, .int .i64 1, .bool false, .int .u8 0]))]) (.agg #[.int .u8 1, .int .u8 0, .int .u8 0, .int .u8 3, .int .i64 0, .int .i64 1, .bool false, .int .u8 0, .int .u8 0, .int .i64 0, .int .i64 0, .bool false, .int .u8 0, .int .i64 0, .bool false, .int .u8 0]) rfl rfl (wanted_none rfl _) (by simp [execOp, resolve, S.g 147 rfl, ev_c, ev_f]) ?_ (fun a S => ?_)
  · intro K' hK'
    go_wp2_with fail
    exact hK'
  refine st_any S (Op.call { callee := Callee.value (Operand.func 6), args := #[.const (.slice (some ⟨w.heap.size, 0, none⟩) 4 4), .const (.agg #[.int .u8 1, .int .u8 0, .int .u8 0, .int .u8 3, .int .i64 0, .int .i64 1, .bool false, .int .u8 0, .int .u8 0, .int .i64 0, .int .i64 0, .bool false, .int .u8 0, .int .i64 0, .bool false, .int .u8 0])], argTypes := #[24, 33] }) (fun u w'' => u = .tuple #[.agg #[.int .u8 0, .int .u8 0], .int .i64 42] ∧ Grow ((ext ((ext (Wa w) x14).alloc (.cells #[.int .u8 2, .int .u8 0] 23)) x16).alloc (.cells #[.int .u8 1, .int .u8 0] 23)) w'') rfl rfl (wanted_none rfl _) (by simp [execOp, resolve, S.g 145 rfl, S.g 148 rfl, ev_c, ev_f]) ?_ (fun u w'' a h S => ?_)
  · intro K' hK'
    go_wp2_with ((go_at_call 6; ((with_reducible refine (sh_rv nr10 _ _ _ _ nr10_wf nr10_e (sh_at (by first | (simp only [hp_at, hp_alloc, hp_ext, hp_drew]; done) | (simp only [hp_at, hp_alloc, hp_ext, hp_drew]; kernel_rfl)))).mono ?_); rintro e w1 ⟨rfl, hb1⟩; obtain ⟨x1, rfl⟩ := ext_of_grow hb1; clear hb1)))
    exact hK' _ _ ⟨rfl, Gw.h⟩
  obtain ⟨rfl, hg⟩ := h
  obtain ⟨x25, rfl⟩ := ext_of_grow hg
  clear hg
  refine st_val S (Op.move (.const (.tuple #[.agg #[.int .u8 0, .int .u8 0], .int .i64 42]))) (.tuple #[.agg #[.int .u8 0, .int .u8 0], .int .i64 42]) rfl rfl (wanted_none rfl _) (by simp [execOp, resolve, S.g 149 rfl, ev_c, ev_f]) ?_ (fun a S => ?_)
  · intro K' hK'
    go_wp2_with fail
    exact hK'
  refine st_val S (Op.extract (.const (.tuple #[.agg #[.int .u8 0, .int .u8 0], .int .i64 42])) 0) (.agg #[.int .u8 0, .int .u8 0]) rfl rfl (wanted_none rfl _) (by simp [execOp, resolve, S.g 144 rfl, ev_c, ev_f]) ?_ (fun a S => ?_)
  · intro K' hK'
    go_wp2_with fail
    exact hK'
  refine st_val S (Op.extract (.const (.tuple #[.agg #[.int .u8 0, .int .u8 0], .int .i64 42])) 1) (.int .i64 42) rfl rfl (wanted_none rfl _) (by simp [execOp, resolve, S.g 144 rfl, ev_c, ev_f]) ?_ (fun a S => ?_)
  · intro K' hK'
    go_wp2_with fail
    exact hK'
  refine st_val S (Op.assign (.const (.int .i64 42))) (.int .i64 42) rfl rfl (wanted_none rfl _) (by simp [execOp, resolve, S.g 151 rfl, ev_c, ev_f]) ?_ (fun a S => ?_)
  · intro K' hK'
    go_wp2_with fail
    exact hK'
  replace S : St8 a 383 _ := ⟨S.size, S.defers, Lk.cons (S.g 1 rfl) (Lk.cons (S.g 2 rfl) (Lk.cons (S.g 3 rfl) (Lk.cons (S.g 5 rfl) (Lk.cons (S.g 7 rfl) (Lk.cons (S.g 9 rfl) (Lk.cons (S.g 11 rfl) (Lk.cons (S.g 13 rfl) (Lk.cons (S.g 15 rfl) (Lk.cons (S.g 16 rfl) (Lk.cons (S.g 17 rfl) (Lk.cons (S.g 18 rfl) (Lk.nil))))))))))))⟩
  go_upto_region 16 with fail
  refine wp_region_lit ?_
  refine st_val S (Op.build 33 #[(0, .const (.int .u8 1))]) (.agg #[.int .u8 1, .int .u8 0, .int .u8 0, .int .u8 0, .int .i64 0, .int .i64 0, .bool false, .int .u8 0, .int .u8 0, .int .i64 0, .int .i64 0, .bool false, .int .u8 0, .int .i64 0, .bool false, .int .u8 0]) rfl rfl (wanted_none rfl _) (by simp [execOp, resolve, ev_c, ev_f]) ?_ (fun a S => ?_)
  · intro K' hK'
    go_wp2_with fail
    exact hK'
  refine st_any S (Op.call { callee := Callee.value (Operand.func 6), args := #[.const (.slice none 0 0), .const (.agg #[.int .u8 1, .int .u8 0, .int .u8 0, .int .u8 0, .int .i64 0, .int .i64 0, .bool false, .int .u8 0, .int .u8 0, .int .i64 0, .int .i64 0, .bool false, .int .u8 0, .int .i64 0, .bool false, .int .u8 0])], argTypes := #[24, 33] }) (fun u w'' => u = .tuple #[.agg #[.int .u8 0, .int .u8 0], .int .i64 8] ∧ Grow ((ext ((ext (Wa w) x14).alloc (.cells #[.int .u8 2, .int .u8 0] 23)) x16).alloc (.cells #[.int .u8 1, .int .u8 0] 23)) w'') rfl rfl (wanted_none rfl _) (by simp [execOp, resolve, S.g 153 rfl, ev_c, ev_f]) ?_ (fun u w'' a h S => ?_)
  · intro K' hK'
    go_wp2_with ((go_at_call 6; ((with_reducible refine (nrn_c _).mono ?_); rintro e w1 ⟨rfl, hb1⟩; obtain ⟨x1, rfl⟩ := ext_of_grow hb1; clear hb1)))
    exact hK' _ _ ⟨rfl, Gw.h⟩
  obtain ⟨rfl, hg⟩ := h
  obtain ⟨x26, rfl⟩ := ext_of_grow hg
  clear hg
  refine st_val S (Op.move (.const (.tuple #[.agg #[.int .u8 0, .int .u8 0], .int .i64 8]))) (.tuple #[.agg #[.int .u8 0, .int .u8 0], .int .i64 8]) rfl rfl (wanted_none rfl _) (by simp [execOp, resolve, S.g 154 rfl, ev_c, ev_f]) ?_ (fun a S => ?_)
  · intro K' hK'
    go_wp2_with fail
    exact hK'
  refine st_val S (Op.extract (.const (.tuple #[.agg #[.int .u8 0, .int .u8 0], .int .i64 8])) 0) (.agg #[.int .u8 0, .int .u8 0]) rfl rfl (wanted_none rfl _) (by simp [execOp, resolve, S.g 152 rfl, ev_c, ev_f]) ?_ (fun a S => ?_)
  · intro K' hK'
    go_wp2_with fail
    exact hK'
  refine st_val S (Op.extract (.const (.tuple #[.agg #[.int .u8 0, .int .u8 0], .int .i64 8])) 1) (.int .i64 8) rfl rfl (wanted_none rfl _) (by simp [execOp, resolve, S.g 152 rfl, ev_c, ev_f]) ?_ (fun a S => ?_)
  · intro K' hK'
    go_wp2_with fail
    exact hK'
  refine st_val S (Op.assign (.const (.int .i64 8))) (.int .i64 8) rfl rfl (wanted_none rfl _) (by simp [execOp, resolve, S.g 156 rfl, ev_c, ev_f]) ?_ (fun a S => ?_)
  · intro K' hK'
    go_wp2_with fail
    exact hK'
  replace S : St8 a 383 _ := ⟨S.size, S.defers, Lk.cons (S.g 1 rfl) (Lk.cons (S.g 2 rfl) (Lk.cons (S.g 3 rfl) (Lk.cons (S.g 5 rfl) (Lk.cons (S.g 7 rfl) (Lk.cons (S.g 9 rfl) (Lk.cons (S.g 11 rfl) (Lk.cons (S.g 13 rfl) (Lk.cons (S.g 15 rfl) (Lk.cons (S.g 16 rfl) (Lk.cons (S.g 17 rfl) (Lk.cons (S.g 18 rfl) (Lk.nil))))))))))))⟩
  go_upto_region 17 with fail
  refine wp_region_lit ?_
  refine st_val S (Op.move (.const (.int .i64 0))) (.int .i64 0) rfl rfl (wanted_none rfl _) (by simp [execOp, resolve, S.g 5 rfl, ev_c, ev_f]) ?_ (fun a S => ?_)
  · intro K' hK'
    go_wp2_with fail
    exact hK'
  refine st_val S (Op.binOp BinOp.eql 29 (.const (.int .i64 0)) (.const (.int .i64 0)) 29) (.bool true) rfl rfl (wanted_none rfl _) (by simp [execOp, resolve, S.g 157 rfl, ev_c, ev_f, eqGuard]) ?_ (fun a S => ?_)
  · intro K' hK'
    go_wp2_with fail
    exact hK'
  refine st_val S (Op.move (.const (.bool true))) (.bool true) rfl rfl (wanted_none rfl _) (by simp [execOp, resolve, S.g 158 rfl, ev_c, ev_f]) ?_ (fun a S => ?_)
  · intro K' hK'
    go_wp2_with fail
    exact hK'
  refine st_val S (Op.fieldAddr 23 (.const (.pointer (some ⟨p17, 0, none⟩))) 0) (.pointer (some ⟨p17, 0, none⟩)) rfl rfl (want_at (g := 2) (d := 159) (b := true) S rfl rfl rfl rfl rfl) (by simp [execOp, resolve, S.g 17 rfl, ev_c, ev_f]) ?_ (fun a S => ?_)
  · intro K' hK'
    go_wp2_with fail
    exact hK'
  refine st_val S (Op.load 5 (.const (.pointer (some ⟨p17, 0, none⟩)))) (.int .u8 2) rfl rfl (want_at (g := 2) (d := 159) (b := true) S rfl rfl rfl rfl rfl) (by simp [execOp, resolve, S.g 160 rfl, ev_c, ev_f]) ?_ (fun a S => ?_)
  · intro K' hK'
    go_wp2_with fail
    exact hK'
  refine st_val S (Op.binOp BinOp.eql 5 (.const (.int .u8 2)) (.const (.int .u8 2)) 5) (.bool true) rfl rfl (want_at (g := 2) (d := 159) (b := true) S rfl rfl rfl rfl rfl) (by simp [execOp, resolve, S.g 161 rfl, ev_c, ev_f, eqGuard]) ?_ (fun a S => ?_)
  · intro K' hK'
    go_wp2_with fail
    exact hK'
  refine st_val S (Op.pick (.const (.bool true)) (.const (.bool true)) (.const (.bool false))) (.bool true) rfl rfl (wanted_none rfl _) (by simp [execOp, resolve, S.g 159 rfl, S.g 162 rfl, ev_c, ev_f]) ?_ (fun a S => ?_)
  · intro K' hK'
    go_wp2_with fail
    exact hK'
  refine st_val S (Op.move (.const (.bool true))) (.bool true) rfl rfl (wanted_none rfl _) (by simp [execOp, resolve, S.g 163 rfl, ev_c, ev_f]) ?_ (fun a S => ?_)
  · intro K' hK'
    go_wp2_with fail
    exact hK'
  refine st_val S (Op.move (.const (.int .i64 0))) (.int .i64 0) rfl rfl (want_at (g := 7) (d := 164) (b := true) S rfl rfl rfl rfl rfl) (by simp [execOp, resolve, S.g 7 rfl, ev_c, ev_f]) ?_ (fun a S => ?_)
  · intro K' hK'
    go_wp2_with fail
    exact hK'
  refine st_val S (Op.binOp BinOp.eql 29 (.const (.int .i64 0)) (.const (.int .i64 0)) 29) (.bool true) rfl rfl (want_at (g := 7) (d := 164) (b := true) S rfl rfl rfl rfl rfl) (by simp [execOp, resolve, S.g 165 rfl, ev_c, ev_f, eqGuard]) ?_ (fun a S => ?_)
  · intro K' hK'
    go_wp2_with fail
    exact hK'
  refine st_val S (Op.pick (.const (.bool true)) (.const (.bool true)) (.const (.bool false))) (.bool true) rfl rfl (wanted_none rfl _) (by simp [execOp, resolve, S.g 164 rfl, S.g 166 rfl, ev_c, ev_f]) ?_ (fun a S => ?_)
  · intro K' hK'
    go_wp2_with fail
    exact hK'
  refine st_val S (Op.move (.const (.bool true))) (.bool true) rfl rfl (wanted_none rfl _) (by simp [execOp, resolve, S.g 167 rfl, ev_c, ev_f]) ?_ (fun a S => ?_)
  · intro K' hK'
    go_wp2_with fail
    exact hK'
  refine st_val S (Op.fieldAddr 23 (.const (.pointer (some ⟨p18, 0, none⟩))) 0) (.pointer (some ⟨p18, 0, none⟩)) rfl rfl (want_at (g := 11) (d := 168) (b := true) S rfl rfl rfl rfl rfl) (by simp [execOp, resolve, S.g 18 rfl, ev_c, ev_f]) ?_ (fun a S => ?_)
  · intro K' hK'
    go_wp2_with fail
    exact hK'
  refine st_val S (Op.load 5 (.const (.pointer (some ⟨p18, 0, none⟩)))) (.int .u8 1) rfl rfl (want_at (g := 11) (d := 168) (b := true) S rfl rfl rfl rfl rfl) (by simp [execOp, resolve, S.g 169 rfl, ev_c, ev_f]) ?_ (fun a S => ?_)
  · intro K' hK'
    go_wp2_with fail
    exact hK'
  refine st_val S (Op.binOp BinOp.eql 5 (.const (.int .u8 1)) (.const (.int .u8 1)) 5) (.bool true) rfl rfl (want_at (g := 11) (d := 168) (b := true) S rfl rfl rfl rfl rfl) (by simp [execOp, resolve, S.g 170 rfl, ev_c, ev_f, eqGuard]) ?_ (fun a S => ?_)
  · intro K' hK'
    go_wp2_with fail
    exact hK'
  refine st_val S (Op.pick (.const (.bool true)) (.const (.bool true)) (.const (.bool false))) (.bool true) rfl rfl (wanted_none rfl _) (by simp [execOp, resolve, S.g 168 rfl, S.g 171 rfl, ev_c, ev_f]) ?_ (fun a S => ?_)
  · intro K' hK'
    go_wp2_with fail
    exact hK'
  refine st_val S (Op.move (.const (.bool true))) (.bool true) rfl rfl (wanted_none rfl _) (by simp [execOp, resolve, S.g 172 rfl, ev_c, ev_f]) ?_ (fun a S => ?_)
  · intro K' hK'
    go_wp2_with fail
    exact hK'
  refine st_val S (Op.move (.const (.int .i64 42))) (.int .i64 42) rfl rfl (want_at (g := 16) (d := 173) (b := true) S rfl rfl rfl rfl rfl) (by simp [execOp, resolve, S.g 9 rfl, ev_c, ev_f]) ?_ (fun a S => ?_)
  · intro K' hK'
    go_wp2_with fail
    exact hK'
  refine st_val S (Op.binOp BinOp.eql 29 (.const (.int .i64 42)) (.const (.int .i64 42)) 29) (.bool true) rfl rfl (want_at (g := 16) (d := 173) (b := true) S rfl rfl rfl rfl rfl) (by simp [execOp, resolve, S.g 174 rfl, ev_c, ev_f, eqGuard]) ?_ (fun a S => ?_)
  · intro K' hK'
    go_wp2_with fail
    exact hK'
  refine st_val S (Op.pick (.const (.bool true)) (.const (.bool true)) (.const (.bool false))) (.bool true) rfl rfl (wanted_none rfl _) (by simp [execOp, resolve, S.g 173 rfl, S.g 175 rfl, ev_c, ev_f]) ?_ (fun a S => ?_)
  · intro K' hK'
    go_wp2_with fail
    exact hK'
  refine st_val S (Op.move (.const (.bool true))) (.bool true) rfl rfl (wanted_none rfl _) (by simp [execOp, resolve, S.g 176 rfl, ev_c, ev_f]) ?_ (fun a S => ?_)
  · intro K' hK'
    go_wp2_with fail
    exact hK'
  refine st_val S (Op.move (.const (.int .i64 6))) (.int .i64 6) rfl rfl (want_at (g := 20) (d := 177) (b := true) S rfl rfl rfl rfl rfl) (by simp [execOp, resolve, S.g 11 rfl, ev_c, ev_f]) ?_ (fun a S => ?_)
  · intro K' hK'
    go_wp2_with fail
    exact hK'
  refine st_val S (Op.binOp BinOp.eql 29 (.const (.int .i64 6)) (.const (.int .i64 6)) 29) (.bool true) rfl rfl (want_at (g := 20) (d := 177) (b := true) S rfl rfl rfl rfl rfl) (by simp [execOp, resolve, S.g 178 rfl, ev_c, ev_f, eqGuard]) ?_ (fun a S => ?_)
  · intro K' hK'
    go_wp2_with fail
    exact hK'
  refine st_val S (Op.pick (.const (.bool true)) (.const (.bool true)) (.const (.bool false))) (.bool true) rfl rfl (wanted_none rfl _) (by simp [execOp, resolve, S.g 177 rfl, S.g 179 rfl, ev_c, ev_f]) ?_ (fun a S => ?_)
  · intro K' hK'
    go_wp2_with fail
    exact hK'
  refine st_val S (Op.move (.const (.bool true))) (.bool true) rfl rfl (wanted_none rfl _) (by simp [execOp, resolve, S.g 180 rfl, ev_c, ev_f]) ?_ (fun a S => ?_)
  · intro K' hK'
    go_wp2_with fail
    exact hK'
  refine st_val S (Op.move (.const (.int .i64 42))) (.int .i64 42) rfl rfl (want_at (g := 24) (d := 181) (b := true) S rfl rfl rfl rfl rfl) (by simp [execOp, resolve, S.g 13 rfl, ev_c, ev_f]) ?_ (fun a S => ?_)
  · intro K' hK'
    go_wp2_with fail
    exact hK'
  refine st_val S (Op.binOp BinOp.eql 29 (.const (.int .i64 42)) (.const (.int .i64 42)) 29) (.bool true) rfl rfl (want_at (g := 24) (d := 181) (b := true) S rfl rfl rfl rfl rfl) (by simp [execOp, resolve, S.g 182 rfl, ev_c, ev_f, eqGuard]) ?_ (fun a S => ?_)
  · intro K' hK'
    go_wp2_with fail
    exact hK'
  refine st_val S (Op.pick (.const (.bool true)) (.const (.bool true)) (.const (.bool false))) (.bool true) rfl rfl (wanted_none rfl _) (by simp [execOp, resolve, S.g 181 rfl, S.g 183 rfl, ev_c, ev_f]) ?_ (fun a S => ?_)
  · intro K' hK'
    go_wp2_with fail
    exact hK'
  refine st_val S (Op.move (.const (.bool true))) (.bool true) rfl rfl (wanted_none rfl _) (by simp [execOp, resolve, S.g 184 rfl, ev_c, ev_f]) ?_ (fun a S => ?_)
  · intro K' hK'
    go_wp2_with fail
    exact hK'
  refine st_val S (Op.move (.const (.int .i64 8))) (.int .i64 8) rfl rfl (want_at (g := 28) (d := 185) (b := true) S rfl rfl rfl rfl rfl) (by simp [execOp, resolve, S.g 15 rfl, ev_c, ev_f]) ?_ (fun a S => ?_)
  · intro K' hK'
    go_wp2_with fail
    exact hK'
  refine st_val S (Op.binOp BinOp.eql 29 (.const (.int .i64 8)) (.const (.int .i64 8)) 29) (.bool true) rfl rfl (want_at (g := 28) (d := 185) (b := true) S rfl rfl rfl rfl rfl) (by simp [execOp, resolve, S.g 186 rfl, ev_c, ev_f, eqGuard]) ?_ (fun a S => ?_)
  · intro K' hK'
    go_wp2_with fail
    exact hK'
  refine st_val S (Op.pick (.const (.bool true)) (.const (.bool true)) (.const (.bool false))) (.bool true) rfl rfl (wanted_none rfl _) (by simp [execOp, resolve, S.g 185 rfl, S.g 187 rfl, ev_c, ev_f]) ?_ (fun a S => ?_)
  · intro K' hK'
    go_wp2_with fail
    exact hK'
  refine st_val S (Op.assign (.const (.bool true))) (.bool true) rfl rfl (wanted_none rfl _) (by simp [execOp, resolve, S.g 188 rfl, ev_c, ev_f]) ?_ (fun a S => ?_)
  · intro K' hK'
    go_wp2_with fail
    exact hK'
  replace S : St8 a 383 _ := ⟨S.size, S.defers, Lk.cons (S.g 1 rfl) (Lk.cons (S.g 2 rfl) (Lk.cons (S.g 3 rfl) (Lk.cons (S.g 16 rfl) (Lk.cons (S.g 19 rfl) (Lk.nil)))))⟩
  obtain ⟨x27, hx⟩ := ext_of_grow (Gw.h : Grow (Wa w) (ext ((ext ((ext (Wa w) x14).alloc (.cells #[.int .u8 2, .int .u8 0] 23)) x16).alloc (.cells #[.int .u8 1, .int .u8 0] 23)) x26))
  rw [hx]
  clear hx
  clear ep17 ep18
  go_upto_region 18 with fail
  refine wp_region_parts (by kernel_rfl) (fun w0 hg0 => ?_)
  obtain ⟨x0, rfl⟩ := ext_of_grow (Grow.trans (Gw.h : Grow (Wa w) _) hg0)
  clear hg0
  refine region_part' 0 8 383 (by kernel_rfl) S.size (by kernel_rfl) (ph18 w w) (ph18_stay w w) (fun i h1 h2 vs w' A hg hΦ hin hout hsz K hK => ?_) (fun vs1 w' a1 ha1 hg hΦ hin hout hN1 => ?_)
  · obtain ⟨xq, rfl⟩ := ext_of_grow (Grow.trans (Gw.h : Grow (Wa w) _) hg)
    clear hg
    obtain rfl | rfl | rfl | rfl | rfl | rfl | rfl | rfl : i = 0 ∨ i = 1 ∨ i = 2 ∨ i = 3 ∨ i = 4 ∨ i = 5 ∨ i = 6 ∨ i = 7 := by omega
    · have e1 := hout 1 _ (by kernel_rfl) (S.g 1 rfl)
      refine ⟨_, rfl, ?_⟩
      refine wp_tiny (Op.move (.const (.slice (some ⟨w.heap.size, 0, none⟩) 4 4))) (R := fun u w'' => Grow (ext (Wa w) xq) w'' ∧ ph18 w w 0 u w'') (wanted_none rfl _) (by simp [execOp, resolve, e1, ev_c, ev_f]) ?_ (fun u w'' h => hK u w'' h.1 h.2)
      clear hK
      intro K' hK'
      go_wp2_with (fail)
      exact hK' _ _ ⟨Gw.h, rfl⟩
    · have e2 := hout 2 _ (by kernel_rfl) (S.g 2 rfl)
      refine ⟨_, rfl, ?_⟩
      refine wp_tiny (Op.load 26 (.const (.pointer (some ⟨w.heap.size + 1, 0, none⟩)))) (R := fun u w'' => Grow (ext (Wa w) xq) w'' ∧ ph18 w w 1 u w'') (wanted_none rfl _) (by simp [execOp, resolve, e2, ev_c, ev_f]) ?_ (fun u w'' h => hK u w'' h.1 h.2)
      clear hK
      intro K' hK'
      go_wp2_with (fail)
      exact hK' _ _ ⟨Gw.h, rfl⟩
    · refine ⟨_, rfl, ?_⟩
      refine wp_tiny (Op.call { callee := Callee.value (Operand.func 8), args := #[.const (.int .i64 1)], argTypes := #[2] }) (R := fun u w'' => Grow (ext (Wa w) xq) w'' ∧ ph18 w w 2 u w'') (wanted_none rfl _) (by simp [execOp, resolve, ev_c, ev_f]) ?_ (fun u w'' h => hK u w'' h.1 h.2)
      clear hK
      intro K' hK'
      go_wp2_with ((go_at_call 8; ((with_reducible refine (law14_number _ _).mono ?_); rintro e w1 ⟨rfl, hb1⟩; obtain ⟨x1, rfl⟩ := ext_of_grow hb1; clear hb1)))
      exact hK' _ _ ⟨Gw.h, rfl⟩
    · have e191 : A.eval (.tmp 191) = .agg #[.int .u8 1, .int .i64 1, .int .i64 0, .bool false, .int .u8 0] := (hin 2 191 (by omega) (by omega) (by kernel_rfl)).trans (hΦ 2 (List.mem_of_elem_eq_true (by kernel_rfl)) (by omega))
      refine ⟨_, rfl, ?_⟩
      refine wp_tiny (Op.build 33 #[(0, .const (.int .u8 1)), (3, .const (.agg #[.int .u8 1, .int .i64 1, .int .i64 0, .bool false, .int .u8 0]))]) (R := fun u w'' => Grow (ext (Wa w) xq) w'' ∧ ph18 w w 3 u w'') (wanted_none rfl _) (by simp [execOp, resolve, e191, ev_c, ev_f]) ?_ (fun u w'' h => hK u w'' h.1 h.2)
      clear hK
      intro K' hK'
      go_wp2_with (fail)
      exact hK' _ _ ⟨Gw.h, rfl⟩
    · have e190 : A.eval (.tmp 190) = .agg #[.int .i64 1, .bool true, .int .u8 2] := (hin 1 190 (by omega) (by omega) (by kernel_rfl)).trans (hΦ 1 (List.mem_of_elem_eq_true (by kernel_rfl)) (by omega))
      have e192 : A.eval (.tmp 192) = .agg #[.int .u8 1, .int .u8 0, .int .u8 0, .int .u8 1, .int .i64 1, .int .i64 0, .bool false, .int .u8 0, .int .u8 0, .int .i64 0, .int .i64 0, .bool false, .int .u8 0, .int .i64 0, .bool false, .int .u8 0] := (hin 3 192 (by omega) (by omega) (by kernel_rfl)).trans (hΦ 3 (List.mem_of_elem_eq_true (by kernel_rfl)) (by omega))
      refine ⟨_, rfl, ?_⟩
      refine wp_tiny (Op.build 38 #[(0, .const (.int .u8 1)), (1, .const (.agg #[.int .i64 1, .bool true, .int .u8 2])), (2, .const (.agg #[.int .u8 1, .int .u8 0, .int .u8 0, .int .u8 1, .int .i64 1, .int .i64 0, .bool false, .int .u8 0, .int .u8 0, .int .i64 0, .int .i64 0, .bool false, .int .u8 0, .int .i64 0, .bool false, .int .u8 0]))]) (R := fun u w'' => Grow (ext (Wa w) xq) w'' ∧ ph18 w w 4 u w'') (wanted_none rfl _) (by simp [execOp, resolve, e190, e192, ev_c, ev_f]) ?_ (fun u w'' h => hK u w'' h.1 h.2)
      clear hK
      intro K' hK'
      go_wp2_with (fail)
      exact hK' _ _ ⟨Gw.h, rfl⟩
    · have e189 : A.eval (.tmp 189) = .slice (some ⟨w.heap.size, 0, none⟩) 4 4 := (hin 0 189 (by omega) (by omega) (by kernel_rfl)).trans (hΦ 0 (List.mem_of_elem_eq_true (by kernel_rfl)) (by omega))
      have e193 : A.eval (.tmp 193) = .agg #[.int .u8 1, .int .i64 1, .bool true, .int .u8 2, .int .u8 1, .int .u8 0, .int .u8 0, .int .u8 1, .int .i64 1, .int .i64 0, .bool false, .int .u8 0, .int .u8 0, .int .i64 0, .int .i64 0, .bool false, .int .u8 0, .int .i64 0, .bool false, .int .u8 0, .int .u8 0, .int .i64 0, .int .i64 0, .bool false, .int .u8 0, .int .i64 0] := (hin 4 193 (by omega) (by omega) (by kernel_rfl)).trans (hΦ 4 (List.mem_of_elem_eq_true (by kernel_rfl)) (by omega))
      refine ⟨_, rfl, ?_⟩
      refine wp_tiny (Op.call { callee := Callee.value (Operand.func 9), args := #[.const (.slice (some ⟨w.heap.size, 0, none⟩) 4 4), .const (.agg #[.int .u8 1, .int .i64 1, .bool true, .int .u8 2, .int .u8 1, .int .u8 0, .int .u8 0, .int .u8 1, .int .i64 1, .int .i64 0, .bool false, .int .u8 0, .int .u8 0, .int .i64 0, .int .i64 0, .bool false, .int .u8 0, .int .i64 0, .bool false, .int .u8 0, .int .u8 0, .int .i64 0, .int .i64 0, .bool false, .int .u8 0, .int .i64 0])], argTypes := #[24, 38] }) (R := fun u w'' => Grow (ext (Wa w) xq) w'' ∧ ph18 w w 5 u w'') (wanted_none rfl _) (by simp [execOp, resolve, e189, e193, ev_c, ev_f]) ?_ (fun u w'' h => hK u w'' h.1 h.2)
      clear hK
      intro K' hK'
      go_wp2_with ((go_at_call 9; ((with_reducible refine (sh_st ns0 _ _ _ ns0_wf ns0_e (sh_at (by first | (simp only [hp_at, hp_alloc, hp_ext, hp_drew]; done) | (simp only [hp_at, hp_alloc, hp_ext, hp_drew]; kernel_rfl)))).mono ?_); rintro e w1 ⟨rfl, hb1⟩; obtain ⟨x1, rfl⟩ := ext_of_grow hb1; clear hb1)))
      exact hK' _ _ ⟨Gw.h, rfl⟩
    · have e194 : A.eval (.tmp 194) = .int .i64 42 := (hin 5 194 (by omega) (by omega) (by kernel_rfl)).trans (hΦ 5 (List.mem_of_elem_eq_true (by kernel_rfl)) (by omega))
      refine ⟨_, rfl, ?_⟩
      refine wp_tiny (Op.binOp BinOp.eql 29 (.const (.int .i64 42)) (.const (.int .i64 42)) 29) (R := fun u w'' => Grow (ext (Wa w) xq) w'' ∧ ph18 w w 6 u w'') (wanted_none rfl _) (by simp [execOp, resolve, e194, ev_c, ev_f, eqGuard]) ?_ (fun u w'' h => hK u w'' h.1 h.2)
      clear hK
      intro K' hK'
      go_wp2_with (fail)
      exact hK' _ _ ⟨Gw.h, rfl⟩
    · have e195 : A.eval (.tmp 195) = .bool true := (hin 6 195 (by omega) (by omega) (by kernel_rfl)).trans (hΦ 6 (List.mem_of_elem_eq_true (by kernel_rfl)) (by omega))
      refine ⟨_, rfl, ?_⟩
      refine wp_tiny (Op.move (.const (.bool true))) (R := fun u w'' => Grow (ext (Wa w) xq) w'' ∧ ph18 w w 7 u w'') (wanted_none rfl _) (by simp [execOp, resolve, e195, ev_c, ev_f]) ?_ (fun u w'' h => hK u w'' h.1 h.2)
      clear hK
      intro K' hK'
      go_wp2_with (fail)
      exact hK' _ _ ⟨Gw.h, rfl⟩
  obtain ⟨x1, rfl⟩ := ext_of_grow (Grow.trans (Gw.h : Grow (Wa w) _) hg)
  replace S : St8 a1 383 _ := ⟨hN1, by rw [ha1.out, defers_putAll]; exact S.defers, Lk.cons (hout 1 _ (by kernel_rfl) (S.g 1 rfl)) (Lk.cons (hout 2 _ (by kernel_rfl) (S.g 2 rfl)) (Lk.cons (hout 3 _ (by kernel_rfl) (S.g 3 rfl)) (Lk.cons (hout 16 _ (by kernel_rfl) (S.g 16 rfl)) (Lk.cons (hout 19 _ (by kernel_rfl) (S.g 19 rfl)) (Lk.cons ((hin 7 196 (by omega) (by omega) (by kernel_rfl)).trans (hΦ 7 (by omega) (by omega))) (Lk.nil))))))⟩
  clear hg hΦ hin hout hN1 ha1
  refine region_part' 8 17 383 (by kernel_rfl) S.size (by kernel_rfl) (ph18 w w) (ph18_stay w w) (fun i h1 h2 vs w' A hg hΦ hin hout hsz K hK => ?_) (fun vs2 w' a2 ha2 hg hΦ hin hout hN2 => ?_)
  · obtain ⟨xq, rfl⟩ := ext_of_grow (Grow.trans (Gw.h : Grow (Wa w) _) hg)
    clear hg
    obtain rfl | rfl | rfl | rfl | rfl | rfl | rfl | rfl | rfl : i = 8 ∨ i = 9 ∨ i = 10 ∨ i = 11 ∨ i = 12 ∨ i = 13 ∨ i = 14 ∨ i = 15 ∨ i = 16 := by omega
    · have e1 := hout 1 _ (by kernel_rfl) (S.g 1 rfl)
      refine ⟨_, rfl, ?_⟩
      refine wp_tiny (Op.move (.const (.slice (some ⟨w.heap.size, 0, none⟩) 4 4))) (R := fun u w'' => Grow (ext (Wa w) xq) w'' ∧ ph18 w w 8 u w'') (wanted_at (g := 7) (d := 196) (b := true) rfl rfl rfl (by rw [hsz]; decide) (hout 196 _ (by kernel_rfl) (S.g 196 rfl))) (by simp [execOp, resolve, e1, ev_c, ev_f]) ?_ (fun u w'' h => hK u w'' h.1 h.2)
      clear hK
      intro K' hK'
      go_wp2_with (fail)
      exact hK' _ _ ⟨Gw.h, rfl⟩
    · refine ⟨_, rfl, ?_⟩
      refine wp_tiny (Op.build 26 #[(0, .const (.int .i64 2)), (1, .const (.bool true))]) (R := fun u w'' => Grow (ext (Wa w) xq) w'' ∧ ph18 w w 9 u w'') (wanted_at (g := 7) (d := 196) (b := true) rfl rfl rfl (by rw [hsz]; decide) (hout 196 _ (by kernel_rfl) (S.g 196 rfl))) (by simp [execOp, resolve, ev_c, ev_f]) ?_ (fun u w'' h => hK u w'' h.1 h.2)
      clear hK
      intro K' hK'
      go_wp2_with (fail)
      exact hK' _ _ ⟨Gw.h, rfl⟩
    · refine ⟨_, rfl, ?_⟩
      refine wp_tiny (Op.call { callee := Callee.value (Operand.func 8), args := #[.const (.int .i64 1)], argTypes := #[2] }) (R := fun u w'' => Grow (ext (Wa w) xq) w'' ∧ ph18 w w 10 u w'') (wanted_at (g := 7) (d := 196) (b := true) rfl rfl rfl (by rw [hsz]; decide) (hout 196 _ (by kernel_rfl) (S.g 196 rfl))) (by simp [execOp, resolve, ev_c, ev_f]) ?_ (fun u w'' h => hK u w'' h.1 h.2)
      clear hK
      intro K' hK'
      go_wp2_with ((go_at_call 8; ((with_reducible refine (law14_number _ _).mono ?_); rintro e w1 ⟨rfl, hb1⟩; obtain ⟨x1, rfl⟩ := ext_of_grow hb1; clear hb1)))
      exact hK' _ _ ⟨Gw.h, rfl⟩
    · have e199 : A.eval (.tmp 199) = .agg #[.int .u8 1, .int .i64 1, .int .i64 0, .bool false, .int .u8 0] := (hin 10 199 (by omega) (by omega) (by kernel_rfl)).trans (hΦ 10 (List.mem_of_elem_eq_true (by kernel_rfl)) (by omega))
      refine ⟨_, rfl, ?_⟩
      refine wp_tiny (Op.build 33 #[(0, .const (.int .u8 1)), (3, .const (.agg #[.int .u8 1, .int .i64 1, .int .i64 0, .bool false, .int .u8 0]))]) (R := fun u w'' => Grow (ext (Wa w) xq) w'' ∧ ph18 w w 11 u w'') (wanted_at (g := 7) (d := 196) (b := true) rfl rfl rfl (by rw [hsz]; decide) (hout 196 _ (by kernel_rfl) (S.g 196 rfl))) (by simp [execOp, resolve, e199, ev_c, ev_f]) ?_ (fun u w'' h => hK u w'' h.1 h.2)
      clear hK
      intro K' hK'
      go_wp2_with (fail)
      exact hK' _ _ ⟨Gw.h, rfl⟩
    · have e198 : A.eval (.tmp 198) = .agg #[.int .i64 2, .bool true, .int .u8 0] := (hin 9 198 (by omega) (by omega) (by kernel_rfl)).trans (hΦ 9 (List.mem_of_elem_eq_true (by kernel_rfl)) (by omega))
      have e200 : A.eval (.tmp 200) = .agg #[.int .u8 1, .int .u8 0, .int .u8 0, .int .u8 1, .int .i64 1, .int .i64 0, .bool false, .int .u8 0, .int .u8 0, .int .i64 0, .int .i64 0, .bool false, .int .u8 0, .int .i64 0, .bool false, .int .u8 0] := (hin 11 200 (by omega) (by omega) (by kernel_rfl)).trans (hΦ 11 (List.mem_of_elem_eq_true (by kernel_rfl)) (by omega))
      refine ⟨_, rfl, ?_⟩
      refine wp_tiny (Op.build 38 #[(0, .const (.int .u8 1)), (1, .const (.agg #[.int .i64 2, .bool true, .int .u8 0])), (2, .const (.agg #[.int .u8 1, .int .u8 0, .int .u8 0, .int .u8 1, .int .i64 1, .int .i64 0, .bool false, .int .u8 0, .int .u8 0, .int .i64 0, .int .i64 0, .bool false, .int .u8 0, .int .i64 0, .bool false, .int .u8 0]))]) (R := fun u w'' => Grow (ext (Wa w) xq) w'' ∧ ph18 w w 12 u w'') (wanted_at (g := 7) (d := 196) (b := true) rfl rfl rfl (by rw [hsz]; decide) (hout 196 _ (by kernel_rfl) (S.g 196 rfl))) (by simp [execOp, resolve, e198, e200, ev_c, ev_f]) ?_ (fun u w'' h => hK u w'' h.1 h.2)
      clear hK
      intro K' hK'
      go_wp2_with (fail)
      exact hK' _ _ ⟨Gw.h, rfl⟩
    · have e197 : A.eval (.tmp 197) = .slice (some ⟨w.heap.size, 0, none⟩) 4 4 := (hin 8 197 (by omega) (by omega) (by kernel_rfl)).trans (hΦ 8 (List.mem_of_elem_eq_true (by kernel_rfl)) (by omega))
      have e201 : A.eval (.tmp 201) = .agg #[.int .u8 1, .int .i64 2, .bool true, .int .u8 0, .int .u8 1, .int .u8 0, .int .u8 0, .int .u8 1, .int .i64 1, .int .i64 0, .bool false, .int .u8 0, .int .u8 0, .int .i64 0, .int .i64 0, .bool false, .int .u8 0, .int .i64 0, .bool false, .int .u8 0, .int .u8 0, .int .i64 0, .int .i64 0, .bool false, .int .u8 0, .int .i64 0] := (hin 12 201 (by omega) (by omega) (by kernel_rfl)).trans (hΦ 12 (List.mem_of_elem_eq_true (by kernel_rfl)) (by omega))
      refine ⟨_, rfl, ?_⟩
      refine wp_tiny (Op.call { callee := Callee.value (Operand.func 9), args := #[.const (.slice (some ⟨w.heap.size, 0, none⟩) 4 4), .const (.agg #[.int .u8 1, .int .i64 2, .bool true, .int .u8 0, .int .u8 1, .int .u8 0, .int .u8 0, .int .u8 1, .int .i64 1, .int .i64 0, .bool false, .int .u8 0, .int .u8 0, .int .i64 0, .int .i64 0, .bool false, .int .u8 0, .int .i64 0, .bool false, .int .u8 0, .int .u8 0, .int .i64 0, .int .i64 0, .bool false, .int .u8 0, .int .i64 0])], argTypes := #[24, 38] }) (R := fun u w'' => Grow (ext (Wa w) xq) w'' ∧ ph18 w w 13 u w'') (wanted_at (g := 7) (d := 196) (b := true) rfl rfl rfl (by rw [hsz]; decide) (hout 196 _ (by kernel_rfl) (S.g 196 rfl))) (by simp [execOp, resolve, e197, e201, ev_c, ev_f]) ?_ (fun u w'' h => hK u w'' h.1 h.2)
      clear hK
      intro K' hK'
      go_wp2_with ((go_at_call 9; ((with_reducible refine (sh_st ns1 _ _ _ ns1_wf ns1_e (sh_at (by first | (simp only [hp_at, hp_alloc, hp_ext, hp_drew]; done) | (simp only [hp_at, hp_alloc, hp_ext, hp_drew]; kernel_rfl)))).mono ?_); rintro e w1 ⟨rfl, hb1⟩; obtain ⟨x1, rfl⟩ := ext_of_grow hb1; clear hb1)))
      exact hK' _ _ ⟨Gw.h, rfl⟩
    · have e202 : A.eval (.tmp 202) = .int .i64 0 := (hin 13 202 (by omega) (by omega) (by kernel_rfl)).trans (hΦ 13 (List.mem_of_elem_eq_true (by kernel_rfl)) (by omega))
      refine ⟨_, rfl, ?_⟩
      refine wp_tiny (Op.binOp BinOp.eql 29 (.const (.int .i64 0)) (.const (.int .i64 0)) 29) (R := fun u w'' => Grow (ext (Wa w) xq) w'' ∧ ph18 w w 14 u w'') (wanted_at (g := 7) (d := 196) (b := true) rfl rfl rfl (by rw [hsz]; decide) (hout 196 _ (by kernel_rfl) (S.g 196 rfl))) (by simp [execOp, resolve, e202, ev_c, ev_f, eqGuard]) ?_ (fun u w'' h => hK u w'' h.1 h.2)
      clear hK
      intro K' hK'
      go_wp2_with (fail)
      exact hK' _ _ ⟨Gw.h, rfl⟩
    · have e196 := hout 196 _ (by kernel_rfl) (S.g 196 rfl)
      have e203 : A.eval (.tmp 203) = .bool true := (hin 14 203 (by omega) (by omega) (by kernel_rfl)).trans (hΦ 14 (List.mem_of_elem_eq_true (by kernel_rfl)) (by omega))
      refine ⟨_, rfl, ?_⟩
      refine wp_tiny (Op.pick (.const (.bool true)) (.const (.bool true)) (.const (.bool false))) (R := fun u w'' => Grow (ext (Wa w) xq) w'' ∧ ph18 w w 15 u w'') (wanted_none rfl _) (by simp [execOp, resolve, e196, e203, ev_c, ev_f]) ?_ (fun u w'' h => hK u w'' h.1 h.2)
      clear hK
      intro K' hK'
      go_wp2_with (fail)
      exact hK' _ _ ⟨Gw.h, rfl⟩
    · have e204 : A.eval (.tmp 204) = .bool true := (hin 15 204 (by omega) (by omega) (by kernel_rfl)).trans (hΦ 15 (List.mem_of_elem_eq_true (by kernel_rfl)) (by omega))
      refine ⟨_, rfl, ?_⟩
      refine wp_tiny (Op.move (.const (.bool true))) (R := fun u w'' => Grow (ext (Wa w) xq) w'' ∧ ph18 w w 16 u w'') (wanted_none rfl _) (by simp [execOp, resolve, e204, ev_c, ev_f]) ?_ (fun u w'' h => hK u w'' h.1 h.2)
      clear hK
      intro K' hK'
      go_wp2_with (fail)
      exact hK' _ _ ⟨Gw.h, rfl⟩
  obtain ⟨x2, rfl⟩ := ext_of_grow (Grow.trans (Gw.h : Grow (Wa w) _) hg)
  replace S : St8 a2 383 _ := ⟨hN2, by rw [ha2.out, defers_putAll]; exact S.defers, Lk.cons (hout 1 _ (by kernel_rfl) (S.g 1 rfl)) (Lk.cons (hout 2 _ (by kernel_rfl) (S.g 2 rfl)) (Lk.cons (hout 3 _ (by kernel_rfl) (S.g 3 rfl)) (Lk.cons (hout 16 _ (by kernel_rfl) (S.g 16 rfl)) (Lk.cons (hout 19 _ (by kernel_rfl) (S.g 19 rfl)) (Lk.cons ((hin 16 205 (by omega) (by omega) (by kernel_rfl)).trans (hΦ 16 (by omega) (by omega))) (Lk.nil))))))⟩
  clear hg hΦ hin hout hN2 ha2
  refine region_part' 17 24 383 (by kernel_rfl) S.size (by kernel_rfl) (ph18 w w) (ph18_stay w w) (fun i h1 h2 vs w' A hg hΦ hin hout hsz K hK => ?_) (fun vs3 w' a3 ha3 hg hΦ hin hout hN3 => ?_)
  · obtain ⟨xq, rfl⟩ := ext_of_grow (Grow.trans (Gw.h : Grow (Wa w) _) hg)
    clear hg
    obtain rfl | rfl | rfl | rfl | rfl | rfl | rfl : i = 17 ∨ i = 18 ∨ i = 19 ∨ i = 20 ∨ i = 21 ∨ i = 22 ∨ i = 23 := by omega
    · have e1 := hout 1 _ (by kernel_rfl) (S.g 1 rfl)
      refine ⟨_, rfl, ?_⟩
      refine wp_tiny (Op.move (.const (.slice (some ⟨w.heap.size, 0, none⟩) 4 4))) (R := fun u w'' => Grow (ext (Wa w) xq) w'' ∧ ph18 w w 17 u w'') (wanted_at (g := 16) (d := 205) (b := true) rfl rfl rfl (by rw [hsz]; decide) (hout 205 _ (by kernel_rfl) (S.g 205 rfl))) (by simp [execOp, resolve, e1, ev_c, ev_f]) ?_ (fun u w'' h => hK u w'' h.1 h.2)
      clear hK
      intro K' hK'
      go_wp2_with (fail)
      exact hK' _ _ ⟨Gw.h, rfl⟩
    · have e3 := hout 3 _ (by kernel_rfl) (S.g 3 rfl)
      refine ⟨_, rfl, ?_⟩
      refine wp_tiny (Op.load 28 (.const (.pointer (some ⟨w.heap.size + 1 + 1, 0, none⟩)))) (R := fun u w'' => Grow (ext (Wa w) xq) w'' ∧ ph18 w w 18 u w'') (wanted_at (g := 16) (d := 205) (b := true) rfl rfl rfl (by rw [hsz]; decide) (hout 205 _ (by kernel_rfl) (S.g 205 rfl))) (by simp [execOp, resolve, e3, ev_c, ev_f]) ?_ (fun u w'' h => hK u w'' h.1 h.2)
      clear hK
      intro K' hK'
      go_wp2_with (fail)
      exact hK' _ _ ⟨Gw.h, rfl⟩
    · have e207 : A.eval (.tmp 207) = .agg #[.int .u8 2, .int .i64 0, .int .i64 1, .bool true, .int .u8 2] := (hin 18 207 (by omega) (by omega) (by kernel_rfl)).trans (hΦ 18 (List.mem_of_elem_eq_true (by kernel_rfl)) (by omega))
      refine ⟨_, rfl, ?_⟩
      refine wp_tiny (Op.build 38 #[(0, .const (.int .u8 2)), (3, .const (.agg #[.int .u8 2, .int .i64 0, .int .i64 1, .bool true, .int .u8 2]))]) (R := fun u w'' => Grow (ext (Wa w) xq) w'' ∧ ph18 w w 19 u w'') (wanted_at (g := 16) (d := 205) (b := true) rfl rfl rfl (by rw [hsz]; decide) (hout 205 _ (by kernel_rfl) (S.g 205 rfl))) (by simp [execOp, resolve, e207, ev_c, ev_f]) ?_ (fun u w'' h => hK u w'' h.1 h.2)
      clear hK
      intro K' hK'
      go_wp2_with (fail)
      exact hK' _ _ ⟨Gw.h, rfl⟩
    · have e206 : A.eval (.tmp 206) = .slice (some ⟨w.heap.size, 0, none⟩) 4 4 := (hin 17 206 (by omega) (by omega) (by kernel_rfl)).trans (hΦ 17 (List.mem_of_elem_eq_true (by kernel_rfl)) (by omega))
      have e208 : A.eval (.tmp 208) = .agg #[.int .u8 2, .int .i64 0, .bool false, .int .u8 0, .int .u8 0, .int .u8 0, .int .u8 0, .int .u8 0, .int .i64 0, .int .i64 0, .bool false, .int .u8 0, .int .u8 0, .int .i64 0, .int .i64 0, .bool false, .int .u8 0, .int .i64 0, .bool false, .int .u8 0, .int .u8 2, .int .i64 0, .int .i64 1, .bool true, .int .u8 2, .int .i64 0] := (hin 19 208 (by omega) (by omega) (by kernel_rfl)).trans (hΦ 19 (List.mem_of_elem_eq_true (by kernel_rfl)) (by omega))
      refine ⟨_, rfl, ?_⟩
      refine wp_tiny (Op.call { callee := Callee.value (Operand.func 9), args := #[.const (.slice (some ⟨w.heap.size, 0, none⟩) 4 4), .const (.agg #[.int .u8 2, .int .i64 0, .bool false, .int .u8 0, .int .u8 0, .int .u8 0, .int .u8 0, .int .u8 0, .int .i64 0, .int .i64 0, .bool false, .int .u8 0, .int .u8 0, .int .i64 0, .int .i64 0, .bool false, .int .u8 0, .int .i64 0, .bool false, .int .u8 0, .int .u8 2, .int .i64 0, .int .i64 1, .bool true, .int .u8 2, .int .i64 0])], argTypes := #[24, 38] }) (R := fun u w'' => Grow (ext (Wa w) xq) w'' ∧ ph18 w w 20 u w'') (wanted_at (g := 16) (d := 205) (b := true) rfl rfl rfl (by rw [hsz]; decide) (hout 205 _ (by kernel_rfl) (S.g 205 rfl))) (by simp [execOp, resolve, e206, e208, ev_c, ev_f]) ?_ (fun u w'' h => hK u w'' h.1 h.2)
      clear hK
      intro K' hK'
      go_wp2_with ((go_at_call 9; ((with_reducible refine (sh_st ns2 _ _ _ ns2_wf ns2_e (sh_at (by first | (simp only [hp_at, hp_alloc, hp_ext, hp_drew]; done) | (simp only [hp_at, hp_alloc, hp_ext, hp_drew]; kernel_rfl)))).mono ?_); rintro e w1 ⟨rfl, hb1⟩; obtain ⟨x1, rfl⟩ := ext_of_grow hb1; clear hb1)))
      exact hK' _ _ ⟨Gw.h, rfl⟩
    · have e209 : A.eval (.tmp 209) = .int .i64 0 := (hin 20 209 (by omega) (by omega) (by kernel_rfl)).trans (hΦ 20 (List.mem_of_elem_eq_true (by kernel_rfl)) (by omega))
      refine ⟨_, rfl, ?_⟩
      refine wp_tiny (Op.binOp BinOp.eql 29 (.const (.int .i64 0)) (.const (.int .i64 0)) 29) (R := fun u w'' => Grow (ext (Wa w) xq) w'' ∧ ph18 w w 21 u w'') (wanted_at (g := 16) (d := 205) (b := true) rfl rfl rfl (by rw [hsz]; decide) (hout 205 _ (by kernel_rfl) (S.g 205 rfl))) (by simp [execOp, resolve, e209, ev_c, ev_f, eqGuard]) ?_ (fun u w'' h => hK u w'' h.1 h.2)
      clear hK
      intro K' hK'
      go_wp2_with (fail)
      exact hK' _ _ ⟨Gw.h, rfl⟩
    · have e205 := hout 205 _ (by kernel_rfl) (S.g 205 rfl)
      have e210 : A.eval (.tmp 210) = .bool true := (hin 21 210 (by omega) (by omega) (by kernel_rfl)).trans (hΦ 21 (List.mem_of_elem_eq_true (by kernel_rfl)) (by omega))
      refine ⟨_, rfl, ?_⟩
      refine wp_tiny (Op.pick (.const (.bool true)) (.const (.bool true)) (.const (.bool false))) (R := fun u w'' => Grow (ext (Wa w) xq) w'' ∧ ph18 w w 22 u w'') (wanted_none rfl _) (by simp [execOp, resolve, e205, e210, ev_c, ev_f]) ?_ (fun u w'' h => hK u w'' h.1 h.2)
      clear hK
      intro K' hK'
      go_wp2_with (fail)
      exact hK' _ _ ⟨Gw.h, rfl⟩
    · have e211 : A.eval (.tmp 211) = .bool true := (hin 22 211 (by omega) (by omega) (by kernel_rfl)).trans (hΦ 22 (List.mem_of_elem_eq_true (by kernel_rfl)) (by omega))
      refine ⟨_, rfl, ?_⟩
      refine wp_tiny (Op.move (.const (.bool true))) (R := fun u w'' => Grow (ext (Wa w) xq) w'' ∧ ph18 w w 23 u w'') (wanted_none rfl _) (by simp [execOp, resolve, e211, ev_c, ev_f]) ?_ (fun u w'' h => hK u w'' h.1 h.2)
      clear hK
      intro K' hK'
      go_wp2_with (fail)
      exact hK' _ _ ⟨Gw.h, rfl⟩
  obtain ⟨x3, rfl⟩ := ext_of_grow (Grow.trans (Gw.h : Grow (Wa w) _) hg)
  replace S : St8 a3 383 _ := ⟨hN3, by rw [ha3.out, defers_putAll]; exact S.defers, Lk.cons (hout 1 _ (by kernel_rfl) (S.g 1 rfl)) (Lk.cons (hout 2 _ (by kernel_rfl) (S.g 2 rfl)) (Lk.cons (hout 3 _ (by kernel_rfl) (S.g 3 rfl)) (Lk.cons (hout 16 _ (by kernel_rfl) (S.g 16 rfl)) (Lk.cons (hout 19 _ (by kernel_rfl) (S.g 19 rfl)) (Lk.cons ((hin 23 212 (by omega) (by omega) (by kernel_rfl)).trans (hΦ 23 (by omega) (by omega))) (Lk.nil))))))⟩
  clear hg hΦ hin hout hN3 ha3
  refine region_part' 24 32 383 (by kernel_rfl) S.size (by kernel_rfl) (ph18 w w) (ph18_stay w w) (fun i h1 h2 vs w' A hg hΦ hin hout hsz K hK => ?_) (fun vs4 w' a4 ha4 hg hΦ hin hout hN4 => ?_)
  · obtain ⟨xq, rfl⟩ := ext_of_grow (Grow.trans (Gw.h : Grow (Wa w) _) hg)
    clear hg
    obtain rfl | rfl | rfl | rfl | rfl | rfl | rfl | rfl : i = 24 ∨ i = 25 ∨ i = 26 ∨ i = 27 ∨ i = 28 ∨ i = 29 ∨ i = 30 ∨ i = 31 := by omega
    · have e1 := hout 1 _ (by kernel_rfl) (S.g 1 rfl)
      refine ⟨_, rfl, ?_⟩
      refine wp_tiny (Op.move (.const (.slice (some ⟨w.heap.size, 0, none⟩) 4 4))) (R := fun u w'' => Grow (ext (Wa w) xq) w'' ∧ ph18 w w 24 u w'') (wanted_at (g := 23) (d := 212) (b := true) rfl rfl rfl (by rw [hsz]; decide) (hout 212 _ (by kernel_rfl) (S.g 212 rfl))) (by simp [execOp, resolve, e1, ev_c, ev_f]) ?_ (fun u w'' h => hK u w'' h.1 h.2)
      clear hK
      intro K' hK'
      go_wp2_with (fail)
      exact hK' _ _ ⟨Gw.h, rfl⟩
    · refine ⟨_, rfl, ?_⟩
      refine wp_tiny (Op.call { callee := Callee.value (Operand.func 7), args := #[.const (.int .i64 3)], argTypes := #[3] }) (R := fun u w'' => Grow (ext (Wa w) xq) w'' ∧ ph18 w w 25 u w'') (wanted_at (g := 23) (d := 212) (b := true) rfl rfl rfl (by rw [hsz]; decide) (hout 212 _ (by kernel_rfl) (S.g 212 rfl))) (by simp [execOp, resolve, ev_c, ev_f]) ?_ (fun u w'' h => hK u w'' h.1 h.2)
      clear hK
      intro K' hK'
      go_wp2_with ((go_at_call 7; ((with_reducible refine (law14_local _ _).mono ?_); rintro e w1 ⟨rfl, hb1⟩; obtain ⟨x1, rfl⟩ := ext_of_grow hb1; clear hb1)))
      exact hK' _ _ ⟨Gw.h, rfl⟩
    · have e214 : A.eval (.tmp 214) = .agg #[.int .i64 3, .bool false, .int .u8 0] := (hin 25 214 (by omega) (by omega) (by kernel_rfl)).trans (hΦ 25 (List.mem_of_elem_eq_true (by kernel_rfl)) (by omega))
      refine ⟨_, rfl, ?_⟩
      refine wp_tiny (Op.build 28 #[(0, .const (.int .u8 2)), (2, .const (.agg #[.int .i64 3, .bool false, .int .u8 0]))]) (R := fun u w'' => Grow (ext (Wa w) xq) w'' ∧ ph18 w w 26 u w'') (wanted_at (g := 23) (d := 212) (b := true) rfl rfl rfl (by rw [hsz]; decide) (hout 212 _ (by kernel_rfl) (S.g 212 rfl))) (by simp [execOp, resolve, e214, ev_c, ev_f]) ?_ (fun u w'' h => hK u w'' h.1 h.2)
      clear hK
      intro K' hK'
      go_wp2_with (fail)
      exact hK' _ _ ⟨Gw.h, rfl⟩
    · have e215 : A.eval (.tmp 215) = .agg #[.int .u8 2, .int .i64 0, .int .i64 3, .bool false, .int .u8 0] := (hin 26 215 (by omega) (by omega) (by kernel_rfl)).trans (hΦ 26 (List.mem_of_elem_eq_true (by kernel_rfl)) (by omega))
      refine ⟨_, rfl, ?_⟩
      refine wp_tiny (Op.build 38 #[(0, .const (.int .u8 4)), (3, .const (.agg #[.int .u8 2, .int .i64 0, .int .i64 3, .bool false, .int .u8 0]))]) (R := fun u w'' => Grow (ext (Wa w) xq) w'' ∧ ph18 w w 27 u w'') (wanted_at (g := 23) (d := 212) (b := true) rfl rfl rfl (by rw [hsz]; decide) (hout 212 _ (by kernel_rfl) (S.g 212 rfl))) (by simp [execOp, resolve, e215, ev_c, ev_f]) ?_ (fun u w'' h => hK u w'' h.1 h.2)
      clear hK
      intro K' hK'
      go_wp2_with (fail)
      exact hK' _ _ ⟨Gw.h, rfl⟩
    · have e213 : A.eval (.tmp 213) = .slice (some ⟨w.heap.size, 0, none⟩) 4 4 := (hin 24 213 (by omega) (by omega) (by kernel_rfl)).trans (hΦ 24 (List.mem_of_elem_eq_true (by kernel_rfl)) (by omega))
      have e216 : A.eval (.tmp 216) = .agg #[.int .u8 4, .int .i64 0, .bool false, .int .u8 0, .int .u8 0, .int .u8 0, .int .u8 0, .int .u8 0, .int .i64 0, .int .i64 0, .bool false, .int .u8 0, .int .u8 0, .int .i64 0, .int .i64 0, .bool false, .int .u8 0, .int .i64 0, .bool false, .int .u8 0, .int .u8 2, .int .i64 0, .int .i64 3, .bool false, .int .u8 0, .int .i64 0] := (hin 27 216 (by omega) (by omega) (by kernel_rfl)).trans (hΦ 27 (List.mem_of_elem_eq_true (by kernel_rfl)) (by omega))
      refine ⟨_, rfl, ?_⟩
      refine wp_tiny (Op.call { callee := Callee.value (Operand.func 9), args := #[.const (.slice (some ⟨w.heap.size, 0, none⟩) 4 4), .const (.agg #[.int .u8 4, .int .i64 0, .bool false, .int .u8 0, .int .u8 0, .int .u8 0, .int .u8 0, .int .u8 0, .int .i64 0, .int .i64 0, .bool false, .int .u8 0, .int .u8 0, .int .i64 0, .int .i64 0, .bool false, .int .u8 0, .int .i64 0, .bool false, .int .u8 0, .int .u8 2, .int .i64 0, .int .i64 3, .bool false, .int .u8 0, .int .i64 0])], argTypes := #[24, 38] }) (R := fun u w'' => Grow (ext (Wa w) xq) w'' ∧ ph18 w w 28 u w'') (wanted_at (g := 23) (d := 212) (b := true) rfl rfl rfl (by rw [hsz]; decide) (hout 212 _ (by kernel_rfl) (S.g 212 rfl))) (by simp [execOp, resolve, e213, e216, ev_c, ev_f]) ?_ (fun u w'' h => hK u w'' h.1 h.2)
      clear hK
      intro K' hK'
      go_wp2_with ((go_at_call 9; ((with_reducible refine (sh_st ns3 _ _ _ ns3_wf ns3_e (sh_at (by first | (simp only [hp_at, hp_alloc, hp_ext, hp_drew]; done) | (simp only [hp_at, hp_alloc, hp_ext, hp_drew]; kernel_rfl)))).mono ?_); rintro e w1 ⟨rfl, hb1⟩; obtain ⟨x1, rfl⟩ := ext_of_grow hb1; clear hb1)))
      exact hK' _ _ ⟨Gw.h, rfl⟩
    · have e217 : A.eval (.tmp 217) = .int .i64 42 := (hin 28 217 (by omega) (by omega) (by kernel_rfl)).trans (hΦ 28 (List.mem_of_elem_eq_true (by kernel_rfl)) (by omega))
      refine ⟨_, rfl, ?_⟩
      refine wp_tiny (Op.binOp BinOp.eql 29 (.const (.int .i64 42)) (.const (.int .i64 42)) 29) (R := fun u w'' => Grow (ext (Wa w) xq) w'' ∧ ph18 w w 29 u w'') (wanted_at (g := 23) (d := 212) (b := true) rfl rfl rfl (by rw [hsz]; decide) (hout 212 _ (by kernel_rfl) (S.g 212 rfl))) (by simp [execOp, resolve, e217, ev_c, ev_f, eqGuard]) ?_ (fun u w'' h => hK u w'' h.1 h.2)
      clear hK
      intro K' hK'
      go_wp2_with (fail)
      exact hK' _ _ ⟨Gw.h, rfl⟩
    · have e212 := hout 212 _ (by kernel_rfl) (S.g 212 rfl)
      have e218 : A.eval (.tmp 218) = .bool true := (hin 29 218 (by omega) (by omega) (by kernel_rfl)).trans (hΦ 29 (List.mem_of_elem_eq_true (by kernel_rfl)) (by omega))
      refine ⟨_, rfl, ?_⟩
      refine wp_tiny (Op.pick (.const (.bool true)) (.const (.bool true)) (.const (.bool false))) (R := fun u w'' => Grow (ext (Wa w) xq) w'' ∧ ph18 w w 30 u w'') (wanted_none rfl _) (by simp [execOp, resolve, e212, e218, ev_c, ev_f]) ?_ (fun u w'' h => hK u w'' h.1 h.2)
      clear hK
      intro K' hK'
      go_wp2_with (fail)
      exact hK' _ _ ⟨Gw.h, rfl⟩
    · have e219 : A.eval (.tmp 219) = .bool true := (hin 30 219 (by omega) (by omega) (by kernel_rfl)).trans (hΦ 30 (List.mem_of_elem_eq_true (by kernel_rfl)) (by omega))
      refine ⟨_, rfl, ?_⟩
      refine wp_tiny (Op.move (.const (.bool true))) (R := fun u w'' => Grow (ext (Wa w) xq) w'' ∧ ph18 w w 31 u w'') (wanted_none rfl _) (by simp [execOp, resolve, e219, ev_c, ev_f]) ?_ (fun u w'' h => hK u w'' h.1 h.2)
      clear hK
      intro K' hK'
      go_wp2_with (fail)
      exact hK' _ _ ⟨Gw.h, rfl⟩
  obtain ⟨x4, rfl⟩ := ext_of_grow (Grow.trans (Gw.h : Grow (Wa w) _) hg)
  replace S : St8 a4 383 _ := ⟨hN4, by rw [ha4.out, defers_putAll]; exact S.defers, Lk.cons (hout 1 _ (by kernel_rfl) (S.g 1 rfl)) (Lk.cons (hout 2 _ (by kernel_rfl) (S.g 2 rfl)) (Lk.cons (hout 3 _ (by kernel_rfl) (S.g 3 rfl)) (Lk.cons (hout 16 _ (by kernel_rfl) (S.g 16 rfl)) (Lk.cons (hout 19 _ (by kernel_rfl) (S.g 19 rfl)) (Lk.cons ((hin 31 220 (by omega) (by omega) (by kernel_rfl)).trans (hΦ 31 (by omega) (by omega))) (Lk.nil))))))⟩
  clear hg hΦ hin hout hN4 ha4
  refine region_part' 32 38 383 (by kernel_rfl) S.size (by kernel_rfl) (ph18 w w) (ph18_stay w w) (fun i h1 h2 vs w' A hg hΦ hin hout hsz K hK => ?_) (fun vs5 w' a5 ha5 hg hΦ hin hout hN5 => ?_)
  · obtain ⟨xq, rfl⟩ := ext_of_grow (Grow.trans (Gw.h : Grow (Wa w) _) hg)
    clear hg
    obtain rfl | rfl | rfl | rfl | rfl | rfl : i = 32 ∨ i = 33 ∨ i = 34 ∨ i = 35 ∨ i = 36 ∨ i = 37 := by omega
    · have e1 := hout 1 _ (by kernel_rfl) (S.g 1 rfl)
      refine ⟨_, rfl, ?_⟩
      refine wp_tiny (Op.move (.const (.slice (some ⟨w.heap.size, 0, none⟩) 4 4))) (R := fun u w'' => Grow (ext (Wa w) xq) w'' ∧ ph18 w w 32 u w'') (wanted_at (g := 31) (d := 220) (b := true) rfl rfl rfl (by rw [hsz]; decide) (hout 220 _ (by kernel_rfl) (S.g 220 rfl))) (by simp [execOp, resolve, e1, ev_c, ev_f]) ?_ (fun u w'' h => hK u w'' h.1 h.2)
      clear hK
      intro K' hK'
      go_wp2_with (fail)
      exact hK' _ _ ⟨Gw.h, rfl⟩
    · refine ⟨_, rfl, ?_⟩
      refine wp_tiny (Op.build 38 #[(0, .const (.int .u8 3)), (4, .const (.int .i64 3))]) (R := fun u w'' => Grow (ext (Wa w) xq) w'' ∧ ph18 w w 33 u w'') (wanted_at (g := 31) (d := 220) (b := true) rfl rfl rfl (by rw [hsz]; decide) (hout 220 _ (by kernel_rfl) (S.g 220 rfl))) (by simp [execOp, resolve, ev_c, ev_f]) ?_ (fun u w'' h => hK u w'' h.1 h.2)
      clear hK
      intro K' hK'
      go_wp2_with (fail)
      exact hK' _ _ ⟨Gw.h, rfl⟩
    · have e221 : A.eval (.tmp 221) = .slice (some ⟨w.heap.size, 0, none⟩) 4 4 := (hin 32 221 (by omega) (by omega) (by kernel_rfl)).trans (hΦ 32 (List.mem_of_elem_eq_true (by kernel_rfl)) (by omega))
      have e222 : A.eval (.tmp 222) = .agg #[.int .u8 3, .int .i64 0, .bool false, .int .u8 0, .int .u8 0, .int .u8 0, .int .u8 0, .int .u8 0, .int .i64 0, .int .i64 0, .bool false, .int .u8 0, .int .u8 0, .int .i64 0, .int .i64 0, .bool false, .int .u8 0, .int .i64 0, .bool false, .int .u8 0, .int .u8 0, .int .i64 0, .int .i64 0, .bool false, .int .u8 0, .int .i64 3] := (hin 33 222 (by omega) (by omega) (by kernel_rfl)).trans (hΦ 33 (List.mem_of_elem_eq_true (by kernel_rfl)) (by omega))
      refine ⟨_, rfl, ?_⟩
      refine wp_tiny (Op.call { callee := Callee.value (Operand.func 9), args := #[.const (.slice (some ⟨w.heap.size, 0, none⟩) 4 4), .const (.agg #[.int .u8 3, .int .i64 0, .bool false, .int .u8 0, .int .u8 0, .int .u8 0, .int .u8 0, .int .u8 0, .int .i64 0, .int .i64 0, .bool false, .int .u8 0, .int .u8 0, .int .i64 0, .int .i64 0, .bool false, .int .u8 0, .int .i64 0, .bool false, .int .u8 0, .int .u8 0, .int .i64 0, .int .i64 0, .bool false, .int .u8 0, .int .i64 3])], argTypes := #[24, 38] }) (R := fun u w'' => Grow (ext (Wa w) xq) w'' ∧ ph18 w w 34 u w'') (wanted_at (g := 31) (d := 220) (b := true) rfl rfl rfl (by rw [hsz]; decide) (hout 220 _ (by kernel_rfl) (S.g 220 rfl))) (by simp [execOp, resolve, e221, e222, ev_c, ev_f]) ?_ (fun u w'' h => hK u w'' h.1 h.2)
      clear hK
      intro K' hK'
      go_wp2_with ((go_at_call 9; ((with_reducible refine (sh_st ns4 _ _ _ ns4_wf ns4_e (sh_at (by first | (simp only [hp_at, hp_alloc, hp_ext, hp_drew]; done) | (simp only [hp_at, hp_alloc, hp_ext, hp_drew]; kernel_rfl)))).mono ?_); rintro e w1 ⟨rfl, hb1⟩; obtain ⟨x1, rfl⟩ := ext_of_grow hb1; clear hb1)))
      exact hK' _ _ ⟨Gw.h, rfl⟩
    · have e223 : A.eval (.tmp 223) = .int .i64 0 := (hin 34 223 (by omega) (by omega) (by kernel_rfl)).trans (hΦ 34 (List.mem_of_elem_eq_true (by kernel_rfl)) (by omega))
      refine ⟨_, rfl, ?_⟩
      refine wp_tiny (Op.binOp BinOp.eql 29 (.const (.int .i64 0)) (.const (.int .i64 0)) 29) (R := fun u w'' => Grow (ext (Wa w) xq) w'' ∧ ph18 w w 35 u w'') (wanted_at (g := 31) (d := 220) (b := true) rfl rfl rfl (by rw [hsz]; decide) (hout 220 _ (by kernel_rfl) (S.g 220 rfl))) (by simp [execOp, resolve, e223, ev_c, ev_f, eqGuard]) ?_ (fun u w'' h => hK u w'' h.1 h.2)
      clear hK
      intro K' hK'
      go_wp2_with (fail)
      exact hK' _ _ ⟨Gw.h, rfl⟩
    · have e220 := hout 220 _ (by kernel_rfl) (S.g 220 rfl)
      have e224 : A.eval (.tmp 224) = .bool true := (hin 35 224 (by omega) (by omega) (by kernel_rfl)).trans (hΦ 35 (List.mem_of_elem_eq_true (by kernel_rfl)) (by omega))
      refine ⟨_, rfl, ?_⟩
      refine wp_tiny (Op.pick (.const (.bool true)) (.const (.bool true)) (.const (.bool false))) (R := fun u w'' => Grow (ext (Wa w) xq) w'' ∧ ph18 w w 36 u w'') (wanted_none rfl _) (by simp [execOp, resolve, e220, e224, ev_c, ev_f]) ?_ (fun u w'' h => hK u w'' h.1 h.2)
      clear hK
      intro K' hK'
      go_wp2_with (fail)
      exact hK' _ _ ⟨Gw.h, rfl⟩
    · have e225 : A.eval (.tmp 225) = .bool true := (hin 36 225 (by omega) (by omega) (by kernel_rfl)).trans (hΦ 36 (List.mem_of_elem_eq_true (by kernel_rfl)) (by omega))
      refine ⟨_, rfl, ?_⟩
      refine wp_tiny (Op.move (.const (.bool true))) (R := fun u w'' => Grow (ext (Wa w) xq) w'' ∧ ph18 w w 37 u w'') (wanted_none rfl _) (by simp [execOp, resolve, e225, ev_c, ev_f]) ?_ (fun u w'' h => hK u w'' h.1 h.2)
      clear hK
      intro K' hK'
      go_wp2_with (fail)
      exact hK' _ _ ⟨Gw.h, rfl⟩
  obtain ⟨x5, rfl⟩ := ext_of_grow (Grow.trans (Gw.h : Grow (Wa w) _) hg)
  replace S : St8 a5 383 _ := ⟨hN5, by rw [ha5.out, defers_putAll]; exact S.defers, Lk.cons (hout 1 _ (by kernel_rfl) (S.g 1 rfl)) (Lk.cons (hout 2 _ (by kernel_rfl) (S.g 2 rfl)) (Lk.cons (hout 3 _ (by kernel_rfl) (S.g 3 rfl)) (Lk.cons (hout 16 _ (by kernel_rfl) (S.g 16 rfl)) (Lk.cons (hout 19 _ (by kernel_rfl) (S.g 19 rfl)) (Lk.cons ((hin 37 226 (by omega) (by omega) (by kernel_rfl)).trans (hΦ 37 (by omega) (by omega))) (Lk.nil))))))⟩
  clear hg hΦ hin hout hN5 ha5
  refine region_part' 38 44 383 (by kernel_rfl) S.size (by kernel_rfl) (ph18 w w) (ph18_stay w w) (fun i h1 h2 vs w' A hg hΦ hin hout hsz K hK => ?_) (fun vs6 w' a6 ha6 hg hΦ hin hout hN6 => ?_)
  · obtain ⟨xq, rfl⟩ := ext_of_grow (Grow.trans (Gw.h : Grow (Wa w) _) hg)
    clear hg
    obtain rfl | rfl | rfl | rfl | rfl | rfl : i = 38 ∨ i = 39 ∨ i = 40 ∨ i = 41 ∨ i = 42 ∨ i = 43 := by omega
    · have e1 := hout 1 _ (by kernel_rfl) (S.g 1 rfl)
      refine ⟨_, rfl, ?_⟩
      refine wp_tiny (Op.move (.const (.slice (some ⟨w.heap.size, 0, none⟩) 4 4))) (R := fun u w'' => Grow (ext (Wa w) xq) w'' ∧ ph18 w w 38 u w'') (wanted_at (g := 37) (d := 226) (b := true) rfl rfl rfl (by rw [hsz]; decide) (hout 226 _ (by kernel_rfl) (S.g 226 rfl))) (by simp [execOp, resolve, e1, ev_c, ev_f]) ?_ (fun u w'' h => hK u w'' h.1 h.2)
      clear hK
      intro K' hK'
      go_wp2_with (fail)
      exact hK' _ _ ⟨Gw.h, rfl⟩
    · refine ⟨_, rfl, ?_⟩
      refine wp_tiny (Op.build 38 #[(0, .const (.int .u8 3)), (4, .const (.int .i64 4))]) (R := fun u w'' => Grow (ext (Wa w) xq) w'' ∧ ph18 w w 39 u w'') (wanted_at (g := 37) (d := 226) (b := true) rfl rfl rfl (by rw [hsz]; decide) (hout 226 _ (by kernel_rfl) (S.g 226 rfl))) (by simp [execOp, resolve, ev_c, ev_f]) ?_ (fun u w'' h => hK u w'' h.1 h.2)
      clear hK
      intro K' hK'
      go_wp2_with (fail)
      exact hK' _ _ ⟨Gw.h, rfl⟩
    · have e227 : A.eval (.tmp 227) = .slice (some ⟨w.heap.size, 0, none⟩) 4 4 := (hin 38 227 (by omega) (by omega) (by kernel_rfl)).trans (hΦ 38 (List.mem_of_elem_eq_true (by kernel_rfl)) (by omega))
      have e228 : A.eval (.tmp 228) = .agg #[.int .u8 3, .int .i64 0, .bool false, .int .u8 0, .int .u8 0, .int .u8 0, .int .u8 0, .int .u8 0, .int .i64 0, .int .i64 0, .bool false, .int .u8 0, .int .u8 0, .int .i64 0, .int .i64 0, .bool false, .int .u8 0, .int .i64 0, .bool false, .int .u8 0, .int .u8 0, .int .i64 0, .int .i64 0, .bool false, .int .u8 0, .int .i64 4] := (hin 39 228 (by omega) (by omega) (by kernel_rfl)).trans (hΦ 39 (List.mem_of_elem_eq_true (by kernel_rfl)) (by omega))
      refine ⟨_, rfl, ?_⟩
      refine wp_tiny (Op.call { callee := Callee.value (Operand.func 9), args := #[.const (.slice (some ⟨w.heap.size, 0, none⟩) 4 4), .const (.agg #[.int .u8 3, .int .i64 0, .bool false, .int .u8 0, .int .u8 0, .int .u8 0, .int .u8 0, .int .u8 0, .int .i64 0, .int .i64 0, .bool false, .int .u8 0, .int .u8 0, .int .i64 0, .int .i64 0, .bool false, .int .u8 0, .int .i64 0, .bool false, .int .u8 0, .int .u8 0, .int .i64 0, .int .i64 0, .bool false, .int .u8 0, .int .i64 4])], argTypes := #[24, 38] }) (R := fun u w'' => Grow (ext (Wa w) xq) w'' ∧ ph18 w w 40 u w'') (wanted_at (g := 37) (d := 226) (b := true) rfl rfl rfl (by rw [hsz]; decide) (hout 226 _ (by kernel_rfl) (S.g 226 rfl))) (by simp [execOp, resolve, e227, e228, ev_c, ev_f]) ?_ (fun u w'' h => hK u w'' h.1 h.2)
      clear hK
      intro K' hK'
      go_wp2_with ((go_at_call 9; ((with_reducible refine (sh_st ns5 _ _ _ ns5_wf ns5_e (sh_at (by first | (simp only [hp_at, hp_alloc, hp_ext, hp_drew]; done) | (simp only [hp_at, hp_alloc, hp_ext, hp_drew]; kernel_rfl)))).mono ?_); rintro e w1 ⟨rfl, hb1⟩; obtain ⟨x1, rfl⟩ := ext_of_grow hb1; clear hb1)))
      exact hK' _ _ ⟨Gw.h, rfl⟩
    · have e229 : A.eval (.tmp 229) = .int .i64 6 := (hin 40 229 (by omega) (by omega) (by kernel_rfl)).trans (hΦ 40 (List.mem_of_elem_eq_true (by kernel_rfl)) (by omega))
      refine ⟨_, rfl, ?_⟩
      refine wp_tiny (Op.binOp BinOp.eql 29 (.const (.int .i64 6)) (.const (.int .i64 6)) 29) (R := fun u w'' => Grow (ext (Wa w) xq) w'' ∧ ph18 w w 41 u w'') (wanted_at (g := 37) (d := 226) (b := true) rfl rfl rfl (by rw [hsz]; decide) (hout 226 _ (by kernel_rfl) (S.g 226 rfl))) (by simp [execOp, resolve, e229, ev_c, ev_f, eqGuard]) ?_ (fun u w'' h => hK u w'' h.1 h.2)
      clear hK
      intro K' hK'
      go_wp2_with (fail)
      exact hK' _ _ ⟨Gw.h, rfl⟩
    · have e226 := hout 226 _ (by kernel_rfl) (S.g 226 rfl)
      have e230 : A.eval (.tmp 230) = .bool true := (hin 41 230 (by omega) (by omega) (by kernel_rfl)).trans (hΦ 41 (List.mem_of_elem_eq_true (by kernel_rfl)) (by omega))
      refine ⟨_, rfl, ?_⟩
      refine wp_tiny (Op.pick (.const (.bool true)) (.const (.bool true)) (.const (.bool false))) (R := fun u w'' => Grow (ext (Wa w) xq) w'' ∧ ph18 w w 42 u w'') (wanted_none rfl _) (by simp [execOp, resolve, e226, e230, ev_c, ev_f]) ?_ (fun u w'' h => hK u w'' h.1 h.2)
      clear hK
      intro K' hK'
      go_wp2_with (fail)
      exact hK' _ _ ⟨Gw.h, rfl⟩
    · have e231 : A.eval (.tmp 231) = .bool true := (hin 42 231 (by omega) (by omega) (by kernel_rfl)).trans (hΦ 42 (List.mem_of_elem_eq_true (by kernel_rfl)) (by omega))
      refine ⟨_, rfl, ?_⟩
      refine wp_tiny (Op.move (.const (.bool true))) (R := fun u w'' => Grow (ext (Wa w) xq) w'' ∧ ph18 w w 43 u w'') (wanted_none rfl _) (by simp [execOp, resolve, e231, ev_c, ev_f]) ?_ (fun u w'' h => hK u w'' h.1 h.2)
      clear hK
      intro K' hK'
      go_wp2_with (fail)
      exact hK' _ _ ⟨Gw.h, rfl⟩
  obtain ⟨x6, rfl⟩ := ext_of_grow (Grow.trans (Gw.h : Grow (Wa w) _) hg)
  replace S : St8 a6 383 _ := ⟨hN6, by rw [ha6.out, defers_putAll]; exact S.defers, Lk.cons (hout 1 _ (by kernel_rfl) (S.g 1 rfl)) (Lk.cons (hout 2 _ (by kernel_rfl) (S.g 2 rfl)) (Lk.cons (hout 3 _ (by kernel_rfl) (S.g 3 rfl)) (Lk.cons (hout 16 _ (by kernel_rfl) (S.g 16 rfl)) (Lk.cons (hout 19 _ (by kernel_rfl) (S.g 19 rfl)) (Lk.cons ((hin 43 232 (by omega) (by omega) (by kernel_rfl)).trans (hΦ 43 (by omega) (by omega))) (Lk.nil))))))⟩
  clear hg hΦ hin hout hN6 ha6
  refine region_part' 44 50 383 (by kernel_rfl) S.size (by kernel_rfl) (ph18 w w) (ph18_stay w w) (fun i h1 h2 vs w' A hg hΦ hin hout hsz K hK => ?_) (fun vs7 w' a7 ha7 hg hΦ hin hout hN7 => ?_)
  · obtain ⟨xq, rfl⟩ := ext_of_grow (Grow.trans (Gw.h : Grow (Wa w) _) hg)
    clear hg
    obtain rfl | rfl | rfl | rfl | rfl | rfl : i = 44 ∨ i = 45 ∨ i = 46 ∨ i = 47 ∨ i = 48 ∨ i = 49 := by omega
    · have e1 := hout 1 _ (by kernel_rfl) (S.g 1 rfl)
      refine ⟨_, rfl, ?_⟩
      refine wp_tiny (Op.move (.const (.slice (some ⟨w.heap.size, 0, none⟩) 4 4))) (R := fun u w'' => Grow (ext (Wa w) xq) w'' ∧ ph18 w w 44 u w'') (wanted_at (g := 43) (d := 232) (b := true) rfl rfl rfl (by rw [hsz]; decide) (hout 232 _ (by kernel_rfl) (S.g 232 rfl))) (by simp [execOp, resolve, e1, ev_c, ev_f]) ?_ (fun u w'' h => hK u w'' h.1 h.2)
      clear hK
      intro K' hK'
      go_wp2_with (fail)
      exact hK' _ _ ⟨Gw.h, rfl⟩
    · refine ⟨_, rfl, ?_⟩
      refine wp_tiny (Op.build 38 #[(0, .const (.int .u8 3)), (4, .const (.int .i64 16))]) (R := fun u w'' => Grow (ext (Wa w) xq) w'' ∧ ph18 w w 45 u w'') (wanted_at (g := 43) (d := 232) (b := true) rfl rfl rfl (by rw [hsz]; decide) (hout 232 _ (by kernel_rfl) (S.g 232 rfl))) (by simp [execOp, resolve, ev_c, ev_f]) ?_ (fun u w'' h => hK u w'' h.1 h.2)
      clear hK
      intro K' hK'
      go_wp2_with (fail)
      exact hK' _ _ ⟨Gw.h, rfl⟩
    · have e233 : A.eval (.tmp 233) = .slice (some ⟨w.heap.size, 0, none⟩) 4 4 := (hin 44 233 (by omega) (by omega) (by kernel_rfl)).trans (hΦ 44 (List.mem_of_elem_eq_true (by kernel_rfl)) (by omega))
      have e234 : A.eval (.tmp 234) = .agg #[.int .u8 3, .int .i64 0, .bool false, .int .u8 0, .int .u8 0, .int .u8 0, .int .u8 0, .int .u8 0, .int .i64 0, .int .i64 0, .bool false, .int .u8 0, .int .u8 0, .int .i64 0, .int .i64 0, .bool false, .int .u8 0, .int .i64 0, .bool false, .int .u8 0, .int .u8 0, .int .i64 0, .int .i64 0, .bool false, .int .u8 0, .int .i64 16] := (hin 45 234 (by omega) (by omega) (by kernel_rfl)).trans (hΦ 45 (List.mem_of_elem_eq_true (by kernel_rfl)) (by omega))
      refine ⟨_, rfl, ?_⟩
      refine wp_tiny (Op.call { callee := Callee.value (Operand.func 9), args := #[.const (.slice (some ⟨w.heap.size, 0, none⟩) 4 4), .const (.agg #[.int .u8 3, .int .i64 0, .bool false, .int .u8 0, .int .u8 0, .int .u8 0, .int .u8 0, .int .u8 0, .int .i64 0, .int .i64 0, .bool false, .int .u8 0, .int .u8 0, .int .i64 0, .int .i64 0, .bool false, .int .u8 0, .int .i64 0, .bool false, .int .u8 0, .int .u8 0, .int .i64 0, .int .i64 0, .bool false, .int .u8 0, .int .i64 16])], argTypes := #[24, 38] }) (R := fun u w'' => Grow (ext (Wa w) xq) w'' ∧ ph18 w w 46 u w'') (wanted_at (g := 43) (d := 232) (b := true) rfl rfl rfl (by rw [hsz]; decide) (hout 232 _ (by kernel_rfl) (S.g 232 rfl))) (by simp [execOp, resolve, e233, e234, ev_c, ev_f]) ?_ (fun u w'' h => hK u w'' h.1 h.2)
      clear hK
      intro K' hK'
      go_wp2_with ((go_at_call 9; ((with_reducible refine (sh_st ns6 _ _ _ ns6_wf ns6_e (sh_at (by first | (simp only [hp_at, hp_alloc, hp_ext, hp_drew]; done) | (simp only [hp_at, hp_alloc, hp_ext, hp_drew]; kernel_rfl)))).mono ?_); rintro e w1 ⟨rfl, hb1⟩; obtain ⟨x1, rfl⟩ := ext_of_grow hb1; clear hb1)))
      exact hK' _ _ ⟨Gw.h, rfl⟩
    · have e235 : A.eval (.tmp 235) = .int .i64 8 := (hin 46 235 (by omega) (by omega) (by kernel_rfl)).trans (hΦ 46 (List.mem_of_elem_eq_true (by kernel_rfl)) (by omega))
      refine ⟨_, rfl, ?_⟩
      refine wp_tiny (Op.binOp BinOp.eql 29 (.const (.int .i64 8)) (.const (.int .i64 8)) 29) (R := fun u w'' => Grow (ext (Wa w) xq) w'' ∧ ph18 w w 47 u w'') (wanted_at (g := 43) (d := 232) (b := true) rfl rfl rfl (by rw [hsz]; decide) (hout 232 _ (by kernel_rfl) (S.g 232 rfl))) (by simp [execOp, resolve, e235, ev_c, ev_f, eqGuard]) ?_ (fun u w'' h => hK u w'' h.1 h.2)
      clear hK
      intro K' hK'
      go_wp2_with (fail)
      exact hK' _ _ ⟨Gw.h, rfl⟩
    · have e232 := hout 232 _ (by kernel_rfl) (S.g 232 rfl)
      have e236 : A.eval (.tmp 236) = .bool true := (hin 47 236 (by omega) (by omega) (by kernel_rfl)).trans (hΦ 47 (List.mem_of_elem_eq_true (by kernel_rfl)) (by omega))
      refine ⟨_, rfl, ?_⟩
      refine wp_tiny (Op.pick (.const (.bool true)) (.const (.bool true)) (.const (.bool false))) (R := fun u w'' => Grow (ext (Wa w) xq) w'' ∧ ph18 w w 48 u w'') (wanted_none rfl _) (by simp [execOp, resolve, e232, e236, ev_c, ev_f]) ?_ (fun u w'' h => hK u w'' h.1 h.2)
      clear hK
      intro K' hK'
      go_wp2_with (fail)
      exact hK' _ _ ⟨Gw.h, rfl⟩
    · have e237 : A.eval (.tmp 237) = .bool true := (hin 48 237 (by omega) (by omega) (by kernel_rfl)).trans (hΦ 48 (List.mem_of_elem_eq_true (by kernel_rfl)) (by omega))
      refine ⟨_, rfl, ?_⟩
      refine wp_tiny (Op.move (.const (.bool true))) (R := fun u w'' => Grow (ext (Wa w) xq) w'' ∧ ph18 w w 49 u w'') (wanted_none rfl _) (by simp [execOp, resolve, e237, ev_c, ev_f]) ?_ (fun u w'' h => hK u w'' h.1 h.2)
      clear hK
      intro K' hK'
      go_wp2_with (fail)
      exact hK' _ _ ⟨Gw.h, rfl⟩
  obtain ⟨x7, rfl⟩ := ext_of_grow (Grow.trans (Gw.h : Grow (Wa w) _) hg)
  replace S : St8 a7 383 _ := ⟨hN7, by rw [ha7.out, defers_putAll]; exact S.defers, Lk.cons (hout 1 _ (by kernel_rfl) (S.g 1 rfl)) (Lk.cons (hout 2 _ (by kernel_rfl) (S.g 2 rfl)) (Lk.cons (hout 3 _ (by kernel_rfl) (S.g 3 rfl)) (Lk.cons (hout 16 _ (by kernel_rfl) (S.g 16 rfl)) (Lk.cons (hout 19 _ (by kernel_rfl) (S.g 19 rfl)) (Lk.cons ((hin 49 238 (by omega) (by omega) (by kernel_rfl)).trans (hΦ 49 (by omega) (by omega))) (Lk.nil))))))⟩
  clear hg hΦ hin hout hN7 ha7
  refine region_part' 50 55 383 (by kernel_rfl) S.size (by kernel_rfl) (ph18 w w) (ph18_stay w w) (fun i h1 h2 vs w' A hg hΦ hin hout hsz K hK => ?_) (fun vs8 w' a8 ha8 hg hΦ hin hout hN8 => ?_)
  · obtain ⟨xq, rfl⟩ := ext_of_grow (Grow.trans (Gw.h : Grow (Wa w) _) hg)
    clear hg
    obtain rfl | rfl | rfl | rfl | rfl : i = 50 ∨ i = 51 ∨ i = 52 ∨ i = 53 ∨ i = 54 := by omega
    · refine ⟨_, rfl, ?_⟩
      refine wp_tiny (Op.build 38 #[]) (R := fun u w'' => Grow (ext (Wa w) xq) w'' ∧ ph18 w w 50 u w'') (wanted_at (g := 49) (d := 238) (b := true) rfl rfl rfl (by rw [hsz]; decide) (hout 238 _ (by kernel_rfl) (S.g 238 rfl))) (by simp [execOp, resolve, ev_c, ev_f]) ?_ (fun u w'' h => hK u w'' h.1 h.2)
      clear hK
      intro K' hK'
      go_wp2_with (fail)
      exact hK' _ _ ⟨Gw.h, rfl⟩
    · have e239 : A.eval (.tmp 239) = .agg #[.int .u8 0, .int .i64 0, .bool false, .int .u8 0, .int .u8 0, .int .u8 0, .int .u8 0, .int .u8 0, .int .i64 0, .int .i64 0, .bool false, .int .u8 0, .int .u8 0, .int .i64 0, .int .i64 0, .bool false, .int .u8 0, .int .i64 0, .bool false, .int .u8 0, .int .u8 0, .int .i64 0, .int .i64 0, .bool false, .int .u8 0, .int .i64 0] := (hin 50 239 (by omega) (by omega) (by kernel_rfl)).trans (hΦ 50 (List.mem_of_elem_eq_true (by kernel_rfl)) (by omega))
      refine ⟨_, rfl, ?_⟩
      refine wp_tiny (Op.call { callee := Callee.value (Operand.func 9), args := #[.const (.slice none 0 0), .const (.agg #[.int .u8 0, .int .i64 0, .bool false, .int .u8 0, .int .u8 0, .int .u8 0, .int .u8 0, .int .u8 0, .int .i64 0, .int .i64 0, .bool false, .int .u8 0, .int .u8 0, .int .i64 0, .int .i64 0, .bool false, .int .u8 0, .int .i64 0, .bool false, .int .u8 0, .int .u8 0, .int .i64 0, .int .i64 0, .bool false, .int .u8 0, .int .i64 0])], argTypes := #[24, 38] }) (R := fun u w'' => Grow (ext (Wa w) xq) w'' ∧ ph18 w w 51 u w'') (wanted_at (g := 49) (d := 238) (b := true) rfl rfl rfl (by rw [hsz]; decide) (hout 238 _ (by kernel_rfl) (S.g 238 rfl))) (by simp [execOp, resolve, e239, ev_c, ev_f]) ?_ (fun u w'' h => hK u w'' h.1 h.2)
      clear hK
      intro K' hK'
      go_wp2_with ((go_at_call 9; ((with_reducible refine (nsn_c _).mono ?_); rintro e w1 ⟨rfl, hb1⟩; obtain ⟨x1, rfl⟩ := ext_of_grow hb1; clear hb1)))
      exact hK' _ _ ⟨Gw.h, rfl⟩
    · have e240 : A.eval (.tmp 240) = .int .i64 8 := (hin 51 240 (by omega) (by omega) (by kernel_rfl)).trans (hΦ 51 (List.mem_of_elem_eq_true (by kernel_rfl)) (by omega))
      refine ⟨_, rfl, ?_⟩
      refine wp_tiny (Op.binOp BinOp.eql 29 (.const (.int .i64 8)) (.const (.int .i64 8)) 29) (R := fun u w'' => Grow (ext (Wa w) xq) w'' ∧ ph18 w w 52 u w'') (wanted_at (g := 49) (d := 238) (b := true) rfl rfl rfl (by rw [hsz]; decide) (hout 238 _ (by kernel_rfl) (S.g 238 rfl))) (by simp [execOp, resolve, e240, ev_c, ev_f, eqGuard]) ?_ (fun u w'' h => hK u w'' h.1 h.2)
      clear hK
      intro K' hK'
      go_wp2_with (fail)
      exact hK' _ _ ⟨Gw.h, rfl⟩
    · have e238 := hout 238 _ (by kernel_rfl) (S.g 238 rfl)
      have e241 : A.eval (.tmp 241) = .bool true := (hin 52 241 (by omega) (by omega) (by kernel_rfl)).trans (hΦ 52 (List.mem_of_elem_eq_true (by kernel_rfl)) (by omega))
      refine ⟨_, rfl, ?_⟩
      refine wp_tiny (Op.pick (.const (.bool true)) (.const (.bool true)) (.const (.bool false))) (R := fun u w'' => Grow (ext (Wa w) xq) w'' ∧ ph18 w w 53 u w'') (wanted_none rfl _) (by simp [execOp, resolve, e238, e241, ev_c, ev_f]) ?_ (fun u w'' h => hK u w'' h.1 h.2)
      clear hK
      intro K' hK'
      go_wp2_with (fail)
      exact hK' _ _ ⟨Gw.h, rfl⟩
    · have e242 : A.eval (.tmp 242) = .bool true := (hin 53 242 (by omega) (by omega) (by kernel_rfl)).trans (hΦ 53 (List.mem_of_elem_eq_true (by kernel_rfl)) (by omega))
      refine ⟨_, rfl, ?_⟩
      refine wp_tiny (Op.assign (.const (.bool true))) (R := fun u w'' => Grow (ext (Wa w) xq) w'' ∧ ph18 w w 54 u w'') (wanted_none rfl _) (by simp [execOp, resolve, e242, ev_c, ev_f]) ?_ (fun u w'' h => hK u w'' h.1 h.2)
      clear hK
      intro K' hK'
      go_wp2_with (fail)
      exact hK' _ _ ⟨Gw.h, rfl⟩
  obtain ⟨x8, rfl⟩ := ext_of_grow (Grow.trans (Gw.h : Grow (Wa w) _) hg)
  replace S : St8 a8 383 _ := ⟨hN8, by rw [ha8.out, defers_putAll]; exact S.defers, Lk.cons (hout 1 _ (by kernel_rfl) (S.g 1 rfl)) (Lk.cons (hout 2 _ (by kernel_rfl) (S.g 2 rfl)) (Lk.cons (hout 3 _ (by kernel_rfl) (S.g 3 rfl)) (Lk.cons (hout 16 _ (by kernel_rfl) (S.g 16 rfl)) (Lk.cons (hout 19 _ (by kernel_rfl) (S.g 19 rfl)) (Lk.cons ((hin 54 20 (by omega) (by omega) (by kernel_rfl)).trans (hΦ 54 (by omega) (by omega))) (Lk.nil))))))⟩
  clear hg hΦ hin hout hN8 ha8
  refine parts_end' 55 rfl ?_
  rename Act => a
  replace S : St8 a 383 _ := ⟨S.size, S.defers, Lk.cons (S.g 16 rfl) (Lk.cons (S.g 19 rfl) (Lk.cons (S.g 20 rfl) (Lk.nil)))⟩
  go_upto_region 19 with fail
  refine wp_region_lit ?_
  refine st_any S (Op.call { callee := Callee.value (Operand.func 7), args := #[.const (.int .i64 2)], argTypes := #[3] }) (fun u w'' => u = .agg #[.int .i64 2, .bool false, .int .u8 0] ∧ Grow (Wa w) w'') rfl rfl (wanted_none rfl _) (by simp [execOp, resolve, ev_c, ev_f]) ?_ (fun u w'' a h S => ?_)
  · intro K' hK'
    go_wp2_with ((go_at_call 7; ((with_reducible refine (law14_local _ _).mono ?_); rintro e w1 ⟨rfl, hb1⟩; obtain ⟨x1, rfl⟩ := ext_of_grow hb1; clear hb1)))
    exact hK' _ _ ⟨rfl, Gw.h⟩
  obtain ⟨rfl, hg⟩ := h
  obtain ⟨x28, rfl⟩ := ext_of_grow hg
  clear hg
  refine st_val S (Op.build 28 #[(0, .const (.int .u8 3)), (2, .const (.agg #[.int .i64 2, .bool false, .int .u8 0]))]) (.agg #[.int .u8 3, .int .i64 0, .int .i64 2, .bool false, .int .u8 0]) rfl rfl (wanted_none rfl _) (by simp [execOp, resolve, S.g 243 rfl, ev_c, ev_f]) ?_ (fun a S => ?_)
  · intro K' hK'
    go_wp2_with fail
    exact hK'
  refine st_any S (Op.call { callee := Callee.value (Operand.func 7), args := #[.const (.int .i64 1)], argTypes := #[3] }) (fun u w'' => u = .agg #[.int .i64 1, .bool false, .int .u8 0] ∧ Grow (Wa w) w'') rfl rfl (wanted_none rfl _) (by simp [execOp, resolve, ev_c, ev_f]) ?_ (fun u w'' a h S => ?_)
  · intro K' hK'
    go_wp2_with ((go_at_call 7; ((with_reducible refine (law14_local _ _).mono ?_); rintro e w1 ⟨rfl, hb1⟩; obtain ⟨x1, rfl⟩ := ext_of_grow hb1; clear hb1)))
    exact hK' _ _ ⟨rfl, Gw.h⟩
  obtain ⟨rfl, hg⟩ := h
  obtain ⟨x29, rfl⟩ := ext_of_grow hg
  clear hg
  refine st_val S (Op.build 28 #[(0, .const (.int .u8 2)), (2, .const (.agg #[.int .i64 1, .bool false, .int .u8 0]))]) (.agg #[.int .u8 2, .int .i64 0, .int .i64 1, .bool false, .int .u8 0]) rfl rfl (wanted_none rfl _) (by simp [execOp, resolve, S.g 245 rfl, ev_c, ev_f]) ?_ (fun a S => ?_)
  · intro K' hK'
    go_wp2_with fail
    exact hK'
  refine st_any S (Op.alloc 28) (fun u w'' => ∃ b, u = .pointer (some ⟨b, 0, none⟩) ∧ b = (ext (Wa w) x29).heap.size ∧ w'' = (ext (Wa w) x29).alloc (.cells #[.int .u8 0, .int .i64 0, .int .i64 0, .bool false, .int .u8 0] 28)) rfl rfl (wanted_none rfl _) (by simp [execOp, resolve, ev_c, ev_f]) ?_ (fun u w'' a h S => ?_)
  · intro K' hK'
    go_wp2_with (fail)
    exact hK' _ _ ⟨_, rfl, by first | rfl | (simp only [size_ext, alloc_size]; done) | (simp only [size_ext, alloc_size]; omega), rfl⟩
  obtain ⟨p21, rfl, hp21, rfl⟩ := h
  haveI ep21 : EqW p21 (ext (Wa w) x29) := ⟨hp21⟩
  clear hp21
  refine st_any S (Op.alloc 28) (fun u w'' => ∃ b, u = .pointer (some ⟨b, 0, none⟩) ∧ b = ((ext (Wa w) x29).alloc (.cells #[.int .u8 0, .int .i64 0, .int .i64 0, .bool false, .int .u8 0] 28)).heap.size ∧ w'' = ((ext (Wa w) x29).alloc (.cells #[.int .u8 0, .int .i64 0, .int .i64 0, .bool false, .int .u8 0] 28)).alloc (.cells #[.int .u8 0, .int .i64 0, .int .i64 0, .bool false, .int .u8 0] 28)) rfl rfl (wanted_none rfl _) (by simp [execOp, resolve, ev_c, ev_f]) ?_ (fun u w'' a h S => ?_)
  · intro K' hK'
    go_wp2_with (fail)
    exact hK' _ _ ⟨_, rfl, by first | rfl | (simp only [size_ext, alloc_size]; done) | (simp only [size_ext, alloc_size]; omega), rfl⟩
  obtain ⟨p22, rfl, hp22, rfl⟩ := h
  haveI ep22 : EqW p22 ((ext (Wa w) x29).alloc (.cells #[.int .u8 0, .int .i64 0, .int .i64 0, .bool false, .int .u8 0] 28)) := ⟨hp22⟩
  clear hp22
  refine st_put S (Op.store 28 (.const (.pointer (some ⟨p21, 0, none⟩))) (.const (.agg #[.int .u8 3, .int .i64 0, .int .i64 2, .bool false, .int .u8 0]))) (((ext (Wa w) x29).alloc (.cells #[.int .u8 3, .int .i64 0, .int .i64 2, .bool false, .int .u8 0] 28)).alloc (.cells #[.int .u8 0, .int .i64 0, .int .i64 0, .bool false, .int .u8 0] 28)) rfl (wanted_none rfl _) (by simp [execOp, resolve, S.g 21 rfl, S.g 244 rfl, ev_c, ev_f]) ?_ (fun a S => ?_)
  · intro K' hK'
    go_wp2_with fail
    exact hK' _
  replace ep22 : EqW p22 ((ext (Wa w) x29).alloc (.cells #[.int .u8 3, .int .i64 0, .int .i64 2, .bool false, .int .u8 0] 28)) := ⟨ep22.eq.trans (by simp only [alloc_size, size_ext])⟩
  refine st_put S (Op.store 28 (.const (.pointer (some ⟨p22, 0, none⟩))) (.const (.agg #[.int .u8 2, .int .i64 0, .int .i64 1, .bool false, .int .u8 0]))) (((ext (Wa w) x29).alloc (.cells #[.int .u8 3, .int .i64 0, .int .i64 2, .bool false, .int .u8 0] 28)).alloc (.cells #[.int .u8 2, .int .i64 0, .int .i64 1, .bool false, .int .u8 0] 28)) rfl (wanted_none rfl _) (by simp [execOp, resolve, S.g 22 rfl, S.g 246 rfl, ev_c, ev_f]) ?_ (fun a S => ?_)
  · intro K' hK'
    go_wp2_with fail
    exact hK' _
  replace S : St8 a 383 _ := ⟨S.size, S.defers, Lk.cons (S.g 16 rfl) (Lk.cons (S.g 19 rfl) (Lk.cons (S.g 20 rfl) (Lk.cons (S.g 21 rfl) (Lk.cons (S.g 22 rfl) (Lk.nil)))))⟩
  go_upto_region 20 with fail
  refine wp_region_parts (by kernel_rfl) (fun w0 hg0 => ?_)
  obtain ⟨x0, rfl⟩ := ext_of_grow (Grow.trans (Gw.h : Grow (Wb w x29) _) hg0)
  clear hg0
  refine region_part' 0 7 383 (by kernel_rfl) S.size (by kernel_rfl) (ph20 w w) (ph20_stay w w) (fun i h1 h2 vs w' A hg hΦ hin hout hsz K hK => ?_) (fun vs1 w' a1 ha1 hg hΦ hin hout hN1 => ?_)
  · obtain ⟨xq, rfl⟩ := ext_of_grow (Grow.trans (Gw.h : Grow (Wb w x29) _) hg)
    clear hg
    obtain rfl | rfl | rfl | rfl | rfl | rfl | rfl : i = 0 ∨ i = 1 ∨ i = 2 ∨ i = 3 ∨ i = 4 ∨ i = 5 ∨ i = 6 := by omega
    · have e21 := hout 21 _ (by kernel_rfl) (S.g 21 rfl)
      refine ⟨_, rfl, ?_⟩
      refine wp_tiny (Op.load 28 (.const (.pointer (some ⟨p21, 0, none⟩)))) (R := fun u w'' => Grow (ext (Wb w x29) xq) w'' ∧ ph20 w w 0 u w'') (wanted_none rfl _) (by simp [execOp, resolve, e21, ev_c, ev_f]) ?_ (fun u w'' h => hK u w'' h.1 h.2)
      clear hK
      intro K' hK'
      go_wp2_with (fail)
      exact hK' _ _ ⟨Gw.h, rfl⟩
    · have e22 := hout 22 _ (by kernel_rfl) (S.g 22 rfl)
      refine ⟨_, rfl, ?_⟩
      refine wp_tiny (Op.load 28 (.const (.pointer (some ⟨p22, 0, none⟩)))) (R := fun u w'' => Grow (ext (Wb w x29) xq) w'' ∧ ph20 w w 1 u w'') (wanted_none rfl _) (by simp [execOp, resolve, e22, ev_c, ev_f]) ?_ (fun u w'' h => hK u w'' h.1 h.2)
      clear hK
      intro K' hK'
      go_wp2_with (fail)
      exact hK' _ _ ⟨Gw.h, rfl⟩
    · have e247 : A.eval (.tmp 247) = .agg #[.int .u8 3, .int .i64 0, .int .i64 2, .bool false, .int .u8 0] := (hin 0 247 (by omega) (by omega) (by kernel_rfl)).trans (hΦ 0 (List.mem_of_elem_eq_true (by kernel_rfl)) (by omega))
      have e248 : A.eval (.tmp 248) = .agg #[.int .u8 2, .int .i64 0, .int .i64 1, .bool false, .int .u8 0] := (hin 1 248 (by omega) (by omega) (by kernel_rfl)).trans (hΦ 1 (List.mem_of_elem_eq_true (by kernel_rfl)) (by omega))
      refine ⟨_, rfl, ?_⟩
      refine wp_tiny (Op.buildSlice 40 2 #[(0, .const (.agg #[.int .u8 3, .int .i64 0, .int .i64 2, .bool false, .int .u8 0])), (1, .const (.agg #[.int .u8 2, .int .i64 0, .int .i64 1, .bool false, .int .u8 0]))]) (R := fun u w'' => Grow (ext (Wb w x29) xq) w'' ∧ ph20 w w 2 u w'') (wanted_none rfl _) (by simp [execOp, resolve, e247, e248, ev_c, ev_f]) ?_ (fun u w'' h => hK u w'' h.1 h.2)
      clear hK
      intro K' hK'
      go_wp2_with (fail)
      exact hK' _ _ ⟨Gw.h, _, rfl, sl_opds [mvA, prA] (opds_wf (by decide)) (heap_newE (by simp only [size_ext, alloc_size])) (by rfl) (by decide)⟩
    · refine ⟨_, rfl, ?_⟩
      refine wp_tiny (Op.call { callee := Callee.value (Operand.func 7), args := #[.const (.int .i64 0)], argTypes := #[3] }) (R := fun u w'' => Grow (ext (Wb w x29) xq) w'' ∧ ph20 w w 3 u w'') (wanted_none rfl _) (by simp [execOp, resolve, ev_c, ev_f]) ?_ (fun u w'' h => hK u w'' h.1 h.2)
      clear hK
      intro K' hK'
      go_wp2_with ((go_at_call 7; ((with_reducible refine (law14_local _ _).mono ?_); rintro e w1 ⟨rfl, hb1⟩; obtain ⟨x1, rfl⟩ := ext_of_grow hb1; clear hb1)))
      exact hK' _ _ ⟨Gw.h, rfl⟩
    · obtain ⟨s249, z249, hs249⟩ := (hΦ 2 (List.mem_of_elem_eq_true (by kernel_rfl)) (by omega))
      have e249 : A.eval (.tmp 249) = .slice (some ⟨s249, 0, none⟩) 2 2 := (hin 2 249 (by omega) (by omega) (by kernel_rfl)).trans z249
      clear z249
      have e250 : A.eval (.tmp 250) = .agg #[.int .i64 0, .bool false, .int .u8 0] := (hin 3 250 (by omega) (by omega) (by kernel_rfl)).trans (hΦ 3 (List.mem_of_elem_eq_true (by kernel_rfl)) (by omega))
      refine ⟨_, rfl, ?_⟩
      refine wp_tiny (Op.call { callee := Callee.value (Operand.func 10), args := #[.const (.slice (some ⟨s249, 0, none⟩) 2 2), .const (.agg #[.int .i64 0, .bool false, .int .u8 0])], argTypes := #[40, 26] }) (R := fun u w'' => Grow (ext (Wb w x29) xq) w'' ∧ ph20 w w 4 u w'') (wanted_none rfl _) (by simp [execOp, resolve, e249, e250, ev_c, ev_f]) ?_ (fun u w'' h => hK u w'' h.1 h.2)
      clear hK
      intro K' hK'
      go_wp2_with ((go_at_call 10; ((with_reducible refine (called_is _ _ cl0 (pl_wfd (by decide) (by decide)) hs249).mono ?_); rintro e w1 ⟨rfl, hb1⟩; obtain ⟨x1, rfl⟩ := ext_of_grow hb1; clear hb1)))
      exact hK' _ _ ⟨Gw.h, rfl⟩
    · have e251 : A.eval (.tmp 251) = .int .i64 0 := (hin 4 251 (by omega) (by omega) (by kernel_rfl)).trans (hΦ 4 (List.mem_of_elem_eq_true (by kernel_rfl)) (by omega))
      refine ⟨_, rfl, ?_⟩
      refine wp_tiny (Op.binOp BinOp.eql 29 (.const (.int .i64 0)) (.const (.int .i64 0)) 29) (R := fun u w'' => Grow (ext (Wb w x29) xq) w'' ∧ ph20 w w 5 u w'') (wanted_none rfl _) (by simp [execOp, resolve, e251, ev_c, ev_f, eqGuard]) ?_ (fun u w'' h => hK u w'' h.1 h.2)
      clear hK
      intro K' hK'
      go_wp2_with (fail)
      exact hK' _ _ ⟨Gw.h, rfl⟩
    · have e252 : A.eval (.tmp 252) = .bool true := (hin 5 252 (by omega) (by omega) (by kernel_rfl)).trans (hΦ 5 (List.mem_of_elem_eq_true (by kernel_rfl)) (by omega))
      refine ⟨_, rfl, ?_⟩
      refine wp_tiny (Op.move (.const (.bool true))) (R := fun u w'' => Grow (ext (Wb w x29) xq) w'' ∧ ph20 w w 6 u w'') (wanted_none rfl _) (by simp [execOp, resolve, e252, ev_c, ev_f]) ?_ (fun u w'' h => hK u w'' h.1 h.2)
      clear hK
      intro K' hK'
      go_wp2_with (fail)
      exact hK' _ _ ⟨Gw.h, rfl⟩
  obtain ⟨x1, rfl⟩ := ext_of_grow (Grow.trans (Gw.h : Grow (Wb w x29) _) hg)
  replace S : St8 a1 383 _ := ⟨hN1, by rw [ha1.out, defers_putAll]; exact S.defers, Lk.cons (hout 16 _ (by kernel_rfl) (S.g 16 rfl)) (Lk.cons (hout 19 _ (by kernel_rfl) (S.g 19 rfl)) (Lk.cons (hout 20 _ (by kernel_rfl) (S.g 20 rfl)) (Lk.cons (hout 21 _ (by kernel_rfl) (S.g 21 rfl)) (Lk.cons (hout 22 _ (by kernel_rfl) (S.g 22 rfl)) (Lk.cons ((hin 6 253 (by omega) (by omega) (by kernel_rfl)).trans (hΦ 6 (by omega) (by omega))) (Lk.nil))))))⟩
  clear hg hΦ hin hout hN1 ha1
  refine region_part' 7 15 383 (by kernel_rfl) S.size (by kernel_rfl) (ph20 w w) (ph20_stay w w) (fun i h1 h2 vs w' A hg hΦ hin hout hsz K hK => ?_) (fun vs2 w' a2 ha2 hg hΦ hin hout hN2 => ?_)
  · obtain ⟨xq, rfl⟩ := ext_of_grow (Grow.trans (Gw.h : Grow (Wb w x29) _) hg)
    clear hg
    obtain rfl | rfl | rfl | rfl | rfl | rfl | rfl | rfl : i = 7 ∨ i = 8 ∨ i = 9 ∨ i = 10 ∨ i = 11 ∨ i = 12 ∨ i = 13 ∨ i = 14 := by omega
    · have e22 := hout 22 _ (by kernel_rfl) (S.g 22 rfl)
      refine ⟨_, rfl, ?_⟩
      refine wp_tiny (Op.load 28 (.const (.pointer (some ⟨p22, 0, none⟩)))) (R := fun u w'' => Grow (ext (Wb w x29) xq) w'' ∧ ph20 w w 7 u w'') (wanted_at (g := 6) (d := 253) (b := true) rfl rfl rfl (by rw [hsz]; decide) (hout 253 _ (by kernel_rfl) (S.g 253 rfl))) (by simp [execOp, resolve, e22, ev_c, ev_f]) ?_ (fun u w'' h => hK u w'' h.1 h.2)
      clear hK
      intro K' hK'
      go_wp2_with (fail)
      exact hK' _ _ ⟨Gw.h, rfl⟩
    · have e21 := hout 21 _ (by kernel_rfl) (S.g 21 rfl)
      refine ⟨_, rfl, ?_⟩
      refine wp_tiny (Op.load 28 (.const (.pointer (some ⟨p21, 0, none⟩)))) (R := fun u w'' => Grow (ext (Wb w x29) xq) w'' ∧ ph20 w w 8 u w'') (wanted_at (g := 6) (d := 253) (b := true) rfl rfl rfl (by rw [hsz]; decide) (hout 253 _ (by kernel_rfl) (S.g 253 rfl))) (by simp [execOp, resolve, e21, ev_c, ev_f]) ?_ (fun u w'' h => hK u w'' h.1 h.2)
      clear hK
      intro K' hK'
      go_wp2_with (fail)
      exact hK' _ _ ⟨Gw.h, rfl⟩
    · have e254 : A.eval (.tmp 254) = .agg #[.int .u8 2, .int .i64 0, .int .i64 1, .bool false, .int .u8 0] := (hin 7 254 (by omega) (by omega) (by kernel_rfl)).trans (hΦ 7 (List.mem_of_elem_eq_true (by kernel_rfl)) (by omega))
      have e255 : A.eval (.tmp 255) = .agg #[.int .u8 3, .int .i64 0, .int .i64 2, .bool false, .int .u8 0] := (hin 8 255 (by omega) (by omega) (by kernel_rfl)).trans (hΦ 8 (List.mem_of_elem_eq_true (by kernel_rfl)) (by omega))
      refine ⟨_, rfl, ?_⟩
      refine wp_tiny (Op.buildSlice 40 2 #[(0, .const (.agg #[.int .u8 2, .int .i64 0, .int .i64 1, .bool false, .int .u8 0])), (1, .const (.agg #[.int .u8 3, .int .i64 0, .int .i64 2, .bool false, .int .u8 0]))]) (R := fun u w'' => Grow (ext (Wb w x29) xq) w'' ∧ ph20 w w 9 u w'') (wanted_at (g := 6) (d := 253) (b := true) rfl rfl rfl (by rw [hsz]; decide) (hout 253 _ (by kernel_rfl) (S.g 253 rfl))) (by simp [execOp, resolve, e254, e255, ev_c, ev_f]) ?_ (fun u w'' h => hK u w'' h.1 h.2)
      clear hK
      intro K' hK'
      go_wp2_with (fail)
      exact hK' _ _ ⟨Gw.h, _, rfl, sl_opds [prA, mvA] (opds_wf (by decide)) (heap_newE (by simp only [size_ext, alloc_size])) (by rfl) (by decide)⟩
    · refine ⟨_, rfl, ?_⟩
      refine wp_tiny (Op.call { callee := Callee.value (Operand.func 7), args := #[.const (.int .i64 0)], argTypes := #[3] }) (R := fun u w'' => Grow (ext (Wb w x29) xq) w'' ∧ ph20 w w 10 u w'') (wanted_at (g := 6) (d := 253) (b := true) rfl rfl rfl (by rw [hsz]; decide) (hout 253 _ (by kernel_rfl) (S.g 253 rfl))) (by simp [execOp, resolve, ev_c, ev_f]) ?_ (fun u w'' h => hK u w'' h.1 h.2)
      clear hK
      intro K' hK'
      go_wp2_with ((go_at_call 7; ((with_reducible refine (law14_local _ _).mono ?_); rintro e w1 ⟨rfl, hb1⟩; obtain ⟨x1, rfl⟩ := ext_of_grow hb1; clear hb1)))
      exact hK' _ _ ⟨Gw.h, rfl⟩
    · obtain ⟨s256, z256, hs256⟩ := (hΦ 9 (List.mem_of_elem_eq_true (by kernel_rfl)) (by omega))
      have e256 : A.eval (.tmp 256) = .slice (some ⟨s256, 0, none⟩) 2 2 := (hin 9 256 (by omega) (by omega) (by kernel_rfl)).trans z256
      clear z256
      have e257 : A.eval (.tmp 257) = .agg #[.int .i64 0, .bool false, .int .u8 0] := (hin 10 257 (by omega) (by omega) (by kernel_rfl)).trans (hΦ 10 (List.mem_of_elem_eq_true (by kernel_rfl)) (by omega))
      refine ⟨_, rfl, ?_⟩
      refine wp_tiny (Op.call { callee := Callee.value (Operand.func 10), args := #[.const (.slice (some ⟨s256, 0, none⟩) 2 2), .const (.agg #[.int .i64 0, .bool false, .int .u8 0])], argTypes := #[40, 26] }) (R := fun u w'' => Grow (ext (Wb w x29) xq) w'' ∧ ph20 w w 11 u w'') (wanted_at (g := 6) (d := 253) (b := true) rfl rfl rfl (by rw [hsz]; decide) (hout 253 _ (by kernel_rfl) (S.g 253 rfl))) (by simp [execOp, resolve, e256, e257, ev_c, ev_f]) ?_ (fun u w'' h => hK u w'' h.1 h.2)
      clear hK
      intro K' hK'
      go_wp2_with ((go_at_call 10; ((with_reducible refine (called_is _ _ cl1 (pl_wfd (by decide) (by decide)) hs256).mono ?_); rintro e w1 ⟨rfl, hb1⟩; obtain ⟨x1, rfl⟩ := ext_of_grow hb1; clear hb1)))
      exact hK' _ _ ⟨Gw.h, rfl⟩
    · have e258 : A.eval (.tmp 258) = .int .i64 42 := (hin 11 258 (by omega) (by omega) (by kernel_rfl)).trans (hΦ 11 (List.mem_of_elem_eq_true (by kernel_rfl)) (by omega))
      refine ⟨_, rfl, ?_⟩
      refine wp_tiny (Op.binOp BinOp.eql 29 (.const (.int .i64 42)) (.const (.int .i64 42)) 29) (R := fun u w'' => Grow (ext (Wb w x29) xq) w'' ∧ ph20 w w 12 u w'') (wanted_at (g := 6) (d := 253) (b := true) rfl rfl rfl (by rw [hsz]; decide) (hout 253 _ (by kernel_rfl) (S.g 253 rfl))) (by simp [execOp, resolve, e258, ev_c, ev_f, eqGuard]) ?_ (fun u w'' h => hK u w'' h.1 h.2)
      clear hK
      intro K' hK'
      go_wp2_with (fail)
      exact hK' _ _ ⟨Gw.h, rfl⟩
    · have e253 := hout 253 _ (by kernel_rfl) (S.g 253 rfl)
      have e259 : A.eval (.tmp 259) = .bool true := (hin 12 259 (by omega) (by omega) (by kernel_rfl)).trans (hΦ 12 (List.mem_of_elem_eq_true (by kernel_rfl)) (by omega))
      refine ⟨_, rfl, ?_⟩
      refine wp_tiny (Op.pick (.const (.bool true)) (.const (.bool true)) (.const (.bool false))) (R := fun u w'' => Grow (ext (Wb w x29) xq) w'' ∧ ph20 w w 13 u w'') (wanted_none rfl _) (by simp [execOp, resolve, e253, e259, ev_c, ev_f]) ?_ (fun u w'' h => hK u w'' h.1 h.2)
      clear hK
      intro K' hK'
      go_wp2_with (fail)
      exact hK' _ _ ⟨Gw.h, rfl⟩
    · have e260 : A.eval (.tmp 260) = .bool true := (hin 13 260 (by omega) (by omega) (by kernel_rfl)).trans (hΦ 13 (List.mem_of_elem_eq_true (by kernel_rfl)) (by omega))
      refine ⟨_, rfl, ?_⟩
      refine wp_tiny (Op.move (.const (.bool true))) (R := fun u w'' => Grow (ext (Wb w x29) xq) w'' ∧ ph20 w w 14 u w'') (wanted_none rfl _) (by simp [execOp, resolve, e260, ev_c, ev_f]) ?_ (fun u w'' h => hK u w'' h.1 h.2)
      clear hK
      intro K' hK'
      go_wp2_with (fail)
      exact hK' _ _ ⟨Gw.h, rfl⟩
  obtain ⟨x2, rfl⟩ := ext_of_grow (Grow.trans (Gw.h : Grow (Wb w x29) _) hg)
  replace S : St8 a2 383 _ := ⟨hN2, by rw [ha2.out, defers_putAll]; exact S.defers, Lk.cons (hout 16 _ (by kernel_rfl) (S.g 16 rfl)) (Lk.cons (hout 19 _ (by kernel_rfl) (S.g 19 rfl)) (Lk.cons (hout 20 _ (by kernel_rfl) (S.g 20 rfl)) (Lk.cons (hout 21 _ (by kernel_rfl) (S.g 21 rfl)) (Lk.cons (hout 22 _ (by kernel_rfl) (S.g 22 rfl)) (Lk.cons ((hin 14 261 (by omega) (by omega) (by kernel_rfl)).trans (hΦ 14 (by omega) (by omega))) (Lk.nil))))))⟩
  clear hg hΦ hin hout hN2 ha2
  refine region_part' 15 22 383 (by kernel_rfl) S.size (by kernel_rfl) (ph20 w w) (ph20_stay w w) (fun i h1 h2 vs w' A hg hΦ hin hout hsz K hK => ?_) (fun vs3 w' a3 ha3 hg hΦ hin hout hN3 => ?_)
  · obtain ⟨xq, rfl⟩ := ext_of_grow (Grow.trans (Gw.h : Grow (Wb w x29) _) hg)
    clear hg
    obtain rfl | rfl | rfl | rfl | rfl | rfl | rfl : i = 15 ∨ i = 16 ∨ i = 17 ∨ i = 18 ∨ i = 19 ∨ i = 20 ∨ i = 21 := by omega
    · have e21 := hout 21 _ (by kernel_rfl) (S.g 21 rfl)
      refine ⟨_, rfl, ?_⟩
      refine wp_tiny (Op.load 28 (.const (.pointer (some ⟨p21, 0, none⟩)))) (R := fun u w'' => Grow (ext (Wb w x29) xq) w'' ∧ ph20 w w 15 u w'') (wanted_at (g := 14) (d := 261) (b := true) rfl rfl rfl (by rw [hsz]; decide) (hout 261 _ (by kernel_rfl) (S.g 261 rfl))) (by simp [execOp, resolve, e21, ev_c, ev_f]) ?_ (fun u w'' h => hK u w'' h.1 h.2)
      clear hK
      intro K' hK'
      go_wp2_with (fail)
      exact hK' _ _ ⟨Gw.h, rfl⟩
    · have e262 : A.eval (.tmp 262) = .agg #[.int .u8 3, .int .i64 0, .int .i64 2, .bool false, .int .u8 0] := (hin 15 262 (by omega) (by omega) (by kernel_rfl)).trans (hΦ 15 (List.mem_of_elem_eq_true (by kernel_rfl)) (by omega))
      refine ⟨_, rfl, ?_⟩
      refine wp_tiny (Op.buildSlice 40 1 #[(0, .const (.agg #[.int .u8 3, .int .i64 0, .int .i64 2, .bool false, .int .u8 0]))]) (R := fun u w'' => Grow (ext (Wb w x29) xq) w'' ∧ ph20 w w 16 u w'') (wanted_at (g := 14) (d := 261) (b := true) rfl rfl rfl (by rw [hsz]; decide) (hout 261 _ (by kernel_rfl) (S.g 261 rfl))) (by simp [execOp, resolve, e262, ev_c, ev_f]) ?_ (fun u w'' h => hK u w'' h.1 h.2)
      clear hK
      intro K' hK'
      go_wp2_with (fail)
      exact hK' _ _ ⟨Gw.h, _, rfl, sl_opds [mvA] (opds_wf (by decide)) (heap_newE (by simp only [size_ext, alloc_size])) (by rfl) (by decide)⟩
    · refine ⟨_, rfl, ?_⟩
      refine wp_tiny (Op.call { callee := Callee.value (Operand.func 7), args := #[.const (.int .i64 0)], argTypes := #[3] }) (R := fun u w'' => Grow (ext (Wb w x29) xq) w'' ∧ ph20 w w 17 u w'') (wanted_at (g := 14) (d := 261) (b := true) rfl rfl rfl (by rw [hsz]; decide) (hout 261 _ (by kernel_rfl) (S.g 261 rfl))) (by simp [execOp, resolve, ev_c, ev_f]) ?_ (fun u w'' h => hK u w'' h.1 h.2)
      clear hK
      intro K' hK'
      go_wp2_with ((go_at_call 7; ((with_reducible refine (law14_local _ _).mono ?_); rintro e w1 ⟨rfl, hb1⟩; obtain ⟨x1, rfl⟩ := ext_of_grow hb1; clear hb1)))
      exact hK' _ _ ⟨Gw.h, rfl⟩
    · obtain ⟨s263, z263, hs263⟩ := (hΦ 16 (List.mem_of_elem_eq_true (by kernel_rfl)) (by omega))
      have e263 : A.eval (.tmp 263) = .slice (some ⟨s263, 0, none⟩) 1 1 := (hin 16 263 (by omega) (by omega) (by kernel_rfl)).trans z263
      clear z263
      have e264 : A.eval (.tmp 264) = .agg #[.int .i64 0, .bool false, .int .u8 0] := (hin 17 264 (by omega) (by omega) (by kernel_rfl)).trans (hΦ 17 (List.mem_of_elem_eq_true (by kernel_rfl)) (by omega))
      refine ⟨_, rfl, ?_⟩
      refine wp_tiny (Op.call { callee := Callee.value (Operand.func 10), args := #[.const (.slice (some ⟨s263, 0, none⟩) 1 1), .const (.agg #[.int .i64 0, .bool false, .int .u8 0])], argTypes := #[40, 26] }) (R := fun u w'' => Grow (ext (Wb w x29) xq) w'' ∧ ph20 w w 18 u w'') (wanted_at (g := 14) (d := 261) (b := true) rfl rfl rfl (by rw [hsz]; decide) (hout 261 _ (by kernel_rfl) (S.g 261 rfl))) (by simp [execOp, resolve, e263, e264, ev_c, ev_f]) ?_ (fun u w'' h => hK u w'' h.1 h.2)
      clear hK
      intro K' hK'
      go_wp2_with ((go_at_call 10; ((with_reducible refine (called_is _ _ cl2 (pl_wfd (by decide) (by decide)) hs263).mono ?_); rintro e w1 ⟨rfl, hb1⟩; obtain ⟨x1, rfl⟩ := ext_of_grow hb1; clear hb1)))
      exact hK' _ _ ⟨Gw.h, rfl⟩
    · have e265 : A.eval (.tmp 265) = .int .i64 42 := (hin 18 265 (by omega) (by omega) (by kernel_rfl)).trans (hΦ 18 (List.mem_of_elem_eq_true (by kernel_rfl)) (by omega))
      refine ⟨_, rfl, ?_⟩
      refine wp_tiny (Op.binOp BinOp.eql 29 (.const (.int .i64 42)) (.const (.int .i64 42)) 29) (R := fun u w'' => Grow (ext (Wb w x29) xq) w'' ∧ ph20 w w 19 u w'') (wanted_at (g := 14) (d := 261) (b := true) rfl rfl rfl (by rw [hsz]; decide) (hout 261 _ (by kernel_rfl) (S.g 261 rfl))) (by simp [execOp, resolve, e265, ev_c, ev_f, eqGuard]) ?_ (fun u w'' h => hK u w'' h.1 h.2)
      clear hK
      intro K' hK'
      go_wp2_with (fail)
      exact hK' _ _ ⟨Gw.h, rfl⟩
    · have e261 := hout 261 _ (by kernel_rfl) (S.g 261 rfl)
      have e266 : A.eval (.tmp 266) = .bool true := (hin 19 266 (by omega) (by omega) (by kernel_rfl)).trans (hΦ 19 (List.mem_of_elem_eq_true (by kernel_rfl)) (by omega))
      refine ⟨_, rfl, ?_⟩
      refine wp_tiny (Op.pick (.const (.bool true)) (.const (.bool true)) (.const (.bool false))) (R := fun u w'' => Grow (ext (Wb w x29) xq) w'' ∧ ph20 w w 20 u w'') (wanted_none rfl _) (by simp [execOp, resolve, e261, e266, ev_c, ev_f]) ?_ (fun u w'' h => hK u w'' h.1 h.2)
      clear hK
      intro K' hK'
      go_wp2_with (fail)
      exact hK' _ _ ⟨Gw.h, rfl⟩
    · have e267 : A.eval (.tmp 267) = .bool true := (hin 20 267 (by omega) (by omega) (by kernel_rfl)).trans (hΦ 20 (List.mem_of_elem_eq_true (by kernel_rfl)) (by omega))
      refine ⟨_, rfl, ?_⟩
      refine wp_tiny (Op.move (.const (.bool true))) (R := fun u w'' => Grow (ext (Wb w x29) xq) w'' ∧ ph20 w w 21 u w'') (wanted_none rfl _) (by simp [execOp, resolve, e267, ev_c, ev_f]) ?_ (fun u w'' h => hK u w'' h.1 h.2)
      clear hK
      intro K' hK'
      go_wp2_with (fail)
      exact hK' _ _ ⟨Gw.h, rfl⟩
  obtain ⟨x3, rfl⟩ := ext_of_grow (Grow.trans (Gw.h : Grow (Wb w x29) _) hg)
  replace S : St8 a3 383 _ := ⟨hN3, by rw [ha3.out, defers_putAll]; exact S.defers, Lk.cons (hout 16 _ (by kernel_rfl) (S.g 16 rfl)) (Lk.cons (hout 19 _ (by kernel_rfl) (S.g 19 rfl)) (Lk.cons (hout 20 _ (by kernel_rfl) (S.g 20 rfl)) (Lk.cons (hout 21 _ (by kernel_rfl) (S.g 21 rfl)) (Lk.cons (hout 22 _ (by kernel_rfl) (S.g 22 rfl)) (Lk.cons ((hin 21 268 (by omega) (by omega) (by kernel_rfl)).trans (hΦ 21 (by omega) (by omega))) (Lk.nil))))))⟩
  clear hg hΦ hin hout hN3 ha3
  refine region_part' 22 31 383 (by kernel_rfl) S.size (by kernel_rfl) (ph20 w w) (ph20_stay w w) (fun i h1 h2 vs w' A hg hΦ hin hout hsz K hK => ?_) (fun vs4 w' a4 ha4 hg hΦ hin hout hN4 => ?_)
  · obtain ⟨xq, rfl⟩ := ext_of_grow (Grow.trans (Gw.h : Grow (Wb w x29) _) hg)
    clear hg
    obtain rfl | rfl | rfl | rfl | rfl | rfl | rfl | rfl | rfl : i = 22 ∨ i = 23 ∨ i = 24 ∨ i = 25 ∨ i = 26 ∨ i = 27 ∨ i = 28 ∨ i = 29 ∨ i = 30 := by omega
    · have e21 := hout 21 _ (by kernel_rfl) (S.g 21 rfl)
      refine ⟨_, rfl, ?_⟩
      refine wp_tiny (Op.load 28 (.const (.pointer (some ⟨p21, 0, none⟩)))) (R := fun u w'' => Grow (ext (Wb w x29) xq) w'' ∧ ph20 w w 22 u w'') (wanted_at (g := 21) (d := 268) (b := true) rfl rfl rfl (by rw [hsz]; decide) (hout 268 _ (by kernel_rfl) (S.g 268 rfl))) (by simp [execOp, resolve, e21, ev_c, ev_f]) ?_ (fun u w'' h => hK u w'' h.1 h.2)
      clear hK
      intro K' hK'
      go_wp2_with (fail)
      exact hK' _ _ ⟨Gw.h, rfl⟩
    · have e22 := hout 22 _ (by kernel_rfl) (S.g 22 rfl)
      refine ⟨_, rfl, ?_⟩
      refine wp_tiny (Op.load 28 (.const (.pointer (some ⟨p22, 0, none⟩)))) (R := fun u w'' => Grow (ext (Wb w x29) xq) w'' ∧ ph20 w w 23 u w'') (wanted_at (g := 21) (d := 268) (b := true) rfl rfl rfl (by rw [hsz]; decide) (hout 268 _ (by kernel_rfl) (S.g 268 rfl))) (by simp [execOp, resolve, e22, ev_c, ev_f]) ?_ (fun u w'' h => hK u w'' h.1 h.2)
      clear hK
      intro K' hK'
      go_wp2_with (fail)
      exact hK' _ _ ⟨Gw.h, rfl⟩
    · have e22 := hout 22 _ (by kernel_rfl) (S.g 22 rfl)
      refine ⟨_, rfl, ?_⟩
      refine wp_tiny (Op.load 28 (.const (.pointer (some ⟨p22, 0, none⟩)))) (R := fun u w'' => Grow (ext (Wb w x29) xq) w'' ∧ ph20 w w 24 u w'') (wanted_at (g := 21) (d := 268) (b := true) rfl rfl rfl (by rw [hsz]; decide) (hout 268 _ (by kernel_rfl) (S.g 268 rfl))) (by simp [execOp, resolve, e22, ev_c, ev_f]) ?_ (fun u w'' h => hK u w'' h.1 h.2)
      clear hK
      intro K' hK'
      go_wp2_with (fail)
      exact hK' _ _ ⟨Gw.h, rfl⟩
    · have e269 : A.eval (.tmp 269) = .agg #[.int .u8 3, .int .i64 0, .int .i64 2, .bool false, .int .u8 0] := (hin 22 269 (by omega) (by omega) (by kernel_rfl)).trans (hΦ 22 (List.mem_of_elem_eq_true (by kernel_rfl)) (by omega))
      have e270 : A.eval (.tmp 270) = .agg #[.int .u8 2, .int .i64 0, .int .i64 1, .bool false, .int .u8 0] := (hin 23 270 (by omega) (by omega) (by kernel_rfl)).trans (hΦ 23 (List.mem_of_elem_eq_true (by kernel_rfl)) (by omega))
      have e271 : A.eval (.tmp 271) = .agg #[.int .u8 2, .int .i64 0, .int .i64 1, .bool false, .int .u8 0] := (hin 24 271 (by omega) (by omega) (by kernel_rfl)).trans (hΦ 24 (List.mem_of_elem_eq_true (by kernel_rfl)) (by omega))
      refine ⟨_, rfl, ?_⟩
      refine wp_tiny (Op.buildSlice 40 3 #[(0, .const (.agg #[.int .u8 3, .int .i64 0, .int .i64 2, .bool false, .int .u8 0])), (1, .const (.agg #[.int .u8 2, .int .i64 0, .int .i64 1, .bool false, .int .u8 0])), (2, .const (.agg #[.int .u8 2, .int .i64 0, .int .i64 1, .bool false, .int .u8 0]))]) (R := fun u w'' => Grow (ext (Wb w x29) xq) w'' ∧ ph20 w w 25 u w'') (wanted_at (g := 21) (d := 268) (b := true) rfl rfl rfl (by rw [hsz]; decide) (hout 268 _ (by kernel_rfl) (S.g 268 rfl))) (by simp [execOp, resolve, e269, e270, e271, ev_c, ev_f]) ?_ (fun u w'' h => hK u w'' h.1 h.2)
      clear hK
      intro K' hK'
      go_wp2_with (fail)
      exact hK' _ _ ⟨Gw.h, _, rfl, sl_opds [mvA, prA, prA] (opds_wf (by decide)) (heap_newE (by simp only [size_ext, alloc_size])) (by rfl) (by decide)⟩
    · refine ⟨_, rfl, ?_⟩
      refine wp_tiny (Op.call { callee := Callee.value (Operand.func 7), args := #[.const (.int .i64 0)], argTypes := #[3] }) (R := fun u w'' => Grow (ext (Wb w x29) xq) w'' ∧ ph20 w w 26 u w'') (wanted_at (g := 21) (d := 268) (b := true) rfl rfl rfl (by rw [hsz]; decide) (hout 268 _ (by kernel_rfl) (S.g 268 rfl))) (by simp [execOp, resolve, ev_c, ev_f]) ?_ (fun u w'' h => hK u w'' h.1 h.2)
      clear hK
      intro K' hK'
      go_wp2_with ((go_at_call 7; ((with_reducible refine (law14_local _ _).mono ?_); rintro e w1 ⟨rfl, hb1⟩; obtain ⟨x1, rfl⟩ := ext_of_grow hb1; clear hb1)))
      exact hK' _ _ ⟨Gw.h, rfl⟩
    · obtain ⟨s272, z272, hs272⟩ := (hΦ 25 (List.mem_of_elem_eq_true (by kernel_rfl)) (by omega))
      have e272 : A.eval (.tmp 272) = .slice (some ⟨s272, 0, none⟩) 3 3 := (hin 25 272 (by omega) (by omega) (by kernel_rfl)).trans z272
      clear z272
      have e273 : A.eval (.tmp 273) = .agg #[.int .i64 0, .bool false, .int .u8 0] := (hin 26 273 (by omega) (by omega) (by kernel_rfl)).trans (hΦ 26 (List.mem_of_elem_eq_true (by kernel_rfl)) (by omega))
      refine ⟨_, rfl, ?_⟩
      refine wp_tiny (Op.call { callee := Callee.value (Operand.func 10), args := #[.const (.slice (some ⟨s272, 0, none⟩) 3 3), .const (.agg #[.int .i64 0, .bool false, .int .u8 0])], argTypes := #[40, 26] }) (R := fun u w'' => Grow (ext (Wb w x29) xq) w'' ∧ ph20 w w 27 u w'') (wanted_at (g := 21) (d := 268) (b := true) rfl rfl rfl (by rw [hsz]; decide) (hout 268 _ (by kernel_rfl) (S.g 268 rfl))) (by simp [execOp, resolve, e272, e273, ev_c, ev_f]) ?_ (fun u w'' h => hK u w'' h.1 h.2)
      clear hK
      intro K' hK'
      go_wp2_with ((go_at_call 10; ((with_reducible refine (called_is _ _ cl3 (pl_wfd (by decide) (by decide)) hs272).mono ?_); rintro e w1 ⟨rfl, hb1⟩; obtain ⟨x1, rfl⟩ := ext_of_grow hb1; clear hb1)))
      exact hK' _ _ ⟨Gw.h, rfl⟩
    · have e274 : A.eval (.tmp 274) = .int .i64 42 := (hin 27 274 (by omega) (by omega) (by kernel_rfl)).trans (hΦ 27 (List.mem_of_elem_eq_true (by kernel_rfl)) (by omega))
      refine ⟨_, rfl, ?_⟩
      refine wp_tiny (Op.binOp BinOp.eql 29 (.const (.int .i64 42)) (.const (.int .i64 42)) 29) (R := fun u w'' => Grow (ext (Wb w x29) xq) w'' ∧ ph20 w w 28 u w'') (wanted_at (g := 21) (d := 268) (b := true) rfl rfl rfl (by rw [hsz]; decide) (hout 268 _ (by kernel_rfl) (S.g 268 rfl))) (by simp [execOp, resolve, e274, ev_c, ev_f, eqGuard]) ?_ (fun u w'' h => hK u w'' h.1 h.2)
      clear hK
      intro K' hK'
      go_wp2_with (fail)
      exact hK' _ _ ⟨Gw.h, rfl⟩
    · have e268 := hout 268 _ (by kernel_rfl) (S.g 268 rfl)
      have e275 : A.eval (.tmp 275) = .bool true := (hin 28 275 (by omega) (by omega) (by kernel_rfl)).trans (hΦ 28 (List.mem_of_elem_eq_true (by kernel_rfl)) (by omega))
      refine ⟨_, rfl, ?_⟩
      refine wp_tiny (Op.pick (.const (.bool true)) (.const (.bool true)) (.const (.bool false))) (R := fun u w'' => Grow (ext (Wb w x29) xq) w'' ∧ ph20 w w 29 u w'') (wanted_none rfl _) (by simp [execOp, resolve, e268, e275, ev_c, ev_f]) ?_ (fun u w'' h => hK u w'' h.1 h.2)
      clear hK
      intro K' hK'
      go_wp2_with (fail)
      exact hK' _ _ ⟨Gw.h, rfl⟩
    · have e276 : A.eval (.tmp 276) = .bool true := (hin 29 276 (by omega) (by omega) (by kernel_rfl)).trans (hΦ 29 (List.mem_of_elem_eq_true (by kernel_rfl)) (by omega))
      refine ⟨_, rfl, ?_⟩
      refine wp_tiny (Op.move (.const (.bool true))) (R := fun u w'' => Grow (ext (Wb w x29) xq) w'' ∧ ph20 w w 30 u w'') (wanted_none rfl _) (by simp [execOp, resolve, e276, ev_c, ev_f]) ?_ (fun u w'' h => hK u w'' h.1 h.2)
      clear hK
      intro K' hK'
      go_wp2_with (fail)
      exact hK' _ _ ⟨Gw.h, rfl⟩
  obtain ⟨x4, rfl⟩ := ext_of_grow (Grow.trans (Gw.h : Grow (Wb w x29) _) hg)
  replace S : St8 a4 383 _ := ⟨hN4, by rw [ha4.out, defers_putAll]; exact S.defers, Lk.cons (hout 16 _ (by kernel_rfl) (S.g 16 rfl)) (Lk.cons (hout 19 _ (by kernel_rfl) (S.g 19 rfl)) (Lk.cons (hout 20 _ (by kernel_rfl) (S.g 20 rfl)) (Lk.cons (hout 21 _ (by kernel_rfl) (S.g 21 rfl)) (Lk.cons (hout 22 _ (by kernel_rfl) (S.g 22 rfl)) (Lk.cons ((hin 30 277 (by omega) (by omega) (by kernel_rfl)).trans (hΦ 30 (by omega) (by omega))) (Lk.nil))))))⟩
  clear hg hΦ hin hout hN4 ha4
  refine region_part' 31 39 383 (by kernel_rfl) S.size (by kernel_rfl) (ph20 w w) (ph20_stay w w) (fun i h1 h2 vs w' A hg hΦ hin hout hsz K hK => ?_) (fun vs5 w' a5 ha5 hg hΦ hin hout hN5 => ?_)
  · obtain ⟨xq, rfl⟩ := ext_of_grow (Grow.trans (Gw.h : Grow (Wb w x29) _) hg)
    clear hg
    obtain rfl | rfl | rfl | rfl | rfl | rfl | rfl | rfl : i = 31 ∨ i = 32 ∨ i = 33 ∨ i = 34 ∨ i = 35 ∨ i = 36 ∨ i = 37 ∨ i = 38 := by omega
    · have e21 := hout 21 _ (by kernel_rfl) (S.g 21 rfl)
      refine ⟨_, rfl, ?_⟩
      refine wp_tiny (Op.load 28 (.const (.pointer (some ⟨p21, 0, none⟩)))) (R := fun u w'' => Grow (ext (Wb w x29) xq) w'' ∧ ph20 w w 31 u w'') (wanted_at (g := 30) (d := 277) (b := true) rfl rfl rfl (by rw [hsz]; decide) (hout 277 _ (by kernel_rfl) (S.g 277 rfl))) (by simp [execOp, resolve, e21, ev_c, ev_f]) ?_ (fun u w'' h => hK u w'' h.1 h.2)
      clear hK
      intro K' hK'
      go_wp2_with (fail)
      exact hK' _ _ ⟨Gw.h, rfl⟩
    · have e22 := hout 22 _ (by kernel_rfl) (S.g 22 rfl)
      refine ⟨_, rfl, ?_⟩
      refine wp_tiny (Op.load 28 (.const (.pointer (some ⟨p22, 0, none⟩)))) (R := fun u w'' => Grow (ext (Wb w x29) xq) w'' ∧ ph20 w w 32 u w'') (wanted_at (g := 30) (d := 277) (b := true) rfl rfl rfl (by rw [hsz]; decide) (hout 277 _ (by kernel_rfl) (S.g 277 rfl))) (by simp [execOp, resolve, e22, ev_c, ev_f]) ?_ (fun u w'' h => hK u w'' h.1 h.2)
      clear hK
      intro K' hK'
      go_wp2_with (fail)
      exact hK' _ _ ⟨Gw.h, rfl⟩
    · have e278 : A.eval (.tmp 278) = .agg #[.int .u8 3, .int .i64 0, .int .i64 2, .bool false, .int .u8 0] := (hin 31 278 (by omega) (by omega) (by kernel_rfl)).trans (hΦ 31 (List.mem_of_elem_eq_true (by kernel_rfl)) (by omega))
      have e279 : A.eval (.tmp 279) = .agg #[.int .u8 2, .int .i64 0, .int .i64 1, .bool false, .int .u8 0] := (hin 32 279 (by omega) (by omega) (by kernel_rfl)).trans (hΦ 32 (List.mem_of_elem_eq_true (by kernel_rfl)) (by omega))
      refine ⟨_, rfl, ?_⟩
      refine wp_tiny (Op.buildSlice 40 2 #[(0, .const (.agg #[.int .u8 3, .int .i64 0, .int .i64 2, .bool false, .int .u8 0])), (1, .const (.agg #[.int .u8 2, .int .i64 0, .int .i64 1, .bool false, .int .u8 0]))]) (R := fun u w'' => Grow (ext (Wb w x29) xq) w'' ∧ ph20 w w 33 u w'') (wanted_at (g := 30) (d := 277) (b := true) rfl rfl rfl (by rw [hsz]; decide) (hout 277 _ (by kernel_rfl) (S.g 277 rfl))) (by simp [execOp, resolve, e278, e279, ev_c, ev_f]) ?_ (fun u w'' h => hK u w'' h.1 h.2)
      clear hK
      intro K' hK'
      go_wp2_with (fail)
      exact hK' _ _ ⟨Gw.h, _, rfl, sl_opds [mvA, prA] (opds_wf (by decide)) (heap_newE (by simp only [size_ext, alloc_size])) (by rfl) (by decide)⟩
    · refine ⟨_, rfl, ?_⟩
      refine wp_tiny (Op.call { callee := Callee.value (Operand.func 7), args := #[.const (.int .i64 1)], argTypes := #[3] }) (R := fun u w'' => Grow (ext (Wb w x29) xq) w'' ∧ ph20 w w 34 u w'') (wanted_at (g := 30) (d := 277) (b := true) rfl rfl rfl (by rw [hsz]; decide) (hout 277 _ (by kernel_rfl) (S.g 277 rfl))) (by simp [execOp, resolve, ev_c, ev_f]) ?_ (fun u w'' h => hK u w'' h.1 h.2)
      clear hK
      intro K' hK'
      go_wp2_with ((go_at_call 7; ((with_reducible refine (law14_local _ _).mono ?_); rintro e w1 ⟨rfl, hb1⟩; obtain ⟨x1, rfl⟩ := ext_of_grow hb1; clear hb1)))
      exact hK' _ _ ⟨Gw.h, rfl⟩
    · obtain ⟨s280, z280, hs280⟩ := (hΦ 33 (List.mem_of_elem_eq_true (by kernel_rfl)) (by omega))
      have e280 : A.eval (.tmp 280) = .slice (some ⟨s280, 0, none⟩) 2 2 := (hin 33 280 (by omega) (by omega) (by kernel_rfl)).trans z280
      clear z280
      have e281 : A.eval (.tmp 281) = .agg #[.int .i64 1, .bool false, .int .u8 0] := (hin 34 281 (by omega) (by omega) (by kernel_rfl)).trans (hΦ 34 (List.mem_of_elem_eq_true (by kernel_rfl)) (by omega))
      refine ⟨_, rfl, ?_⟩
      refine wp_tiny (Op.call { callee := Callee.value (Operand.func 10), args := #[.const (.slice (some ⟨s280, 0, none⟩) 2 2), .const (.agg #[.int .i64 1, .bool false, .int .u8 0])], argTypes := #[40, 26] }) (R := fun u w'' => Grow (ext (Wb w x29) xq) w'' ∧ ph20 w w 35 u w'') (wanted_at (g := 30) (d := 277) (b := true) rfl rfl rfl (by rw [hsz]; decide) (hout 277 _ (by kernel_rfl) (S.g 277 rfl))) (by simp [execOp, resolve, e280, e281, ev_c, ev_f]) ?_ (fun u w'' h => hK u w'' h.1 h.2)
      clear hK
      intro K' hK'
      go_wp2_with ((go_at_call 10; ((with_reducible refine (called_is _ _ cl4 (pl_wfd (by decide) (by decide)) hs280).mono ?_); rintro e w1 ⟨rfl, hb1⟩; obtain ⟨x1, rfl⟩ := ext_of_grow hb1; clear hb1)))
      exact hK' _ _ ⟨Gw.h, rfl⟩
    · have e282 : A.eval (.tmp 282) = .int .i64 42 := (hin 35 282 (by omega) (by omega) (by kernel_rfl)).trans (hΦ 35 (List.mem_of_elem_eq_true (by kernel_rfl)) (by omega))
      refine ⟨_, rfl, ?_⟩
      refine wp_tiny (Op.binOp BinOp.eql 29 (.const (.int .i64 42)) (.const (.int .i64 42)) 29) (R := fun u w'' => Grow (ext (Wb w x29) xq) w'' ∧ ph20 w w 36 u w'') (wanted_at (g := 30) (d := 277) (b := true) rfl rfl rfl (by rw [hsz]; decide) (hout 277 _ (by kernel_rfl) (S.g 277 rfl))) (by simp [execOp, resolve, e282, ev_c, ev_f, eqGuard]) ?_ (fun u w'' h => hK u w'' h.1 h.2)
      clear hK
      intro K' hK'
      go_wp2_with (fail)
      exact hK' _ _ ⟨Gw.h, rfl⟩
    · have e277 := hout 277 _ (by kernel_rfl) (S.g 277 rfl)
      have e283 : A.eval (.tmp 283) = .bool true := (hin 36 283 (by omega) (by omega) (by kernel_rfl)).trans (hΦ 36 (List.mem_of_elem_eq_true (by kernel_rfl)) (by omega))
      refine ⟨_, rfl, ?_⟩
      refine wp_tiny (Op.pick (.const (.bool true)) (.const (.bool true)) (.const (.bool false))) (R := fun u w'' => Grow (ext (Wb w x29) xq) w'' ∧ ph20 w w 37 u w'') (wanted_none rfl _) (by simp [execOp, resolve, e277, e283, ev_c, ev_f]) ?_ (fun u w'' h => hK u w'' h.1 h.2)
      clear hK
      intro K' hK'
      go_wp2_with (fail)
      exact hK' _ _ ⟨Gw.h, rfl⟩
    · have e284 : A.eval (.tmp 284) = .bool true := (hin 37 284 (by omega) (by omega) (by kernel_rfl)).trans (hΦ 37 (List.mem_of_elem_eq_true (by kernel_rfl)) (by omega))
      refine ⟨_, rfl, ?_⟩
      refine wp_tiny (Op.move (.const (.bool true))) (R := fun u w'' => Grow (ext (Wb w x29) xq) w'' ∧ ph20 w w 38 u w'') (wanted_none rfl _) (by simp [execOp, resolve, e284, ev_c, ev_f]) ?_ (fun u w'' h => hK u w'' h.1 h.2)
      clear hK
      intro K' hK'
      go_wp2_with (fail)
      exact hK' _ _ ⟨Gw.h, rfl⟩
  obtain ⟨x5, rfl⟩ := ext_of_grow (Grow.trans (Gw.h : Grow (Wb w x29) _) hg)
  replace S : St8 a5 383 _ := ⟨hN5, by rw [ha5.out, defers_putAll]; exact S.defers, Lk.cons (hout 16 _ (by kernel_rfl) (S.g 16 rfl)) (Lk.cons (hout 19 _ (by kernel_rfl) (S.g 19 rfl)) (Lk.cons (hout 20 _ (by kernel_rfl) (S.g 20 rfl)) (Lk.cons (hout 21 _ (by kernel_rfl) (S.g 21 rfl)) (Lk.cons (hout 22 _ (by kernel_rfl) (S.g 22 rfl)) (Lk.cons ((hin 38 285 (by omega) (by omega) (by kernel_rfl)).trans (hΦ 38 (by omega) (by omega))) (Lk.nil))))))⟩
  clear hg hΦ hin hout hN5 ha5
  refine region_part' 39 47 383 (by kernel_rfl) S.size (by kernel_rfl) (ph20 w w) (ph20_stay w w) (fun i h1 h2 vs w' A hg hΦ hin hout hsz K hK => ?_) (fun vs6 w' a6 ha6 hg hΦ hin hout hN6 => ?_)
  · obtain ⟨xq, rfl⟩ := ext_of_grow (Grow.trans (Gw.h : Grow (Wb w x29) _) hg)
    clear hg
    obtain rfl | rfl | rfl | rfl | rfl | rfl | rfl | rfl : i = 39 ∨ i = 40 ∨ i = 41 ∨ i = 42 ∨ i = 43 ∨ i = 44 ∨ i = 45 ∨ i = 46 := by omega
    · have e21 := hout 21 _ (by kernel_rfl) (S.g 21 rfl)
      refine ⟨_, rfl, ?_⟩
      refine wp_tiny (Op.load 28 (.const (.pointer (some ⟨p21, 0, none⟩)))) (R := fun u w'' => Grow (ext (Wb w x29) xq) w'' ∧ ph20 w w 39 u w'') (wanted_at (g := 38) (d := 285) (b := true) rfl rfl rfl (by rw [hsz]; decide) (hout 285 _ (by kernel_rfl) (S.g 285 rfl))) (by simp [execOp, resolve, e21, ev_c, ev_f]) ?_ (fun u w'' h => hK u w'' h.1 h.2)
      clear hK
      intro K' hK'
      go_wp2_with (fail)
      exact hK' _ _ ⟨Gw.h, rfl⟩
    · have e22 := hout 22 _ (by kernel_rfl) (S.g 22 rfl)
      refine ⟨_, rfl, ?_⟩
      refine wp_tiny (Op.load 28 (.const (.pointer (some ⟨p22, 0, none⟩)))) (R := fun u w'' => Grow (ext (Wb w x29) xq) w'' ∧ ph20 w w 40 u w'') (wanted_at (g := 38) (d := 285) (b := true) rfl rfl rfl (by rw [hsz]; decide) (hout 285 _ (by kernel_rfl) (S.g 285 rfl))) (by simp [execOp, resolve, e22, ev_c, ev_f]) ?_ (fun u w'' h => hK u w'' h.1 h.2)
      clear hK
      intro K' hK'
      go_wp2_with (fail)
      exact hK' _ _ ⟨Gw.h, rfl⟩
    · have e286 : A.eval (.tmp 286) = .agg #[.int .u8 3, .int .i64 0, .int .i64 2, .bool false, .int .u8 0] := (hin 39 286 (by omega) (by omega) (by kernel_rfl)).trans (hΦ 39 (List.mem_of_elem_eq_true (by kernel_rfl)) (by omega))
      have e287 : A.eval (.tmp 287) = .agg #[.int .u8 2, .int .i64 0, .int .i64 1, .bool false, .int .u8 0] := (hin 40 287 (by omega) (by omega) (by kernel_rfl)).trans (hΦ 40 (List.mem_of_elem_eq_true (by kernel_rfl)) (by omega))
      refine ⟨_, rfl, ?_⟩
      refine wp_tiny (Op.buildSlice 40 2 #[(0, .const (.agg #[.int .u8 3, .int .i64 0, .int .i64 2, .bool false, .int .u8 0])), (1, .const (.agg #[.int .u8 2, .int .i64 0, .int .i64 1, .bool false, .int .u8 0]))]) (R := fun u w'' => Grow (ext (Wb w x29) xq) w'' ∧ ph20 w w 41 u w'') (wanted_at (g := 38) (d := 285) (b := true) rfl rfl rfl (by rw [hsz]; decide) (hout 285 _ (by kernel_rfl) (S.g 285 rfl))) (by simp [execOp, resolve, e286, e287, ev_c, ev_f]) ?_ (fun u w'' h => hK u w'' h.1 h.2)
      clear hK
      intro K' hK'
      go_wp2_with (fail)
      exact hK' _ _ ⟨Gw.h, _, rfl, sl_opds [mvA, prA] (opds_wf (by decide)) (heap_newE (by simp only [size_ext, alloc_size])) (by rfl) (by decide)⟩
    · refine ⟨_, rfl, ?_⟩
      refine wp_tiny (Op.call { callee := Callee.value (Operand.func 7), args := #[.const (.int .i64 3)], argTypes := #[3] }) (R := fun u w'' => Grow (ext (Wb w x29) xq) w'' ∧ ph20 w w 42 u w'') (wanted_at (g := 38) (d := 285) (b := true) rfl rfl rfl (by rw [hsz]; decide) (hout 285 _ (by kernel_rfl) (S.g 285 rfl))) (by simp [execOp, resolve, ev_c, ev_f]) ?_ (fun u w'' h => hK u w'' h.1 h.2)
      clear hK
      intro K' hK'
      go_wp2_with ((go_at_call 7; ((with_reducible refine (law14_local _ _).mono ?_); rintro e w1 ⟨rfl, hb1⟩; obtain ⟨x1, rfl⟩ := ext_of_grow hb1; clear hb1)))
      exact hK' _ _ ⟨Gw.h, rfl⟩
    · obtain ⟨s288, z288, hs288⟩ := (hΦ 41 (List.mem_of_elem_eq_true (by kernel_rfl)) (by omega))
      have e288 : A.eval (.tmp 288) = .slice (some ⟨s288, 0, none⟩) 2 2 := (hin 41 288 (by omega) (by omega) (by kernel_rfl)).trans z288
      clear z288
      have e289 : A.eval (.tmp 289) = .agg #[.int .i64 3, .bool false, .int .u8 0] := (hin 42 289 (by omega) (by omega) (by kernel_rfl)).trans (hΦ 42 (List.mem_of_elem_eq_true (by kernel_rfl)) (by omega))
      refine ⟨_, rfl, ?_⟩
      refine wp_tiny (Op.call { callee := Callee.value (Operand.func 10), args := #[.const (.slice (some ⟨s288, 0, none⟩) 2 2), .const (.agg #[.int .i64 3, .bool false, .int .u8 0])], argTypes := #[40, 26] }) (R := fun u w'' => Grow (ext (Wb w x29) xq) w'' ∧ ph20 w w 43 u w'') (wanted_at (g := 38) (d := 285) (b := true) rfl rfl rfl (by rw [hsz]; decide) (hout 285 _ (by kernel_rfl) (S.g 285 rfl))) (by simp [execOp, resolve, e288, e289, ev_c, ev_f]) ?_ (fun u w'' h => hK u w'' h.1 h.2)
      clear hK
      intro K' hK'
      go_wp2_with ((go_at_call 10; ((with_reducible refine (called_is _ _ cl5 (pl_wfd (by decide) (by decide)) hs288).mono ?_); rintro e w1 ⟨rfl, hb1⟩; obtain ⟨x1, rfl⟩ := ext_of_grow hb1; clear hb1)))
      exact hK' _ _ ⟨Gw.h, rfl⟩
    · have e290 : A.eval (.tmp 290) = .int .i64 6 := (hin 43 290 (by omega) (by omega) (by kernel_rfl)).trans (hΦ 43 (List.mem_of_elem_eq_true (by kernel_rfl)) (by omega))
      refine ⟨_, rfl, ?_⟩
      refine wp_tiny (Op.binOp BinOp.eql 29 (.const (.int .i64 6)) (.const (.int .i64 6)) 29) (R := fun u w'' => Grow (ext (Wb w x29) xq) w'' ∧ ph20 w w 44 u w'') (wanted_at (g := 38) (d := 285) (b := true) rfl rfl rfl (by rw [hsz]; decide) (hout 285 _ (by kernel_rfl) (S.g 285 rfl))) (by simp [execOp, resolve, e290, ev_c, ev_f, eqGuard]) ?_ (fun u w'' h => hK u w'' h.1 h.2)
      clear hK
      intro K' hK'
      go_wp2_with (fail)
      exact hK' _ _ ⟨Gw.h, rfl⟩
    · have e285 := hout 285 _ (by kernel_rfl) (S.g 285 rfl)
      have e291 : A.eval (.tmp 291) = .bool true := (hin 44 291 (by omega) (by omega) (by kernel_rfl)).trans (hΦ 44 (List.mem_of_elem_eq_true (by kernel_rfl)) (by omega))
      refine ⟨_, rfl, ?_⟩
      refine wp_tiny (Op.pick (.const (.bool true)) (.const (.bool true)) (.const (.bool false))) (R := fun u w'' => Grow (ext (Wb w x29) xq) w'' ∧ ph20 w w 45 u w'') (wanted_none rfl _) (by simp [execOp, resolve, e285, e291, ev_c, ev_f]) ?_ (fun u w'' h => hK u w'' h.1 h.2)
      clear hK
      intro K' hK'
      go_wp2_with (fail)
      exact hK' _ _ ⟨Gw.h, rfl⟩
    · have e292 : A.eval (.tmp 292) = .bool true := (hin 45 292 (by omega) (by omega) (by kernel_rfl)).trans (hΦ 45 (List.mem_of_elem_eq_true (by kernel_rfl)) (by omega))
      refine ⟨_, rfl, ?_⟩
      refine wp_tiny (Op.move (.const (.bool true))) (R := fun u w'' => Grow (ext (Wb w x29) xq) w'' ∧ ph20 w w 46 u w'') (wanted_none rfl _) (by simp [execOp, resolve, e292, ev_c, ev_f]) ?_ (fun u w'' h => hK u w'' h.1 h.2)
      clear hK
      intro K' hK'
      go_wp2_with (fail)
      exact hK' _ _ ⟨Gw.h, rfl⟩
  obtain ⟨x6, rfl⟩ := ext_of_grow (Grow.trans (Gw.h : Grow (Wb w x29) _) hg)
  replace S : St8 a6 383 _ := ⟨hN6, by rw [ha6.out, defers_putAll]; exact S.defers, Lk.cons (hout 16 _ (by kernel_rfl) (S.g 16 rfl)) (Lk.cons (hout 19 _ (by kernel_rfl) (S.g 19 rfl)) (Lk.cons (hout 20 _ (by kernel_rfl) (S.g 20 rfl)) (Lk.cons (hout 21 _ (by kernel_rfl) (S.g 21 rfl)) (Lk.cons (hout 22 _ (by kernel_rfl) (S.g 22 rfl)) (Lk.cons ((hin 46 293 (by omega) (by omega) (by kernel_rfl)).trans (hΦ 46 (by omega) (by omega))) (Lk.nil))))))⟩
  clear hg hΦ hin hout hN6 ha6
  refine region_part' 47 55 383 (by kernel_rfl) S.size (by kernel_rfl) (ph20 w w) (ph20_stay w w) (fun i h1 h2 vs w' A hg hΦ hin hout hsz K hK => ?_) (fun vs7 w' a7 ha7 hg hΦ hin hout hN7 => ?_)
  · obtain ⟨xq, rfl⟩ := ext_of_grow (Grow.trans (Gw.h : Grow (Wb w x29) _) hg)
    clear hg
    obtain rfl | rfl | rfl | rfl | rfl | rfl | rfl | rfl : i = 47 ∨ i = 48 ∨ i = 49 ∨ i = 50 ∨ i = 51 ∨ i = 52 ∨ i = 53 ∨ i = 54 := by omega
    · have e21 := hout 21 _ (by kernel_rfl) (S.g 21 rfl)
      refine ⟨_, rfl, ?_⟩
      refine wp_tiny (Op.load 28 (.const (.pointer (some ⟨p21, 0, none⟩)))) (R := fun u w'' => Grow (ext (Wb w x29) xq) w'' ∧ ph20 w w 47 u w'') (wanted_at (g := 46) (d := 293) (b := true) rfl rfl rfl (by rw [hsz]; decide) (hout 293 _ (by kernel_rfl) (S.g 293 rfl))) (by simp [execOp, resolve, e21, ev_c, ev_f]) ?_ (fun u w'' h => hK u w'' h.1 h.2)
      clear hK
      intro K' hK'
      go_wp2_with (fail)
      exact hK' _ _ ⟨Gw.h, rfl⟩
    · have e22 := hout 22 _ (by kernel_rfl) (S.g 22 rfl)
      refine ⟨_, rfl, ?_⟩
      refine wp_tiny (Op.load 28 (.const (.pointer (some ⟨p22, 0, none⟩)))) (R := fun u w'' => Grow (ext (Wb w x29) xq) w'' ∧ ph20 w w 48 u w'') (wanted_at (g := 46) (d := 293) (b := true) rfl rfl rfl (by rw [hsz]; decide) (hout 293 _ (by kernel_rfl) (S.g 293 rfl))) (by simp [execOp, resolve, e22, ev_c, ev_f]) ?_ (fun u w'' h => hK u w'' h.1 h.2)
      clear hK
      intro K' hK'
      go_wp2_with (fail)
      exact hK' _ _ ⟨Gw.h, rfl⟩
    · have e294 : A.eval (.tmp 294) = .agg #[.int .u8 3, .int .i64 0, .int .i64 2, .bool false, .int .u8 0] := (hin 47 294 (by omega) (by omega) (by kernel_rfl)).trans (hΦ 47 (List.mem_of_elem_eq_true (by kernel_rfl)) (by omega))
      have e295 : A.eval (.tmp 295) = .agg #[.int .u8 2, .int .i64 0, .int .i64 1, .bool false, .int .u8 0] := (hin 48 295 (by omega) (by omega) (by kernel_rfl)).trans (hΦ 48 (List.mem_of_elem_eq_true (by kernel_rfl)) (by omega))
      refine ⟨_, rfl, ?_⟩
      refine wp_tiny (Op.buildSlice 40 2 #[(0, .const (.agg #[.int .u8 3, .int .i64 0, .int .i64 2, .bool false, .int .u8 0])), (1, .const (.agg #[.int .u8 2, .int .i64 0, .int .i64 1, .bool false, .int .u8 0]))]) (R := fun u w'' => Grow (ext (Wb w x29) xq) w'' ∧ ph20 w w 49 u w'') (wanted_at (g := 46) (d := 293) (b := true) rfl rfl rfl (by rw [hsz]; decide) (hout 293 _ (by kernel_rfl) (S.g 293 rfl))) (by simp [execOp, resolve, e294, e295, ev_c, ev_f]) ?_ (fun u w'' h => hK u w'' h.1 h.2)
      clear hK
      intro K' hK'
      go_wp2_with (fail)
      exact hK' _ _ ⟨Gw.h, _, rfl, sl_opds [mvA, prA] (opds_wf (by decide)) (heap_newE (by simp only [size_ext, alloc_size])) (by rfl) (by decide)⟩
    · refine ⟨_, rfl, ?_⟩
      refine wp_tiny (Op.build 26 #[(0, .const (.int .i64 2)), (1, .const (.bool true))]) (R := fun u w'' => Grow (ext (Wb w x29) xq) w'' ∧ ph20 w w 50 u w'') (wanted_at (g := 46) (d := 293) (b := true) rfl rfl rfl (by rw [hsz]; decide) (hout 293 _ (by kernel_rfl) (S.g 293 rfl))) (by simp [execOp, resolve, ev_c, ev_f]) ?_ (fun u w'' h => hK u w'' h.1 h.2)
      clear hK
      intro K' hK'
      go_wp2_with (fail)
      exact hK' _ _ ⟨Gw.h, rfl⟩
    · obtain ⟨s296, z296, hs296⟩ := (hΦ 49 (List.mem_of_elem_eq_true (by kernel_rfl)) (by omega))
      have e296 : A.eval (.tmp 296) = .slice (some ⟨s296, 0, none⟩) 2 2 := (hin 49 296 (by omega) (by omega) (by kernel_rfl)).trans z296
      clear z296
      have e297 : A.eval (.tmp 297) = .agg #[.int .i64 2, .bool true, .int .u8 0] := (hin 50 297 (by omega) (by omega) (by kernel_rfl)).trans (hΦ 50 (List.mem_of_elem_eq_true (by kernel_rfl)) (by omega))
      refine ⟨_, rfl, ?_⟩
      refine wp_tiny (Op.call { callee := Callee.value (Operand.func 10), args := #[.const (.slice (some ⟨s296, 0, none⟩) 2 2), .const (.agg #[.int .i64 2, .bool true, .int .u8 0])], argTypes := #[40, 26] }) (R := fun u w'' => Grow (ext (Wb w x29) xq) w'' ∧ ph20 w w 51 u w'') (wanted_at (g := 46) (d := 293) (b := true) rfl rfl rfl (by rw [hsz]; decide) (hout 293 _ (by kernel_rfl) (S.g 293 rfl))) (by simp [execOp, resolve, e296, e297, ev_c, ev_f]) ?_ (fun u w'' h => hK u w'' h.1 h.2)
      clear hK
      intro K' hK'
      go_wp2_with ((go_at_call 10; ((with_reducible refine (called_is _ _ cl6 (pl_wfd (by decide) (by decide)) hs296).mono ?_); rintro e w1 ⟨rfl, hb1⟩; obtain ⟨x1, rfl⟩ := ext_of_grow hb1; clear hb1)))
      exact hK' _ _ ⟨Gw.h, rfl⟩
    · have e298 : A.eval (.tmp 298) = .int .i64 0 := (hin 51 298 (by omega) (by omega) (by kernel_rfl)).trans (hΦ 51 (List.mem_of_elem_eq_true (by kernel_rfl)) (by omega))
      refine ⟨_, rfl, ?_⟩
      refine wp_tiny (Op.binOp BinOp.eql 29 (.const (.int .i64 0)) (.const (.int .i64 0)) 29) (R := fun u w'' => Grow (ext (Wb w x29) xq) w'' ∧ ph20 w w 52 u w'') (wanted_at (g := 46) (d := 293) (b := true) rfl rfl rfl (by rw [hsz]; decide) (hout 293 _ (by kernel_rfl) (S.g 293 rfl))) (by simp [execOp, resolve, e298, ev_c, ev_f, eqGuard]) ?_ (fun u w'' h => hK u w'' h.1 h.2)
      clear hK
      intro K' hK'
      go_wp2_with (fail)
      exact hK' _ _ ⟨Gw.h, rfl⟩
    · have e293 := hout 293 _ (by kernel_rfl) (S.g 293 rfl)
      have e299 : A.eval (.tmp 299) = .bool true := (hin 52 299 (by omega) (by omega) (by kernel_rfl)).trans (hΦ 52 (List.mem_of_elem_eq_true (by kernel_rfl)) (by omega))
      refine ⟨_, rfl, ?_⟩
      refine wp_tiny (Op.pick (.const (.bool true)) (.const (.bool true)) (.const (.bool false))) (R := fun u w'' => Grow (ext (Wb w x29) xq) w'' ∧ ph20 w w 53 u w'') (wanted_none rfl _) (by simp [execOp, resolve, e293, e299, ev_c, ev_f]) ?_ (fun u w'' h => hK u w'' h.1 h.2)
      clear hK
      intro K' hK'
      go_wp2_with (fail)
      exact hK' _ _ ⟨Gw.h, rfl⟩
    · have e300 : A.eval (.tmp 300) = .bool true := (hin 53 300 (by omega) (by omega) (by kernel_rfl)).trans (hΦ 53 (List.mem_of_elem_eq_true (by kernel_rfl)) (by omega))
      refine ⟨_, rfl, ?_⟩
      refine wp_tiny (Op.move (.const (.bool true))) (R := fun u w'' => Grow (ext (Wb w x29) xq) w'' ∧ ph20 w w 54 u w'') (wanted_none rfl _) (by simp [execOp, resolve, e300, ev_c, ev_f]) ?_ (fun u w'' h => hK u w'' h.1 h.2)
      clear hK
      intro K' hK'
      go_wp2_with (fail)
      exact hK' _ _ ⟨Gw.h, rfl⟩
  obtain ⟨x7, rfl⟩ := ext_of_grow (Grow.trans (Gw.h : Grow (Wb w x29) _) hg)
  replace S : St8 a7 383 _ := ⟨hN7, by rw [ha7.out, defers_putAll]; exact S.defers, Lk.cons (hout 16 _ (by kernel_rfl) (S.g 16 rfl)) (Lk.cons (hout 19 _ (by kernel_rfl) (S.g 19 rfl)) (Lk.cons (hout 20 _ (by kernel_rfl) (S.g 20 rfl)) (Lk.cons (hout 21 _ (by kernel_rfl) (S.g 21 rfl)) (Lk.cons (hout 22 _ (by kernel_rfl) (S.g 22 rfl)) (Lk.cons ((hin 54 301 (by omega) (by omega) (by kernel_rfl)).trans (hΦ 54 (by omega) (by omega))) (Lk.nil))))))⟩
  clear hg hΦ hin hout hN7 ha7
  refine region_part' 55 64 383 (by kernel_rfl) S.size (by kernel_rfl) (ph20 w w) (ph20_stay w w) (fun i h1 h2 vs w' A hg hΦ hin hout hsz K hK => ?_) (fun vs8 w' a8 ha8 hg hΦ hin hout hN8 => ?_)
  · obtain ⟨xq, rfl⟩ := ext_of_grow (Grow.trans (Gw.h : Grow (Wb w x29) _) hg)
    clear hg
    obtain rfl | rfl | rfl | rfl | rfl | rfl | rfl | rfl | rfl : i = 55 ∨ i = 56 ∨ i = 57 ∨ i = 58 ∨ i = 59 ∨ i = 60 ∨ i = 61 ∨ i = 62 ∨ i = 63 := by omega
    · have e22 := hout 22 _ (by kernel_rfl) (S.g 22 rfl)
      refine ⟨_, rfl, ?_⟩
      refine wp_tiny (Op.load 28 (.const (.pointer (some ⟨p22, 0, none⟩)))) (R := fun u w'' => Grow (ext (Wb w x29) xq) w'' ∧ ph20 w w 55 u w'') (wanted_at (g := 54) (d := 301) (b := true) rfl rfl rfl (by rw [hsz]; decide) (hout 301 _ (by kernel_rfl) (S.g 301 rfl))) (by simp [execOp, resolve, e22, ev_c, ev_f]) ?_ (fun u w'' h => hK u w'' h.1 h.2)
      clear hK
      intro K' hK'
      go_wp2_with (fail)
      exact hK' _ _ ⟨Gw.h, rfl⟩
    · refine ⟨_, rfl, ?_⟩
      refine wp_tiny (Op.call { callee := Callee.value (Operand.func 7), args := #[.const (.int .i64 5)], argTypes := #[3] }) (R := fun u w'' => Grow (ext (Wb w x29) xq) w'' ∧ ph20 w w 56 u w'') (wanted_at (g := 54) (d := 301) (b := true) rfl rfl rfl (by rw [hsz]; decide) (hout 301 _ (by kernel_rfl) (S.g 301 rfl))) (by simp [execOp, resolve, ev_c, ev_f]) ?_ (fun u w'' h => hK u w'' h.1 h.2)
      clear hK
      intro K' hK'
      go_wp2_with ((go_at_call 7; ((with_reducible refine (law14_local _ _).mono ?_); rintro e w1 ⟨rfl, hb1⟩; obtain ⟨x1, rfl⟩ := ext_of_grow hb1; clear hb1)))
      exact hK' _ _ ⟨Gw.h, rfl⟩
    · have e303 : A.eval (.tmp 303) = .agg #[.int .i64 5, .bool false, .int .u8 0] := (hin 56 303 (by omega) (by omega) (by kernel_rfl)).trans (hΦ 56 (List.mem_of_elem_eq_true (by kernel_rfl)) (by omega))
      refine ⟨_, rfl, ?_⟩
      refine wp_tiny (Op.build 28 #[(0, .const (.int .u8 2)), (2, .const (.agg #[.int .i64 5, .bool false, .int .u8 0]))]) (R := fun u w'' => Grow (ext (Wb w x29) xq) w'' ∧ ph20 w w 57 u w'') (wanted_at (g := 54) (d := 301) (b := true) rfl rfl rfl (by rw [hsz]; decide) (hout 301 _ (by kernel_rfl) (S.g 301 rfl))) (by simp [execOp, resolve, e303, ev_c, ev_f]) ?_ (fun u w'' h => hK u w'' h.1 h.2)
      clear hK
      intro K' hK'
      go_wp2_with (fail)
      exact hK' _ _ ⟨Gw.h, rfl⟩
    · have e302 : A.eval (.tmp 302) = .agg #[.int .u8 2, .int .i64 0, .int .i64 1, .bool false, .int .u8 0] := (hin 55 302 (by omega) (by omega) (by kernel_rfl)).trans (hΦ 55 (List.mem_of_elem_eq_true (by kernel_rfl)) (by omega))
      have e304 : A.eval (.tmp 304) = .agg #[.int .u8 2, .int .i64 0, .int .i64 5, .bool false, .int .u8 0] := (hin 57 304 (by omega) (by omega) (by kernel_rfl)).trans (hΦ 57 (List.mem_of_elem_eq_true (by kernel_rfl)) (by omega))
      refine ⟨_, rfl, ?_⟩
      refine wp_tiny (Op.buildSlice 40 2 #[(0, .const (.agg #[.int .u8 2, .int .i64 0, .int .i64 1, .bool false, .int .u8 0])), (1, .const (.agg #[.int .u8 2, .int .i64 0, .int .i64 5, .bool false, .int .u8 0]))]) (R := fun u w'' => Grow (ext (Wb w x29) xq) w'' ∧ ph20 w w 58 u w'') (wanted_at (g := 54) (d := 301) (b := true) rfl rfl rfl (by rw [hsz]; decide) (hout 301 _ (by kernel_rfl) (S.g 301 rfl))) (by simp [execOp, resolve, e302, e304, ev_c, ev_f]) ?_ (fun u w'' h => hK u w'' h.1 h.2)
      clear hK
      intro K' hK'
      go_wp2_with (fail)
      exact hK' _ _ ⟨Gw.h, _, rfl, sl_opds [prA, p5A] (opds_wf (by decide)) (heap_newE (by simp only [size_ext, alloc_size])) (by rfl) (by decide)⟩
    · refine ⟨_, rfl, ?_⟩
      refine wp_tiny (Op.call { callee := Callee.value (Operand.func 7), args := #[.const (.int .i64 0)], argTypes := #[3] }) (R := fun u w'' => Grow (ext (Wb w x29) xq) w'' ∧ ph20 w w 59 u w'') (wanted_at (g := 54) (d := 301) (b := true) rfl rfl rfl (by rw [hsz]; decide) (hout 301 _ (by kernel_rfl) (S.g 301 rfl))) (by simp [execOp, resolve, ev_c, ev_f]) ?_ (fun u w'' h => hK u w'' h.1 h.2)
      clear hK
      intro K' hK'
      go_wp2_with ((go_at_call 7; ((with_reducible refine (law14_local _ _).mono ?_); rintro e w1 ⟨rfl, hb1⟩; obtain ⟨x1, rfl⟩ := ext_of_grow hb1; clear hb1)))
      exact hK' _ _ ⟨Gw.h, rfl⟩
    · obtain ⟨s305, z305, hs305⟩ := (hΦ 58 (List.mem_of_elem_eq_true (by kernel_rfl)) (by omega))
      have e305 : A.eval (.tmp 305) = .slice (some ⟨s305, 0, none⟩) 2 2 := (hin 58 305 (by omega) (by omega) (by kernel_rfl)).trans z305
      clear z305
      have e306 : A.eval (.tmp 306) = .agg #[.int .i64 0, .bool false, .int .u8 0] := (hin 59 306 (by omega) (by omega) (by kernel_rfl)).trans (hΦ 59 (List.mem_of_elem_eq_true (by kernel_rfl)) (by omega))
      refine ⟨_, rfl, ?_⟩
      refine wp_tiny (Op.call { callee := Callee.value (Operand.func 10), args := #[.const (.slice (some ⟨s305, 0, none⟩) 2 2), .const (.agg #[.int .i64 0, .bool false, .int .u8 0])], argTypes := #[40, 26] }) (R := fun u w'' => Grow (ext (Wb w x29) xq) w'' ∧ ph20 w w 60 u w'') (wanted_at (g := 54) (d := 301) (b := true) rfl rfl rfl (by rw [hsz]; decide) (hout 301 _ (by kernel_rfl) (S.g 301 rfl))) (by simp [execOp, resolve, e305, e306, ev_c, ev_f]) ?_ (fun u w'' h => hK u w'' h.1 h.2)
      clear hK
      intro K' hK'
      go_wp2_with ((go_at_call 10; ((with_reducible refine (called_is _ _ cl7 (pl_wfd (by decide) (by decide)) hs305).mono ?_); rintro e w1 ⟨rfl, hb1⟩; obtain ⟨x1, rfl⟩ := ext_of_grow hb1; clear hb1)))
      exact hK' _ _ ⟨Gw.h, rfl⟩
    · have e307 : A.eval (.tmp 307) = .int .i64 6 := (hin 60 307 (by omega) (by omega) (by kernel_rfl)).trans (hΦ 60 (List.mem_of_elem_eq_true (by kernel_rfl)) (by omega))
      refine ⟨_, rfl, ?_⟩
      refine wp_tiny (Op.binOp BinOp.eql 29 (.const (.int .i64 6)) (.const (.int .i64 6)) 29) (R := fun u w'' => Grow (ext (Wb w x29) xq) w'' ∧ ph20 w w 61 u w'') (wanted_at (g := 54) (d := 301) (b := true) rfl rfl rfl (by rw [hsz]; decide) (hout 301 _ (by kernel_rfl) (S.g 301 rfl))) (by simp [execOp, resolve, e307, ev_c, ev_f, eqGuard]) ?_ (fun u w'' h => hK u w'' h.1 h.2)
      clear hK
      intro K' hK'
      go_wp2_with (fail)
      exact hK' _ _ ⟨Gw.h, rfl⟩
    · have e301 := hout 301 _ (by kernel_rfl) (S.g 301 rfl)
      have e308 : A.eval (.tmp 308) = .bool true := (hin 61 308 (by omega) (by omega) (by kernel_rfl)).trans (hΦ 61 (List.mem_of_elem_eq_true (by kernel_rfl)) (by omega))
      refine ⟨_, rfl, ?_⟩
      refine wp_tiny (Op.pick (.const (.bool true)) (.const (.bool true)) (.const (.bool false))) (R := fun u w'' => Grow (ext (Wb w x29) xq) w'' ∧ ph20 w w 62 u w'') (wanted_none rfl _) (by simp [execOp, resolve, e301, e308, ev_c, ev_f]) ?_ (fun u w'' h => hK u w'' h.1 h.2)
      clear hK
      intro K' hK'
      go_wp2_with (fail)
      exact hK' _ _ ⟨Gw.h, rfl⟩
    · have e309 : A.eval (.tmp 309) = .bool true := (hin 62 309 (by omega) (by omega) (by kernel_rfl)).trans (hΦ 62 (List.mem_of_elem_eq_true (by kernel_rfl)) (by omega))
      refine ⟨_, rfl, ?_⟩
      refine wp_tiny (Op.assign (.const (.bool true))) (R := fun u w'' => Grow (ext (Wb w x29) xq) w'' ∧ ph20 w w 63 u w'') (wanted_none rfl _) (by simp [execOp, resolve, e309, ev_c, ev_f]) ?_ (fun u w'' h => hK u w'' h.1 h.2)
      clear hK
      intro K' hK'
      go_wp2_with (fail)
      exact hK' _ _ ⟨Gw.h, rfl⟩
  obtain ⟨x8, rfl⟩ := ext_of_grow (Grow.trans (Gw.h : Grow (Wb w x29) _) hg)
  replace S : St8 a8 383 _ := ⟨hN8, by rw [ha8.out, defers_putAll]; exact S.defers, Lk.cons (hout 16 _ (by kernel_rfl) (S.g 16 rfl)) (Lk.cons (hout 19 _ (by kernel_rfl) (S.g 19 rfl)) (Lk.cons (hout 20 _ (by kernel_rfl) (S.g 20 rfl)) (Lk.cons (hout 21 _ (by kernel_rfl) (S.g 21 rfl)) (Lk.cons (hout 22 _ (by kernel_rfl) (S.g 22 rfl)) (Lk.cons ((hin 63 23 (by omega) (by omega) (by kernel_rfl)).trans (hΦ 63 (by omega) (by omega))) (Lk.nil))))))⟩
  clear hg hΦ hin hout hN8 ha8
  refine parts_end' 64 rfl ?_
  rename Act => a
  go_upto_region 21 with fail
  refine region_inv' 6 383 (by kernel_rfl) (by kernel_rfl) S.size (by kernel_rfl) (ph21 w (Wb w x29)) (ph21_stay w _) (fun i hi vs w' A hg hΦ hin hout hsz K hK => ?_) (fun vs w' A hDA hg hΦ hin hout hNA => ?_)
  · obtain ⟨xq, rfl⟩ := ext_of_grow (Grow.trans (Gw.h : Grow (Wb w x29) _) hg)
    clear hg
    obtain rfl | rfl | rfl | rfl | rfl | rfl : i = 0 ∨ i = 1 ∨ i = 2 ∨ i = 3 ∨ i = 4 ∨ i = 5 := by omega
    · have e21 := hout 21 _ (by kernel_rfl) (S.g 21 rfl)
      refine ⟨_, rfl, ?_⟩
      refine wp_tiny (Op.load 28 (.const (.pointer (some ⟨p21, 0, none⟩)))) (R := fun u w'' => Grow (ext (Wb w x29) xq) w'' ∧ ph21 w (Wb w x29) 0 u w'') (wanted_none rfl _) (by simp [execOp, resolve, e21, ev_c, ev_f]) ?_ (fun u w'' h => hK u w'' h.1 h.2)
      clear hK
      intro K' hK'
      go_wp2_with (fail)
      exact hK' _ _ ⟨Gw.h, rfl⟩
    · have e22 := hout 22 _ (by kernel_rfl) (S.g 22 rfl)
      refine ⟨_, rfl, ?_⟩
      refine wp_tiny (Op.load 28 (.const (.pointer (some ⟨p22, 0, none⟩)))) (R := fun u w'' => Grow (ext (Wb w x29) xq) w'' ∧ ph21 w (Wb w x29) 1 u w'') (wanted_none rfl _) (by simp [execOp, resolve, e22, ev_c, ev_f]) ?_ (fun u w'' h => hK u w'' h.1 h.2)
      clear hK
      intro K' hK'
      go_wp2_with (fail)
      exact hK' _ _ ⟨Gw.h, rfl⟩
    · have e310 : A.eval (.tmp 310) = .agg #[.int .u8 3, .int .i64 0, .int .i64 2, .bool false, .int .u8 0] := (hin 0 310 (by omega) (by kernel_rfl)).trans (hΦ 0 (List.mem_of_elem_eq_true (by kernel_rfl)))
      have e311 : A.eval (.tmp 311) = .agg #[.int .u8 2, .int .i64 0, .int .i64 1, .bool false, .int .u8 0] := (hin 1 311 (by omega) (by kernel_rfl)).trans (hΦ 1 (List.mem_of_elem_eq_true (by kernel_rfl)))
      refine ⟨_, rfl, ?_⟩
      refine wp_tiny (Op.buildSlice 40 2 #[(0, .const (.agg #[.int .u8 3, .int .i64 0, .int .i64 2, .bool false, .int .u8 0])), (1, .const (.agg #[.int .u8 2, .int .i64 0, .int .i64 1, .bool false, .int .u8 0]))]) (R := fun u w'' => Grow (ext (Wb w x29) xq) w'' ∧ ph21 w (Wb w x29) 2 u w'') (wanted_none rfl _) (by simp [execOp, resolve, e310, e311, ev_c, ev_f]) ?_ (fun u w'' h => hK u w'' h.1 h.2)
      clear hK
      intro K' hK'
      go_wp2_with (fail)
      exact hK' _ _ ⟨Gw.h, _, rfl, sl_opds [mvA, prA] (opds_wf (by decide)) (heap_newE (by simp only [size_ext, alloc_size])) (by rfl) (by decide)⟩
    · refine ⟨_, rfl, ?_⟩
      refine wp_tiny (Op.call { callee := Callee.value (Operand.func 7), args := #[.const (.int .i64 0)], argTypes := #[3] }) (R := fun u w'' => Grow (ext (Wb w x29) xq) w'' ∧ ph21 w (Wb w x29) 3 u w'') (wanted_none rfl _) (by simp [execOp, resolve, ev_c, ev_f]) ?_ (fun u w'' h => hK u w'' h.1 h.2)
      clear hK
      intro K' hK'
      go_wp2_with ((go_at_call 7; ((with_reducible refine (law14_local _ _).mono ?_); rintro e w1 ⟨rfl, hb1⟩; obtain ⟨x1, rfl⟩ := ext_of_grow hb1; clear hb1)))
      exact hK' _ _ ⟨Gw.h, rfl⟩
    · obtain ⟨s312, z312, hs312⟩ := (hΦ 2 (List.mem_of_elem_eq_true (by kernel_rfl)))
      have e312 : A.eval (.tmp 312) = .slice (some ⟨s312, 0, none⟩) 2 2 := (hin 2 312 (by omega) (by kernel_rfl)).trans z312
      clear z312
      have e313 : A.eval (.tmp 313) = .agg #[.int .i64 0, .bool false, .int .u8 0] := (hin 3 313 (by omega) (by kernel_rfl)).trans (hΦ 3 (List.mem_of_elem_eq_true (by kernel_rfl)))
      refine ⟨_, rfl, ?_⟩
      refine wp_tiny (Op.call { callee := Callee.value (Operand.func 11), args := #[.const (.slice (some ⟨s312, 0, none⟩) 2 2), .const (.agg #[.int .i64 0, .bool false, .int .u8 0])], argTypes := #[40, 26] }) (R := fun u w'' => Grow (ext (Wb w x29) xq) w'' ∧ ph21 w (Wb w x29) 4 u w'') (wanted_none rfl _) (by simp [execOp, resolve, e312, e313, ev_c, ev_f]) ?_ (fun u w'' h => hK u w'' h.1 h.2)
      clear hK
      intro K' hK'
      go_wp2_with ((go_at_call 11; ((with_reducible refine (law14_two _ [mvA, prA] ⟨0, false, 0⟩ _ hs312 (call_wf _ _ pl0_wf)).mono ?_); rintro e w1 ⟨_, rfl, ⟨b, B, rfl, hbw, hpr⟩, hg1⟩; obtain ⟨x1, rfl⟩ := ext_of_grow hg1; clear hg1)))
      exact hK' _ _ ⟨Gw.h, _, _, rfl, by (simp only [size_ext, alloc_size] at hbw ⊢; omega), hpr⟩
    · refine ⟨_, rfl, ?_⟩
      refine wp_tiny (Op.alloc 43) (R := fun u w'' => Grow (ext (Wb w x29) xq) w'' ∧ ph21 w (Wb w x29) 5 u w'') (wanted_none rfl _) (by simp [execOp, resolve, ev_c, ev_f]) ?_ (fun u w'' h => hK u w'' h.1 h.2)
      clear hK
      intro K' hK'
      go_wp2_with (fail)
      exact hK' _ _ ⟨Gw.h, _, rfl, by first | (simp only [size_ext, alloc_size]; omega) | (simp only [size_ext]; omega), heap_newE (by simp only [size_ext, alloc_size])⟩
  obtain ⟨xq, rfl⟩ := ext_of_grow (Grow.trans (Gw.h : Grow (Wb w x29) _) hg)
  clear hg
  obtain ⟨q24, B24, z24, hq24, hpr⟩ := (hΦ 4 (by omega))
  have e314 : A.eval (.tmp 314) = .agg #[.slice (some ⟨q24, 0, none⟩) 2 2] := (hin 4 314 (by omega) (by kernel_rfl)).trans z24
  clear z24
  obtain ⟨p24, e24, hb24, hc24⟩ := hΦ 5 (by omega)
  replace S : St8 A 383 _ := ⟨hNA, hDA.trans S.defers, Lk.cons (hout 16 _ (by kernel_rfl) (S.g 16 rfl)) (Lk.cons (hout 19 _ (by kernel_rfl) (S.g 19 rfl)) (Lk.cons (hout 20 _ (by kernel_rfl) (S.g 20 rfl)) (Lk.cons (hout 22 _ (by kernel_rfl) (S.g 22 rfl)) (Lk.cons (hout 23 _ (by kernel_rfl) (S.g 23 rfl)) (Lk.cons (e314) (Lk.cons ((hin 5 24 (by omega) (by kernel_rfl)).trans e24) (Lk.nil)))))))⟩
  clear hΦ hin hout hNA hDA a
  rename Act => a
  simp only [List.drop_succ_cons, List.drop_zero]
  obtain ⟨x30, x31, hp24, hw⟩ := split_box hc24 hb24
  rw [hw] at hc24 hpr ⊢
  clear hw hb24
  haveI ep24 : EqW p24 (ext (Wb w x29) x30) := ⟨hp24⟩
  refine st_put S (Op.store 43 (.const (.pointer (some ⟨p24, 0, none⟩))) (.const (.agg #[.slice (some ⟨q24, 0, none⟩) 2 2]))) (ext ((ext (Wb w x29) x30).alloc (.cells #[.slice (some ⟨q24, 0, none⟩) 2 2] 43)) x31) rfl (wanted_none rfl _) (by simp [execOp, resolve, S.g 24 rfl, S.g 314 rfl, ev_c, ev_f]) ?_ (fun a S => ?_)
  · intro K' hK'
    go_wp2_with fail
    exact hK' _
  replace hpr : PrAt p24 q24 (ext ((ext (Wb w x29) x30).alloc (.cells #[.slice (some ⟨q24, 0, none⟩) 2 2] 43)) x31) (tF 2) := (hpr.box (by decide) hc24).keep (agr_swap hp24) (by simp only [size_ext, alloc_size]; exact Nat.le_refl _)
  clear hc24 hp24
  replace S : St8 a 383 _ := ⟨S.size, S.defers, Lk.cons (S.g 16 rfl) (Lk.cons (S.g 19 rfl) (Lk.cons (S.g 20 rfl) (Lk.cons (S.g 22 rfl) (Lk.cons (S.g 23 rfl) (Lk.cons (S.g 24 rfl) (Lk.nil))))))⟩
  have hsl : Sl (fun _ => True) _ (.slice (some ⟨q24, 0, none⟩) 2 2) (tF 2) := hpr.sl (by decide)
  go_upto_region 22 with fail
  refine wp_region_lit ?_
  refine st_val S (Op.load 28 (.const (.pointer (some ⟨p22, 0, none⟩)))) (.agg #[.int .u8 2, .int .i64 0, .int .i64 1, .bool false, .int .u8 0]) rfl rfl (wanted_none rfl _) (by simp [execOp, resolve, S.g 22 rfl, ev_c, ev_f]) ?_ (fun a S => ?_)
  · intro K' hK'
    go_wp2_with fail
    exact hK'
  refine st_val S (Op.build 46 #[(0, .const (.int .u8 2)), (1, .const (.agg #[.int .u8 2, .int .i64 0, .int .i64 1, .bool false, .int .u8 0])), (3, .const (.int .i64 1)), (4, .const (.int .i64 1))]) (.agg #[.int .u8 2, .int .u8 2, .int .i64 0, .int .i64 1, .bool false, .int .u8 0, .int .i64 0, .int .i64 1, .int .i64 1, .slice none 0 0, .int .i64 0, .bool false, .int .u8 0]) rfl rfl (wanted_none rfl _) (by simp [execOp, resolve, S.g 315 rfl, ev_c, ev_f]) ?_ (fun a S => ?_)
  · intro K' hK'
    go_wp2_with fail
    exact hK'
  refine st_any S (Op.alloc 46) (fun u w'' => ∃ b, u = .pointer (some ⟨b, 0, none⟩) ∧ b = (ext ((ext (Wb w x29) x30).alloc (.cells #[.slice (some ⟨q24, 0, none⟩) 2 2] 43)) x31).heap.size ∧ w'' = (ext ((ext (Wb w x29) x30).alloc (.cells #[.slice (some ⟨q24, 0, none⟩) 2 2] 43)) x31).alloc (.cells #[.int .u8 0, .int .u8 0, .int .i64 0, .int .i64 0, .bool false, .int .u8 0, .int .i64 0, .int .i64 0, .int .i64 0, .slice none 0 0, .int .i64 0, .bool false, .int .u8 0] 46)) rfl rfl (wanted_none rfl _) (by simp [execOp, resolve, ev_c, ev_f]) ?_ (fun u w'' a h S => ?_)
  · intro K' hK'
    go_wp2_with (fail)
    exact hK' _ _ ⟨_, rfl, by first | rfl | (simp only [size_ext, alloc_size]; done) | (simp only [size_ext, alloc_size]; omega), rfl⟩
  obtain ⟨p25, rfl, hp25, rfl⟩ := h
  haveI ep25 : EqW p25 (ext ((ext (Wb w x29) x30).alloc (.cells #[.slice (some ⟨q24, 0, none⟩) 2 2] 43)) x31) := ⟨hp25⟩
  clear hp25
  refine st_put S (Op.store 46 (.const (.pointer (some ⟨p25, 0, none⟩))) (.const (.agg #[.int .u8 2, .int .u8 2, .int .i64 0, .int .i64 1, .bool false, .int .u8 0, .int .i64 0, .int .i64 1, .int .i64 1, .slice none 0 0, .int .i64 0, .bool false, .int .u8 0]))) ((ext ((ext (Wb w x29) x30).alloc (.cells #[.slice (some ⟨q24, 0, none⟩) 2 2] 43)) x31).alloc (.cells #[.int .u8 2, .int .u8 2, .int .i64 0, .int .i64 1, .bool false, .int .u8 0, .int .i64 0, .int .i64 1, .int .i64 1, .slice none 0 0, .int .i64 0, .bool false, .int .u8 0] 46)) rfl (wanted_none rfl _) (by simp [execOp, resolve, S.g 25 rfl, S.g 316 rfl, ev_c, ev_f]) ?_ (fun a S => ?_)
  · intro K' hK'
    go_wp2_with fail
    exact hK' _
  replace S : St8 a 383 _ := ⟨S.size, S.defers, Lk.cons (S.g 16 rfl) (Lk.cons (S.g 19 rfl) (Lk.cons (S.g 20 rfl) (Lk.cons (S.g 23 rfl) (Lk.cons (S.g 24 rfl) (Lk.cons (S.g 25 rfl) (Lk.nil))))))⟩
  go_upto_region 23 with fail
  refine wp_region_lit ?_
  refine st_val S (Op.load 43 (.const (.pointer (some ⟨p24, 0, none⟩)))) (.agg #[.slice (some ⟨q24, 0, none⟩) 2 2]) rfl rfl (wanted_none rfl _) (by simp [execOp, resolve, S.g 24 rfl, ev_c, ev_f]) ?_ (fun a S => ?_)
  · intro K' hK'
    go_wp2_with fail
    exact hK'
  refine st_val S (Op.load 46 (.const (.pointer (some ⟨p25, 0, none⟩)))) (.agg #[.int .u8 2, .int .u8 2, .int .i64 0, .int .i64 1, .bool false, .int .u8 0, .int .i64 0, .int .i64 1, .int .i64 1, .slice none 0 0, .int .i64 0, .bool false, .int .u8 0]) rfl rfl (wanted_none rfl _) (by simp [execOp, resolve, S.g 25 rfl, ev_c, ev_f]) ?_ (fun a S => ?_)
  · intro K' hK'
    go_wp2_with fail
    exact hK'
  refine st_any S (Op.call { callee := Callee.value (Operand.func 12), args := #[.const (.agg #[.slice (some ⟨q24, 0, none⟩) 2 2]), .const (.int .i64 0), .const (.agg #[.int .u8 2, .int .u8 2, .int .i64 0, .int .i64 1, .bool false, .int .u8 0, .int .i64 0, .int .i64 1, .int .i64 1, .slice none 0 0, .int .i64 0, .bool false, .int .u8 0])], argTypes := #[43, 3, 46] }) (fun u w'' => u = .int .i64 42 ∧ Grow ((ext ((ext (Wb w x29) x30).alloc (.cells #[.slice (some ⟨q24, 0, none⟩) 2 2] 43)) x31).alloc (.cells #[.int .u8 2, .int .u8 2, .int .i64 0, .int .i64 1, .bool false, .int .u8 0, .int .i64 0, .int .i64 1, .int .i64 1, .slice none 0 0, .int .i64 0, .bool false, .int .u8 0] 46)) w'') rfl rfl (wanted_none rfl _) (by simp [execOp, resolve, S.g 317 rfl, S.g 318 rfl, ev_c, ev_f]) ?_ (fun u w'' a h S => ?_)
  · intro K' hK'
    go_wp2_with ((go_at_call 12; ((with_reducible refine (jump_is _ _ jl0 (i64d (by decide)) jl0_wf rfl (hsl.mono Gw.h)).mono ?_); rintro e w1 ⟨rfl, hb1⟩; obtain ⟨x1, rfl⟩ := ext_of_grow hb1; clear hb1)))
    exact hK' _ _ ⟨rfl, Gw.h⟩
  obtain ⟨rfl, hg⟩ := h
  obtain ⟨x32, rfl⟩ := ext_of_grow hg
  clear hg
  refine st_val S (Op.binOp BinOp.eql 29 (.const (.int .i64 42)) (.const (.int .i64 42)) 29) (.bool true) rfl rfl (wanted_none rfl _) (by simp [execOp, resolve, S.g 319 rfl, ev_c, ev_f, eqGuard]) ?_ (fun a S => ?_)
  · intro K' hK'
    go_wp2_with fail
    exact hK'
  refine st_val S (Op.move (.const (.bool true))) (.bool true) rfl rfl (wanted_none rfl _) (by simp [execOp, resolve, S.g 320 rfl, ev_c, ev_f]) ?_ (fun a S => ?_)
  · intro K' hK'
    go_wp2_with fail
    exact hK'
  refine st_val S (Op.load 43 (.const (.pointer (some ⟨p24, 0, none⟩)))) (.agg #[.slice (some ⟨q24, 0, none⟩) 2 2]) rfl rfl (want_at (g := 4) (d := 321) (b := true) S rfl rfl rfl rfl rfl) (by simp [execOp, resolve, S.g 24 rfl, ev_c, ev_f]) ?_ (fun a S => ?_)
  · intro K' hK'
    go_wp2_with fail
    exact hK'
  refine st_val S (Op.load 46 (.const (.pointer (some ⟨p25, 0, none⟩)))) (.agg #[.int .u8 2, .int .u8 2, .int .i64 0, .int .i64 1, .bool false, .int .u8 0, .int .i64 0, .int .i64 1, .int .i64 1, .slice none 0 0, .int .i64 0, .bool false, .int .u8 0]) rfl rfl (want_at (g := 4) (d := 321) (b := true) S rfl rfl rfl rfl rfl) (by simp [execOp, resolve, S.g 25 rfl, ev_c, ev_f]) ?_ (fun a S => ?_)
  · intro K' hK'
    go_wp2_with fail
    exact hK'
  refine st_any S (Op.call { callee := Callee.value (Operand.func 12), args := #[.const (.agg #[.slice (some ⟨q24, 0, none⟩) 2 2]), .const (.int .i64 2), .const (.agg #[.int .u8 2, .int .u8 2, .int .i64 0, .int .i64 1, .bool false, .int .u8 0, .int .i64 0, .int .i64 1, .int .i64 1, .slice none 0 0, .int .i64 0, .bool false, .int .u8 0])], argTypes := #[43, 3, 46] }) (fun u w'' => u = .int .i64 2 ∧ Grow ((ext ((ext (Wb w x29) x30).alloc (.cells #[.slice (some ⟨q24, 0, none⟩) 2 2] 43)) x31).alloc (.cells #[.int .u8 2, .int .u8 2, .int .i64 0, .int .i64 1, .bool false, .int .u8 0, .int .i64 0, .int .i64 1, .int .i64 1, .slice none 0 0, .int .i64 0, .bool false, .int .u8 0] 46)) w'') rfl rfl (want_at (g := 4) (d := 321) (b := true) S rfl rfl rfl rfl rfl) (by simp [execOp, resolve, S.g 322 rfl, S.g 323 rfl, ev_c, ev_f]) ?_ (fun u w'' a h S => ?_)
  · intro K' hK'
    go_wp2_with ((go_at_call 12; ((with_reducible refine (jump_is _ _ jl1 (i64d (by decide)) jl1_wf rfl (hsl.mono Gw.h)).mono ?_); rintro e w1 ⟨rfl, hb1⟩; obtain ⟨x1, rfl⟩ := ext_of_grow hb1; clear hb1)))
    exact hK' _ _ ⟨rfl, Gw.h⟩
  obtain ⟨rfl, hg⟩ := h
  obtain ⟨x33, rfl⟩ := ext_of_grow hg
  clear hg
  refine st_val S (Op.binOp BinOp.eql 29 (.const (.int .i64 2)) (.const (.int .i64 2)) 29) (.bool true) rfl rfl (want_at (g := 4) (d := 321) (b := true) S rfl rfl rfl rfl rfl) (by simp [execOp, resolve, S.g 324 rfl, ev_c, ev_f, eqGuard]) ?_ (fun a S => ?_)
  · intro K' hK'
    go_wp2_with fail
    exact hK'
  refine st_val S (Op.pick (.const (.bool true)) (.const (.bool true)) (.const (.bool false))) (.bool true) rfl rfl (wanted_none rfl _) (by simp [execOp, resolve, S.g 321 rfl, S.g 325 rfl, ev_c, ev_f]) ?_ (fun a S => ?_)
  · intro K' hK'
    go_wp2_with fail
    exact hK'
  refine st_val S (Op.move (.const (.bool true))) (.bool true) rfl rfl (wanted_none rfl _) (by simp [execOp, resolve, S.g 326 rfl, ev_c, ev_f]) ?_ (fun a S => ?_)
  · intro K' hK'
    go_wp2_with fail
    exact hK'
  refine st_val S (Op.load 43 (.const (.pointer (some ⟨p24, 0, none⟩)))) (.agg #[.slice (some ⟨q24, 0, none⟩) 2 2]) rfl rfl (want_at (g := 10) (d := 327) (b := true) S rfl rfl rfl rfl rfl) (by simp [execOp, resolve, S.g 24 rfl, ev_c, ev_f]) ?_ (fun a S => ?_)
  · intro K' hK'
    go_wp2_with fail
    exact hK'
  refine st_val S (Op.load 46 (.const (.pointer (some ⟨p25, 0, none⟩)))) (.agg #[.int .u8 2, .int .u8 2, .int .i64 0, .int .i64 1, .bool false, .int .u8 0, .int .i64 0, .int .i64 1, .int .i64 1, .slice none 0 0, .int .i64 0, .bool false, .int .u8 0]) rfl rfl (want_at (g := 10) (d := 327) (b := true) S rfl rfl rfl rfl rfl) (by simp [execOp, resolve, S.g 25 rfl, ev_c, ev_f]) ?_ (fun a S => ?_)
  · intro K' hK'
    go_wp2_with fail
    exact hK'
  refine st_any S (Op.call { callee := Callee.value (Operand.func 12), args := #[.const (.agg #[.slice (some ⟨q24, 0, none⟩) 2 2]), .const (.int .i64 (-1)), .const (.agg #[.int .u8 2, .int .u8 2, .int .i64 0, .int .i64 1, .bool false, .int .u8 0, .int .i64 0, .int .i64 1, .int .i64 1, .slice none 0 0, .int .i64 0, .bool false, .int .u8 0])], argTypes := #[43, 3, 46] }) (fun u w'' => u = .int .i64 2 ∧ Grow ((ext ((ext (Wb w x29) x30).alloc (.cells #[.slice (some ⟨q24, 0, none⟩) 2 2] 43)) x31).alloc (.cells #[.int .u8 2, .int .u8 2, .int .i64 0, .int .i64 1, .bool false, .int .u8 0, .int .i64 0, .int .i64 1, .int .i64 1, .slice none 0 0, .int .i64 0, .bool false, .int .u8 0] 46)) w'') rfl rfl (want_at (g := 10) (d := 327) (b := true) S rfl rfl rfl rfl rfl) (by simp [execOp, resolve, S.g 328 rfl, S.g 329 rfl, ev_c, ev_f]) ?_ (fun u w'' a h S => ?_)
  · intro K' hK'
    go_wp2_with ((go_at_call 12; ((with_reducible refine (jump_is _ _ jl2 (i64d (by decide)) jl2_wf rfl (hsl.mono Gw.h)).mono ?_); rintro e w1 ⟨rfl, hb1⟩; obtain ⟨x1, rfl⟩ := ext_of_grow hb1; clear hb1)))
    exact hK' _ _ ⟨rfl, Gw.h⟩
  obtain ⟨rfl, hg⟩ := h
  obtain ⟨x34, rfl⟩ := ext_of_grow hg
  clear hg
  refine st_val S (Op.binOp BinOp.eql 29 (.const (.int .i64 2)) (.const (.int .i64 2)) 29) (.bool true) rfl rfl (want_at (g := 10) (d := 327) (b := true) S rfl rfl rfl rfl rfl) (by simp [execOp, resolve, S.g 330 rfl, ev_c, ev_f, eqGuard]) ?_ (fun a S => ?_)
  · intro K' hK'
    go_wp2_with fail
    exact hK'
  refine st_val S (Op.pick (.const (.bool true)) (.const (.bool true)) (.const (.bool false))) (.bool true) rfl rfl (wanted_none rfl _) (by simp [execOp, resolve, S.g 327 rfl, S.g 331 rfl, ev_c, ev_f]) ?_ (fun a S => ?_)
  · intro K' hK'
    go_wp2_with fail
    exact hK'
  refine st_val S (Op.move (.const (.bool true))) (.bool true) rfl rfl (wanted_none rfl _) (by simp [execOp, resolve, S.g 332 rfl, ev_c, ev_f]) ?_ (fun a S => ?_)
  · intro K' hK'
    go_wp2_with fail
    exact hK'
  refine st_val S (Op.load 43 (.const (.pointer (some ⟨p24, 0, none⟩)))) (.agg #[.slice (some ⟨q24, 0, none⟩) 2 2]) rfl rfl (want_at (g := 16) (d := 333) (b := true) S rfl rfl rfl rfl rfl) (by simp [execOp, resolve, S.g 24 rfl, ev_c, ev_f]) ?_ (fun a S => ?_)
  · intro K' hK'
    go_wp2_with fail
    exact hK'
  refine st_val S (Op.build 46 #[]) (.agg #[.int .u8 0, .int .u8 0, .int .i64 0, .int .i64 0, .bool false, .int .u8 0, .int .i64 0, .int .i64 0, .int .i64 0, .slice none 0 0, .int .i64 0, .bool false, .int .u8 0]) rfl rfl (want_at (g := 16) (d := 333) (b := true) S rfl rfl rfl rfl rfl) (by simp [execOp, resolve, ev_c, ev_f]) ?_ (fun a S => ?_)
  · intro K' hK'
    go_wp2_with fail
    exact hK'
  refine st_any S (Op.call { callee := Callee.value (Operand.func 12), args := #[.const (.agg #[.slice (some ⟨q24, 0, none⟩) 2 2]), .const (.int .i64 0), .const (.agg #[.int .u8 0, .int .u8 0, .int .i64 0, .int .i64 0, .bool false, .int .u8 0, .int .i64 0, .int .i64 0, .int .i64 0, .slice none 0 0, .int .i64 0, .bool false, .int .u8 0])], argTypes := #[43, 3, 46] }) (fun u w'' => u = .int .i64 8 ∧ Grow ((ext ((ext (Wb w x29) x30).alloc (.cells #[.slice (some ⟨q24, 0, none⟩) 2 2] 43)) x31).alloc (.cells #[.int .u8 2, .int .u8 2, .int .i64 0, .int .i64 1, .bool false, .int .u8 0, .int .i64 0, .int .i64 1, .int .i64 1, .slice none 0 0, .int .i64 0, .bool false, .int .u8 0] 46)) w'') rfl rfl (want_at (g := 16) (d := 333) (b := true) S rfl rfl rfl rfl rfl) (by simp [execOp, resolve, S.g 334 rfl, S.g 335 rfl, ev_c, ev_f]) ?_ (fun u w'' a h S => ?_)
  · intro K' hK'
    go_wp2_with ((go_at_call 12; ((with_reducible refine (jump_is _ _ jl3 (i64d (by decide)) jl3_wf rfl (hsl.mono Gw.h)).mono ?_); rintro e w1 ⟨rfl, hb1⟩; obtain ⟨x1, rfl⟩ := ext_of_grow hb1; clear hb1)))
    exact hK' _ _ ⟨rfl, Gw.h⟩
  obtain ⟨rfl, hg⟩ := h
  obtain ⟨x35, rfl⟩ := ext_of_grow hg
  clear hg
  refine st_val S (Op.binOp BinOp.eql 29 (.const (.int .i64 8)) (.const (.int .i64 8)) 29) (.bool true) rfl rfl (want_at (g := 16) (d := 333) (b := true) S rfl rfl rfl rfl rfl) (by simp [execOp, resolve, S.g 336 rfl, ev_c, ev_f, eqGuard]) ?_ (fun a S => ?_)
  · intro K' hK'
    go_wp2_with fail
    exact hK'
  refine st_val S (Op.pick (.const (.bool true)) (.const (.bool true)) (.const (.bool false))) (.bool true) rfl rfl (wanted_none rfl _) (by simp [execOp, resolve, S.g 333 rfl, S.g 337 rfl, ev_c, ev_f]) ?_ (fun a S => ?_)
  · intro K' hK'
    go_wp2_with fail
    exact hK'
  refine st_val S (Op.move (.const (.bool true))) (.bool true) rfl rfl (wanted_none rfl _) (by simp [execOp, resolve, S.g 338 rfl, ev_c, ev_f]) ?_ (fun a S => ?_)
  · intro K' hK'
    go_wp2_with fail
    exact hK'
  refine st_val S (Op.load 43 (.const (.pointer (some ⟨p24, 0, none⟩)))) (.agg #[.slice (some ⟨q24, 0, none⟩) 2 2]) rfl rfl (want_at (g := 22) (d := 339) (b := true) S rfl rfl rfl rfl rfl) (by simp [execOp, resolve, S.g 24 rfl, ev_c, ev_f]) ?_ (fun a S => ?_)
  · intro K' hK'
    go_wp2_with fail
    exact hK'
  refine st_val S (Op.build 46 #[(0, .const (.int .u8 4)), (2, .const (.int .i64 2))]) (.agg #[.int .u8 4, .int .u8 0, .int .i64 0, .int .i64 0, .bool false, .int .u8 0, .int .i64 2, .int .i64 0, .int .i64 0, .slice none 0 0, .int .i64 0, .bool false, .int .u8 0]) rfl rfl (want_at (g := 22) (d := 339) (b := true) S rfl rfl rfl rfl rfl) (by simp [execOp, resolve, ev_c, ev_f]) ?_ (fun a S => ?_)
  · intro K' hK'
    go_wp2_with fail
    exact hK'
  refine st_any S (Op.call { callee := Callee.value (Operand.func 12), args := #[.const (.agg #[.slice (some ⟨q24, 0, none⟩) 2 2]), .const (.int .i64 0), .const (.agg #[.int .u8 4, .int .u8 0, .int .i64 0, .int .i64 0, .bool false, .int .u8 0, .int .i64 2, .int .i64 0, .int .i64 0, .slice none 0 0, .int .i64 0, .bool false, .int .u8 0])], argTypes := #[43, 3, 46] }) (fun u w'' => u = .int .i64 6 ∧ Grow ((ext ((ext (Wb w x29) x30).alloc (.cells #[.slice (some ⟨q24, 0, none⟩) 2 2] 43)) x31).alloc (.cells #[.int .u8 2, .int .u8 2, .int .i64 0, .int .i64 1, .bool false, .int .u8 0, .int .i64 0, .int .i64 1, .int .i64 1, .slice none 0 0, .int .i64 0, .bool false, .int .u8 0] 46)) w'') rfl rfl (want_at (g := 22) (d := 339) (b := true) S rfl rfl rfl rfl rfl) (by simp [execOp, resolve, S.g 340 rfl, S.g 341 rfl, ev_c, ev_f]) ?_ (fun u w'' a h S => ?_)
  · intro K' hK'
    go_wp2_with ((go_at_call 12; ((with_reducible refine (jump_is _ _ jl4 (i64d (by decide)) jl4_wf rfl (hsl.mono Gw.h)).mono ?_); rintro e w1 ⟨rfl, hb1⟩; obtain ⟨x1, rfl⟩ := ext_of_grow hb1; clear hb1)))
    exact hK' _ _ ⟨rfl, Gw.h⟩
  obtain ⟨rfl, hg⟩ := h
  obtain ⟨x36, rfl⟩ := ext_of_grow hg
  clear hg
  refine st_val S (Op.binOp BinOp.eql 29 (.const (.int .i64 6)) (.const (.int .i64 6)) 29) (.bool true) rfl rfl (want_at (g := 22) (d := 339) (b := true) S rfl rfl rfl rfl rfl) (by simp [execOp, resolve, S.g 342 rfl, ev_c, ev_f, eqGuard]) ?_ (fun a S => ?_)
  · intro K' hK'
    go_wp2_with fail
    exact hK'
  refine st_val S (Op.pick (.const (.bool true)) (.const (.bool true)) (.const (.bool false))) (.bool true) rfl rfl (wanted_none rfl _) (by simp [execOp, resolve, S.g 339 rfl, S.g 343 rfl, ev_c, ev_f]) ?_ (fun a S => ?_)
  · intro K' hK'
    go_wp2_with fail
    exact hK'
  refine st_val S (Op.move (.const (.bool true))) (.bool true) rfl rfl (wanted_none rfl _) (by simp [execOp, resolve, S.g 344 rfl, ev_c, ev_f]) ?_ (fun a S => ?_)
  · intro K' hK'
    go_wp2_with fail
    exact hK'
  refine st_val S (Op.load 43 (.const (.pointer (some ⟨p24, 0, none⟩)))) (.agg #[.slice (some ⟨q24, 0, none⟩) 2 2]) rfl rfl (want_at (g := 28) (d := 345) (b := true) S rfl rfl rfl rfl rfl) (by simp [execOp, resolve, S.g 24 rfl, ev_c, ev_f]) ?_ (fun a S => ?_)
  · intro K' hK'
    go_wp2_with fail
    exact hK'
  refine st_val S (Op.build 46 #[(0, .const (.int .u8 3))]) (.agg #[.int .u8 3, .int .u8 0, .int .i64 0, .int .i64 0, .bool false, .int .u8 0, .int .i64 0, .int .i64 0, .int .i64 0, .slice none 0 0, .int .i64 0, .bool false, .int .u8 0]) rfl rfl (want_at (g := 28) (d := 345) (b := true) S rfl rfl rfl rfl rfl) (by simp [execOp, resolve, ev_c, ev_f]) ?_ (fun a S => ?_)
  · intro K' hK'
    go_wp2_with fail
    exact hK'
  refine st_any S (Op.call { callee := Callee.value (Operand.func 12), args := #[.const (.agg #[.slice (some ⟨q24, 0, none⟩) 2 2]), .const (.int .i64 0), .const (.agg #[.int .u8 3, .int .u8 0, .int .i64 0, .int .i64 0, .bool false, .int .u8 0, .int .i64 0, .int .i64 0, .int .i64 0, .slice none 0 0, .int .i64 0, .bool false, .int .u8 0])], argTypes := #[43, 3, 46] }) (fun u w'' => u = .int .i64 0 ∧ Grow ((ext ((ext (Wb w x29) x30).alloc (.cells #[.slice (some ⟨q24, 0, none⟩) 2 2] 43)) x31).alloc (.cells #[.int .u8 2, .int .u8 2, .int .i64 0, .int .i64 1, .bool false, .int .u8 0, .int .i64 0, .int .i64 1, .int .i64 1, .slice none 0 0, .int .i64 0, .bool false, .int .u8 0] 46)) w'') rfl rfl (want_at (g := 28) (d := 345) (b := true) S rfl rfl rfl rfl rfl) (by simp [execOp, resolve, S.g 346 rfl, S.g 347 rfl, ev_c, ev_f]) ?_ (fun u w'' a h S => ?_)
  · intro K' hK'
    go_wp2_with ((go_at_call 12; ((with_reducible refine (jump_is _ _ jl5 (i64d (by decide)) jl5_wf rfl (hsl.mono Gw.h)).mono ?_); rintro e w1 ⟨rfl, hb1⟩; obtain ⟨x1, rfl⟩ := ext_of_grow hb1; clear hb1)))
    exact hK' _ _ ⟨rfl, Gw.h⟩
  obtain ⟨rfl, hg⟩ := h
  obtain ⟨x37, rfl⟩ := ext_of_grow hg
  clear hg
  refine st_val S (Op.binOp BinOp.eql 29 (.const (.int .i64 0)) (.const (.int .i64 0)) 29) (.bool true) rfl rfl (want_at (g := 28) (d := 345) (b := true) S rfl rfl rfl rfl rfl) (by simp [execOp, resolve, S.g 348 rfl, ev_c, ev_f, eqGuard]) ?_ (fun a S => ?_)
  · intro K' hK'
    go_wp2_with fail
    exact hK'
  refine st_val S (Op.pick (.const (.bool true)) (.const (.bool true)) (.const (.bool false))) (.bool true) rfl rfl (wanted_none rfl _) (by simp [execOp, resolve, S.g 345 rfl, S.g 349 rfl, ev_c, ev_f]) ?_ (fun a S => ?_)
  · intro K' hK'
    go_wp2_with fail
    exact hK'
  refine st_val S (Op.move (.const (.bool true))) (.bool true) rfl rfl (wanted_none rfl _) (by simp [execOp, resolve, S.g 350 rfl, ev_c, ev_f]) ?_ (fun a S => ?_)
  · intro K' hK'
    go_wp2_with fail
    exact hK'
  refine st_val S (Op.build 43 #[]) (.agg #[.slice none 0 0]) rfl rfl (want_at (g := 34) (d := 351) (b := true) S rfl rfl rfl rfl rfl) (by simp [execOp, resolve, ev_c, ev_f]) ?_ (fun a S => ?_)
  · intro K' hK'
    go_wp2_with fail
    exact hK'
  refine st_val S (Op.load 46 (.const (.pointer (some ⟨p25, 0, none⟩)))) (.agg #[.int .u8 2, .int .u8 2, .int .i64 0, .int .i64 1, .bool false, .int .u8 0, .int .i64 0, .int .i64 1, .int .i64 1, .slice none 0 0, .int .i64 0, .bool false, .int .u8 0]) rfl rfl (want_at (g := 34) (d := 351) (b := true) S rfl rfl rfl rfl rfl) (by simp [execOp, resolve, S.g 25 rfl, ev_c, ev_f]) ?_ (fun a S => ?_)
  · intro K' hK'
    go_wp2_with fail
    exact hK'
  refine st_any S (Op.call { callee := Callee.value (Operand.func 12), args := #[.const (.agg #[.slice none 0 0]), .const (.int .i64 0), .const (.agg #[.int .u8 2, .int .u8 2, .int .i64 0, .int .i64 1, .bool false, .int .u8 0, .int .i64 0, .int .i64 1, .int .i64 1, .slice none 0 0, .int .i64 0, .bool false, .int .u8 0])], argTypes := #[43, 3, 46] }) (fun u w'' => u = .int .i64 8 ∧ Grow ((ext ((ext (Wb w x29) x30).alloc (.cells #[.slice (some ⟨q24, 0, none⟩) 2 2] 43)) x31).alloc (.cells #[.int .u8 2, .int .u8 2, .int .i64 0, .int .i64 1, .bool false, .int .u8 0, .int .i64 0, .int .i64 1, .int .i64 1, .slice none 0 0, .int .i64 0, .bool false, .int .u8 0] 46)) w'') rfl rfl (want_at (g := 34) (d := 351) (b := true) S rfl rfl rfl rfl rfl) (by simp [execOp, resolve, S.g 352 rfl, S.g 353 rfl, ev_c, ev_f]) ?_ (fun u w'' a h S => ?_)
  · intro K' hK'
    go_wp2_with ((go_at_call 12; ((with_reducible refine (jump_is _ _ jl6 (i64d (by decide)) jl6_wf rfl (Sl.nil (fun _ => True) _)).mono ?_); rintro e w1 ⟨rfl, hb1⟩; obtain ⟨x1, rfl⟩ := ext_of_grow hb1; clear hb1)))
    exact hK' _ _ ⟨rfl, Gw.h⟩
  obtain ⟨rfl, hg⟩ := h
  obtain ⟨x38, rfl⟩ := ext_of_grow hg
  clear hg
  refine st_val S (Op.binOp BinOp.eql 29 (.const (.int .i64 8)) (.const (.int .i64 8)) 29) (.bool true) rfl rfl (want_at (g := 34) (d := 351) (b := true) S rfl rfl rfl rfl rfl) (by simp [execOp, resolve, S.g 354 rfl, ev_c, ev_f, eqGuard]) ?_ (fun a S => ?_)
  · intro K' hK'
    go_wp2_with fail
    exact hK'
  refine st_val S (Op.pick (.const (.bool true)) (.const (.bool true)) (.const (.bool false))) (.bool true) rfl rfl (wanted_none rfl _) (by simp [execOp, resolve, S.g 351 rfl, S.g 355 rfl, ev_c, ev_f]) ?_ (fun a S => ?_)
  · intro K' hK'
    go_wp2_with fail
    exact hK'
  refine st_val S (Op.assign (.const (.bool true))) (.bool true) rfl rfl (wanted_none rfl _) (by simp [execOp, resolve, S.g 356 rfl, ev_c, ev_f]) ?_ (fun a S => ?_)
  · intro K' hK'
    go_wp2_with fail
    exact hK'
  replace S : St8 a 383 _ := ⟨S.size, S.defers, Lk.cons (S.g 16 rfl) (Lk.cons (S.g 19 rfl) (Lk.cons (S.g 20 rfl) (Lk.cons (S.g 23 rfl) (Lk.cons (S.g 24 rfl) (Lk.cons (S.g 25 rfl) (Lk.cons (S.g 26 rfl) (Lk.nil)))))))⟩
  go_upto_region 24 with fail
  refine wp_region_lit ?_
  refine st_val S (Op.fieldAddr 43 (.const (.pointer (some ⟨p24, 0, none⟩))) 0) (.pointer (some ⟨p24, 0, none⟩)) rfl rfl (wanted_none rfl _) (by simp [execOp, resolve, S.g 24 rfl, ev_c, ev_f]) ?_ (fun a S => ?_)
  · intro K' hK'
    go_wp2_with fail
    exact hK'
  refine st_val S (Op.load 41 (.const (.pointer (some ⟨p24, 0, none⟩)))) (.slice (some ⟨q24, 0, none⟩) 2 2) rfl rfl (wanted_none rfl _) (by simp [execOp, resolve, S.g 357 rfl, ev_c, ev_f]) ?_ (fun a S => ?_)
  · intro K' hK'
    go_wp2_with fail
    exact hK'
  refine st_val S (Op.indexAddr 41 (.const (.slice (some ⟨q24, 0, none⟩) 2 2)) (.const (.int .i64 1))) (.pointer (some ⟨q24, 4, none⟩)) rfl rfl (wanted_none rfl _) (by simp [execOp, resolve, S.g 358 rfl, ev_c, ev_f]) ?_ (fun a S => ?_)
  · intro K' hK'
    go_wp2_with fail
    exact hK'
  refine st_val S (Op.fieldAddr 50 (.const (.pointer (some ⟨q24, 4, none⟩))) 0) (.pointer (some ⟨q24, 4, none⟩)) rfl rfl (wanted_none rfl _) (by simp [execOp, resolve, S.g 359 rfl, ev_c, ev_f]) ?_ (fun a S => ?_)
  · intro K' hK'
    go_wp2_with fail
    exact hK'
  have hcq : (ext ((ext ((ext (Wb w x29) x30).alloc (.cells #[.slice (some ⟨q24, 0, none⟩) 2 2] 43)) x31).alloc (.cells #[.int .u8 2, .int .u8 2, .int .i64 0, .int .i64 1, .bool false, .int .u8 0, .int .i64 0, .int .i64 1, .int .i64 1, .slice none 0 0, .int .i64 0, .bool false, .int .u8 0] 46)) x38).cell? ⟨q24, 4, none⟩ = some (.int .i64 2) := hpr.cell1 Gw.h
  refine st_put S (Op.store 3 (.const (.pointer (some ⟨q24, 4, none⟩))) (.const (.int .i64 3))) ((ext ((ext ((ext (Wb w x29) x30).alloc (.cells #[.slice (some ⟨q24, 0, none⟩) 2 2] 43)) x31).alloc (.cells #[.int .u8 2, .int .u8 2, .int .i64 0, .int .i64 1, .bool false, .int .u8 0, .int .i64 0, .int .i64 1, .int .i64 1, .slice none 0 0, .int .i64 0, .bool false, .int .u8 0] 46)) x38).setCell ⟨q24, 4, none⟩ (.int .i64 3)) rfl (wanted_none rfl _) (by simp [execOp, resolve, S.g 360 rfl, ev_c, ev_f]) ?_ (fun a S => ?_)
  · intro K' hK'
    have hfq : (ext ((ext ((ext (Wb w x29) x30).alloc (.cells #[.slice (some ⟨q24, 0, none⟩) 2 2] 43)) x31).alloc (.cells #[.int .u8 2, .int .u8 2, .int .i64 0, .int .i64 1, .bool false, .int .u8 0, .int .i64 0, .int .i64 1, .int .i64 1, .slice none 0 0, .int .i64 0, .bool false, .int .u8 0] 46)) x38).frozen? ⟨q24, 4, none⟩ = false := hpr.free Gw.h
    go_wp2_with fail
    exact hK' _
  clear hcq
  replace S : St8 a 383 _ := ⟨S.size, S.defers, Lk.cons (S.g 16 rfl) (Lk.cons (S.g 19 rfl) (Lk.cons (S.g 20 rfl) (Lk.cons (S.g 23 rfl) (Lk.cons (S.g 24 rfl) (Lk.cons (S.g 25 rfl) (Lk.cons (S.g 26 rfl) (Lk.nil)))))))⟩
  obtain ⟨ya, yb, yc, hw, h24, h25, hsl3⟩ := after24 (w := w) (p24 := p24) (p25 := p25) (o24 := .cells #[.slice (some ⟨q24, 0, none⟩) 2 2] 43) (o25 := .cells #[.int .u8 2, .int .u8 2, .int .i64 0, .int .i64 1, .bool false, .int .u8 0, .int .i64 0, .int .i64 1, .int .i64 1, .slice none 0 0, .int .i64 0, .bool false, .int .u8 0] 46) (Gw.h : Grow w (ext ((ext ((ext (Wb w x29) x30).alloc (.cells #[.slice (some ⟨q24, 0, none⟩) 2 2] 43)) x31).alloc (.cells #[.int .u8 2, .int .u8 2, .int .i64 0, .int .i64 1, .bool false, .int .u8 0, .int .i64 0, .int .i64 1, .int .i64 1, .slice none 0 0, .int .i64 0, .bool false, .int .u8 0] 46)) x38)) hq24 (by rw [ep24.eq]; simp only [size_ext, alloc_size]; omega) (by rw [ep25.eq, ep24.eq]; simp only [size_ext, alloc_size]; omega) (fun e => by have h1 := ep25.eq; have h2 : q24 < _ := hpr.1; simp only [size_ext, alloc_size] at h1 h2; omega) (by simp only [hp_ext, hp_alloc, hp_at]) (by simp only [hp_ext, hp_alloc, hp_at]) (hpr.keep (Agr.of_grow Gw.h) (Grow.size Gw.h))
  rw [hw]
  clear hw hsl ep24 ep25
  haveI ep24 : EqW p24 (ext w ya) := ⟨h24⟩
  haveI ep25 : EqW p25 (ext ((ext w ya).alloc (.cells #[.slice (some ⟨q24, 0, none⟩) 2 2] 43)) yb) := ⟨h25⟩
  clear h24 h25
  go_upto_region 25 with fail
  refine wp_region_lit ?_
  refine st_any S (Op.call { callee := Callee.value (Operand.func 13), args := #[], argTypes := #[] }) (fun u w'' => u = .bool true ∧ Grow (ext ((ext ((ext w ya).alloc (.cells #[.slice (some ⟨q24, 0, none⟩) 2 2] 43)) yb).alloc (.cells #[.int .u8 2, .int .u8 2, .int .i64 0, .int .i64 1, .bool false, .int .u8 0, .int .i64 0, .int .i64 1, .int .i64 1, .slice none 0 0, .int .i64 0, .bool false, .int .u8 0] 46)) yc) w'') rfl rfl (wanted_none rfl _) (by simp [execOp, resolve, ev_c, ev_f]) ?_ (fun u w'' a h S => ?_)
  · intro K' hK'
    go_wp2_with ((go_at_call 13; ((with_reducible refine (law14_alive _).mono ?_); rintro e w1 ⟨rfl, hb1⟩; obtain ⟨x1, rfl⟩ := ext_of_grow hb1; clear hb1)))
    exact hK' _ _ ⟨rfl, Gw.h⟩
  obtain ⟨rfl, hg⟩ := h
  obtain ⟨x39, rfl⟩ := ext_of_grow hg
  clear hg
  refine st_val S (Op.move (.const (.bool true))) (.bool true) rfl rfl (wanted_none rfl _) (by simp [execOp, resolve, S.g 361 rfl, ev_c, ev_f]) ?_ (fun a S => ?_)
  · intro K' hK'
    go_wp2_with fail
    exact hK'
  refine st_val S (Op.move (.const (.bool true))) (.bool true) rfl rfl (want_at (g := 1) (d := 362) (b := true) S rfl rfl rfl rfl rfl) (by simp [execOp, resolve, S.g 16 rfl, ev_c, ev_f]) ?_ (fun a S => ?_)
  · intro K' hK'
    go_wp2_with fail
    exact hK'
  refine st_val S (Op.pick (.const (.bool true)) (.const (.bool true)) (.const (.bool false))) (.bool true) rfl rfl (wanted_none rfl _) (by simp [execOp, resolve, S.g 362 rfl, S.g 363 rfl, ev_c, ev_f]) ?_ (fun a S => ?_)
  · intro K' hK'
    go_wp2_with fail
    exact hK'
  refine st_val S (Op.move (.const (.bool true))) (.bool true) rfl rfl (wanted_none rfl _) (by simp [execOp, resolve, S.g 364 rfl, ev_c, ev_f]) ?_ (fun a S => ?_)
  · intro K' hK'
    go_wp2_with fail
    exact hK'
  refine st_val S (Op.move (.const (.bool true))) (.bool true) rfl rfl (want_at (g := 4) (d := 365) (b := true) S rfl rfl rfl rfl rfl) (by simp [execOp, resolve, S.g 19 rfl, ev_c, ev_f]) ?_ (fun a S => ?_)
  · intro K' hK'
    go_wp2_with fail
    exact hK'
  refine st_val S (Op.pick (.const (.bool true)) (.const (.bool true)) (.const (.bool false))) (.bool true) rfl rfl (wanted_none rfl _) (by simp [execOp, resolve, S.g 365 rfl, S.g 366 rfl, ev_c, ev_f]) ?_ (fun a S => ?_)
  · intro K' hK'
    go_wp2_with fail
    exact hK'
  refine st_val S (Op.move (.const (.bool true))) (.bool true) rfl rfl (wanted_none rfl _) (by simp [execOp, resolve, S.g 367 rfl, ev_c, ev_f]) ?_ (fun a S => ?_)
  · intro K' hK'
    go_wp2_with fail
    exact hK'
  refine st_val S (Op.move (.const (.bool true))) (.bool true) rfl rfl (want_at (g := 7) (d := 368) (b := true) S rfl rfl rfl rfl rfl) (by simp [execOp, resolve, S.g 20 rfl, ev_c, ev_f]) ?_ (fun a S => ?_)
  · intro K' hK'
    go_wp2_with fail
    exact hK'
  refine st_val S (Op.pick (.const (.bool true)) (.const (.bool true)) (.const (.bool false))) (.bool true) rfl rfl (wanted_none rfl _) (by simp [execOp, resolve, S.g 368 rfl, S.g 369 rfl, ev_c, ev_f]) ?_ (fun a S => ?_)
  · intro K' hK'
    go_wp2_with fail
    exact hK'
  refine st_val S (Op.move (.const (.bool true))) (.bool true) rfl rfl (wanted_none rfl _) (by simp [execOp, resolve, S.g 370 rfl, ev_c, ev_f]) ?_ (fun a S => ?_)
  · intro K' hK'
    go_wp2_with fail
    exact hK'
  refine st_val S (Op.move (.const (.bool true))) (.bool true) rfl rfl (want_at (g := 10) (d := 371) (b := true) S rfl rfl rfl rfl rfl) (by simp [execOp, resolve, S.g 23 rfl, ev_c, ev_f]) ?_ (fun a S => ?_)
  · intro K' hK'
    go_wp2_with fail
    exact hK'
  refine st_val S (Op.pick (.const (.bool true)) (.const (.bool true)) (.const (.bool false))) (.bool true) rfl rfl (wanted_none rfl _) (by simp [execOp, resolve, S.g 371 rfl, S.g 372 rfl, ev_c, ev_f]) ?_ (fun a S => ?_)
  · intro K' hK'
    go_wp2_with fail
    exact hK'
  refine st_val S (Op.move (.const (.bool true))) (.bool true) rfl rfl (wanted_none rfl _) (by simp [execOp, resolve, S.g 373 rfl, ev_c, ev_f]) ?_ (fun a S => ?_)
  · intro K' hK'
    go_wp2_with fail
    exact hK'
  refine st_val S (Op.move (.const (.bool true))) (.bool true) rfl rfl (want_at (g := 13) (d := 374) (b := true) S rfl rfl rfl rfl rfl) (by simp [execOp, resolve, S.g 26 rfl, ev_c, ev_f]) ?_ (fun a S => ?_)
  · intro K' hK'
    go_wp2_with fail
    exact hK'
  refine st_val S (Op.pick (.const (.bool true)) (.const (.bool true)) (.const (.bool false))) (.bool true) rfl rfl (wanted_none rfl _) (by simp [execOp, resolve, S.g 374 rfl, S.g 375 rfl, ev_c, ev_f]) ?_ (fun a S => ?_)
  · intro K' hK'
    go_wp2_with fail
    exact hK'
  refine st_val S (Op.move (.const (.bool true))) (.bool true) rfl rfl (wanted_none rfl _) (by simp [execOp, resolve, S.g 376 rfl, ev_c, ev_f]) ?_ (fun a S => ?_)
  · intro K' hK'
    go_wp2_with fail
    exact hK'
  refine st_val S (Op.load 43 (.const (.pointer (some ⟨p24, 0, none⟩)))) (.agg #[.slice (some ⟨q24, 0, none⟩) 2 2]) rfl rfl (want_at (g := 16) (d := 377) (b := true) S rfl rfl rfl rfl rfl) (by simp [execOp, resolve, S.g 24 rfl, ev_c, ev_f]) ?_ (fun a S => ?_)
  · intro K' hK'
    go_wp2_with fail
    exact hK'
  refine st_val S (Op.load 46 (.const (.pointer (some ⟨p25, 0, none⟩)))) (.agg #[.int .u8 2, .int .u8 2, .int .i64 0, .int .i64 1, .bool false, .int .u8 0, .int .i64 0, .int .i64 1, .int .i64 1, .slice none 0 0, .int .i64 0, .bool false, .int .u8 0]) rfl rfl (want_at (g := 16) (d := 377) (b := true) S rfl rfl rfl rfl rfl) (by simp [execOp, resolve, S.g 25 rfl, ev_c, ev_f]) ?_ (fun a S => ?_)
  · intro K' hK'
    go_wp2_with fail
    exact hK'
  refine st_any S (Op.call { callee := Callee.value (Operand.func 12), args := #[.const (.agg #[.slice (some ⟨q24, 0, none⟩) 2 2]), .const (.int .i64 0), .const (.agg #[.int .u8 2, .int .u8 2, .int .i64 0, .int .i64 1, .bool false, .int .u8 0, .int .i64 0, .int .i64 1, .int .i64 1, .slice none 0 0, .int .i64 0, .bool false, .int .u8 0])], argTypes := #[43, 3, 46] }) (fun u w'' => u = .int .i64 8 ∧ Grow (ext ((ext ((ext w ya).alloc (.cells #[.slice (some ⟨q24, 0, none⟩) 2 2] 43)) yb).alloc (.cells #[.int .u8 2, .int .u8 2, .int .i64 0, .int .i64 1, .bool false, .int .u8 0, .int .i64 0, .int .i64 1, .int .i64 1, .slice none 0 0, .int .i64 0, .bool false, .int .u8 0] 46)) yc) w'') rfl rfl (want_at (g := 16) (d := 377) (b := true) S rfl rfl rfl rfl rfl) (by simp [execOp, resolve, S.g 378 rfl, S.g 379 rfl, ev_c, ev_f]) ?_ (fun u w'' a h S => ?_)
  · intro K' hK'
    go_wp2_with ((go_at_call 12; ((with_reducible refine (jump_is _ _ jl7 (i64d (by decide)) jl7_wf rfl (hsl3.mono Gw.h)).mono ?_); rintro e w1 ⟨rfl, hb1⟩; obtain ⟨x1, rfl⟩ := ext_of_grow hb1; clear hb1)))
    exact hK' _ _ ⟨rfl, Gw.h⟩
  obtain ⟨rfl, hg⟩ := h
  obtain ⟨x40, rfl⟩ := ext_of_grow hg
  clear hg
  refine st_val S (Op.binOp BinOp.eql 29 (.const (.int .i64 8)) (.const (.int .i64 8)) 29) (.bool true) rfl rfl (want_at (g := 16) (d := 377) (b := true) S rfl rfl rfl rfl rfl) (by simp [execOp, resolve, S.g 380 rfl, ev_c, ev_f, eqGuard]) ?_ (fun a S => ?_)
  · intro K' hK'
    go_wp2_with fail
    exact hK'
  refine st_val S (Op.pick (.const (.bool true)) (.const (.bool true)) (.const (.bool false))) (.bool true) rfl rfl (wanted_none rfl _) (by simp [execOp, resolve, S.g 377 rfl, S.g 381 rfl, ev_c, ev_f]) ?_ (fun a S => ?_)
  · intro K' hK'
    go_wp2_with fail
    exact hK'
  refine st_val S (Op.assign (.const (.bool true))) (.bool true) rfl rfl (wanted_none rfl _) (by simp [execOp, resolve, S.g 382 rfl, ev_c, ev_f]) ?_ (fun a S => ?_)
  · intro K' hK'
    go_wp2_with fail
    exact hK'
  replace S : St8 a 383 _ := ⟨S.size, S.defers, Lk.cons (S.g 0 rfl) (Lk.nil)⟩
  obtain ⟨f, hf, hfk⟩ := st_frame S
  have h0 : f 0 = .bool true := hfk 0 _ rfl
  clear hfk S
  subst hf
  rw [show (List.range 383).map f = [f 0, f 1, f 2, f 3, f 4, f 5, f 6, f 7, f 8, f 9, f 10, f 11, f 12, f 13, f 14, f 15, f 16, f 17, f 18, f 19, f 20, f 21, f 22, f 23, f 24, f 25, f 26, f 27, f 28, f 29, f 30, f 31, f 32, f 33, f 34, f 35, f 36, f 37, f 38, f 39, f 40, f 41, f 42, f 43, f 44, f 45, f 46, f 47, f 48, f 49, f 50, f 51, f 52, f 53, f 54, f 55, f 56, f 57, f 58, f 59, f 60, f 61, f 62, f 63, f 64, f 65, f 66, f 67, f 68, f 69, f 70, f 71, f 72, f 73, f 74, f 75, f 76, f 77, f 78, f 79, f 80, f 81, f 82, f 83, f 84, f 85, f 86, f 87, f 88, f 89, f 90, f 91, f 92, f 93, f 94, f 95, f 96, f 97, f 98, f 99, f 100, f 101, f 102, f 103, f 104, f 105, f 106, f 107, f 108, f 109, f 110, f 111, f 112, f 113, f 114, f 115, f 116, f 117, f 118, f 119, f 120, f 121, f 122, f 123, f 124, f 125, f 126, f 127, f 128, f 129, f 130, f 131, f 132, f 133, f 134, f 135, f 136, f 137, f 138, f 139, f 140, f 141, f 142, f 143, f 144, f 145, f 146, f 147, f 148, f 149, f 150, f 151, f 152, f 153, f 154, f 155, f 156, f 157, f 158, f 159, f 160, f 161, f 162, f 163, f 164, f 165, f 166, f 167, f 168, f 169, f 170, f 171, f 172, f 173, f 174, f 175, f 176, f 177, f 178, f 179, f 180, f 181, f 182, f 183, f 184, f 185, f 186, f 187, f 188, f 189, f 190, f 191, f 192, f 193, f 194, f 195, f 196, f 197, f 198, f 199, f 200, f 201, f 202, f 203, f 204, f 205, f 206, f 207, f 208, f 209, f 210, f 211, f 212, f 213, f 214, f 215, f 216, f 217, f 218, f 219, f 220, f 221, f 222, f 223, f 224, f 225, f 226, f 227, f 228, f 229, f 230, f 231, f 232, f 233, f 234, f 235, f 236, f 237, f 238, f 239, f 240, f 241, f 242, f 243, f 244, f 245, f 246, f 247, f 248, f 249, f 250, f 251, f 252, f 253, f 254, f 255, f 256, f 257, f 258, f 259, f 260, f 261, f 262, f 263, f 264, f 265, f 266, f 267, f 268, f 269, f 270, f 271, f 272, f 273, f 274, f 275, f 276, f 277, f 278, f 279, f 280, f 281, f 282, f 283, f 284, f 285, f 286, f 287, f 288, f 289, f 290, f 291, f 292, f 293, f 294, f 295, f 296, f 297, f 298, f 299, f 300, f 301, f 302, f 303, f 304, f 305, f 306, f 307, f 308, f 309, f 310, f 311, f 312, f 313, f 314, f 315, f 316, f 317, f 318, f 319, f 320, f 321, f 322, f 323, f 324, f 325, f 326, f 327, f 328, f 329, f 330, f 331, f 332, f 333, f 334, f 335, f 336, f 337, f 338, f 339, f 340, f 341, f 342, f 343, f 344, f 345, f 346, f 347, f 348, f 349, f 350, f 351, f 352, f 353, f 354, f 355, f 356, f 357, f 358, f 359, f 360, f 361, f 362, f 363, f 364, f 365, f 366, f 367, f 368, f 369, f 370, f 371, f 372, f 373, f 374, f 375, f 376, f 377, f 378, f 379, f 380, f 381, f 382] by kernel_rfl]
  rw [h0]
  clear h0
  go_wp2_with fail
  go_ret
  exact Ret.mk rfl Gw.h
end Go.Proofs.Ythackfblfkpddaa
