/- Layer 9: the law of the names: one(), with its memory written out; 23 blocks appended. -/
import Derived.Test.YtafcdabiplcjiaaLE09b
namespace Go.Proofs.Ytafcdabiplcjiaa
open Go.RowKit
set_option linter.unusedSimpArgs false
set_option linter.unusedVariables false

/-- One element in a row of its own. -/
theorem own_one {α : Type} [Rp α] {base g : Nat} {e : TypeId} {w : World} {y : α} {cs : List Value} (hg : w.heap[g]? = some (.cells cs.toArray e)) (hb : base ≤ g) (hR : Rp.R (fun _ => False) w y cs) :
    Own (fun _ => False) base e w (.slice (some ⟨g, 0, none⟩) 1 1) [y] := by
  have hl := Rp.len hR
  refine ⟨fun _ => False, [cs], fun _ h => h.elim, rfl, (fun i h h' => by obtain rfl : i = 0 := (by simpa using h); exact hR), by simp, ?_, .inr ⟨g, 1, _, rfl, hb, hg, Nat.le_refl _, by unfold maxLen; omega, by simp [hl], ?_⟩⟩
  · simp [hl]
  · simp [hl, List.take_of_length_le]
set_option maxHeartbeats 1000000 in
theorem law09_one2 (w : World) : Calls Try.prog 20 #[] w (fun e w' => e = .returned (.agg #[.int .i64 0, .bool false, .slice (some ⟨w.heap.size + 1, 0, none⟩) 1 1, .slice (some ⟨w.heap.size + 1 + 1, 0, none⟩) 1 1]) ∧
    w' = ((w.alloc (.cells #[.int .i64 0, .bool false, .slice (some ⟨w.heap.size + 1, 0, none⟩) 1 1, .slice (some ⟨w.heap.size + 1 + 1, 0, none⟩) 1 1] 25)).alloc (.cells #[.int .u8 1, .int .u8 0] 65)).alloc (.cells #[.slice none 0 0, .int .u8 3, .int .u8 0, .int .i64 0, .int .i64 0, .bool false, .int .u8 0, .int .i64 0, .int .i64 0, .int .i64 0, .slice none 0 0, .int .i64 0, .bool false, .int .u8 0] 57)) := by
  go_enter Try.func20, Try.ntmps20
  go_wp2_with fail
  (try simp only [Exit.inBlock, Exit.then])
  refine bodyPost_ret (v := .agg #[.int .i64 0, .bool false, .slice (some ⟨w.heap.size + 1, 0, none⟩) 1 1, .slice (some ⟨w.heap.size + 1 + 1, 0, none⟩) 1 1]) (by simp only [results, Try.results20]; go_simp) rfl ⟨rfl, rfl⟩
abbrev kM : Opd := ⟨3, 0, ⟨3, false, 1⟩⟩
abbrev k64 : Opd := ⟨1, 64, kP⟩
abbrev j1 : Ju := ⟨1, kO, 0, 0, 0, [], kP⟩
abbrev j2 : Ju := ⟨2, kM, 0, 0, 0, [], kP⟩
abbrev j3 : Ju := ⟨5, kO, 0, 0, 0, [], kP⟩
abbrev j4 : Ju := ⟨4, kO, 7, 0, 0, [kM, k64], ⟨14, true, 0⟩⟩
theorem jumps_ok : (fnL (wrF [] j1) = [1, 1, 16] ++ zeros16 ++ [1] ++ [0, 1, 0] ∧ fnR (wrF [] j1) = 0) ∧ (fnL (wrF [] j2) = [1, 1, 16] ++ zeros16 ++ [1] ++ [0, 2, 3, 19, 0, 0] ∧ fnR (wrF [] j2) = 0) ∧
    (fnL (wrF [] j3) = [1, 1, 16] ++ zeros16 ++ [1] ++ [0, 5] ∧ fnR (wrF [] j3) = 0) ∧ (fnL (wrF [] j4) = [1, 1, 16] ++ zeros16 ++ [1] ++ [0, 4, 7, 2, 3, 19, 1, 128, 1, 87, 0] ∧ fnR (wrF [] j4) = 0) := by decide +kernel
theorem js_wf : j1.wf ∧ j2.wf ∧ j3.wf ∧ j4.wf := by
  refine ⟨?_, ?_, ?_, ?_⟩ <;> (refine ⟨?_, ⟨?_, ?_, ⟨?_, ?_⟩⟩, ?_, ?_, ?_, ⟨?_, ?_⟩⟩ <;> first | (unfold U8; dsimp only; omega) | (unfold I64; dsimp only; omega))
theorem args_wf : ∀ o ∈ [kM, k64], o.wf := by
  intro o ho
  simp only [List.mem_cons, List.not_mem_nil, or_false] at ho
  rcases ho with rfl | rfl
  all_goals refine ⟨?_, ?_, ⟨?_, ?_⟩⟩ <;> first | (unfold U8; dsimp only; omega) | (unfold I64; dsimp only; omega)
theorem sl_args {w : World} {g : Nat} {e : TypeId} (hg : w.heap[g]? = some (.cells (([kM, k64].map Opd.c).flatten.toArray) e)) : Sl (fun _ => True) w (.slice (some ⟨g, 0, none⟩) 2 2) [kM, k64] := by
  have h := Rows8.sl (α := Opd) (xs := [kM, k64]) (cap := 2) (F := fun _ => True) (Rows8.flat (α := Opd) (xs := [kM, k64]) (F := fun _ => True) (w := w) ([kM, k64].map Opd.c) (by simp) (fun i h h' => by simp only [List.getElem_map]; exact ⟨rfl, args_wf _ (List.getElem_mem h)⟩) rfl) hg (Agr.refl _ _) (by decide) (by omega)
  exact h.wide (fun _ _ _ => trivial)
end Go.Proofs.Ytafcdabiplcjiaa
