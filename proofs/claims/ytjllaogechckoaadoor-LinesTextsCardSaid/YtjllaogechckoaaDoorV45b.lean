/- Layer 45: slices of the call's own, more. -/
import Derived.Test.YtjllaogechckoaaDoorV45
namespace Go.Proofs.YtjllaogechckoaaDoor
open Go.RowKit
set_option linter.unusedSimpArgs false
set_option linter.unusedVariables false

theorem ext_ext (W : World) (x y : Ext) : ext (ext W x) y = ext W ⟨y.d, x.x ++ y.x⟩ := by simp [ext, Array.append_assoc]
theorem ext_self (W : World) : ext W ⟨W.drawn, #[]⟩ = W := by simp [ext]
theorem Own.open {α : Type} [Rp α] {F : Nat → Prop} {base : Nat} {e : TypeId} {w : World} {v : Value} {xs : List α} (h : Own F base e w v xs) : ∃ a n cap, v = .slice a n cap ∧ Hid (n = xs.length) ∧ n ≤ 140737488355328 ∧ Own F base e w (.slice a n cap) xs := by
  obtain ⟨a, cap, rfl, hl⟩ := h.shape
  exact ⟨a, _, cap, rfl, Lib.hid rfl, hl, h⟩
theorem slT_str : SlT Tryd.prog 49 9 1 16 := SlT.mk' (z := .string ⟨#[]⟩) Tryd.underlying49 (by kernel_rfl) rfl (by omega)
theorem slT_i64 : SlT Tryd.prog 29 2 1 8 := SlT.mk' (z := .int .i64 0) Tryd.underlying29 (by kernel_rfl) rfl (by omega)
theorem bs_one : ∀ (G : Nat → Prop) (w : World) (x : Bs) cs, Rp.R G w x cs → ∀ u ∈ cs, u.oneCell' = true := by
  rintro G w x cs rfl u hu; simp at hu; subst hu; rfl
theorem int_one : ∀ (G : Nat → Prop) (w : World) (x : Int) cs, Rp.R G w x cs → ∀ u ∈ cs, u.oneCell' = true := by
  rintro G w x cs ⟨rfl, _⟩ u hu; simp at hu; subst hu; rfl
end Go.Proofs.YtjllaogechckoaaDoor
