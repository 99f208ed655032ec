/- Sets of numbers, kept as a map from int to bool that a call itself makes. -/
import Derived.Test.YtiikhfjdpaofdaaL07
import Derived.Maps.Own
import Derived.Maps.Views
import Derived.Maps.OwnSet
namespace Go.Proofs.Ytiikhfjdpaofdaa
open Go.RowKit Go.Maps
set_option linter.unusedSimpArgs false
set_option linter.unusedVariables false

theorem keyInt : Keyed Try.prog 3 := int_keyed Try.underlying3
theorem lit64 {c : Int} (h : I64 c) : (Lit.int .i64 c).wf = true := by
  unfold I64 at h; simp [Lit.wf, IntKind.min, IntKind.max, IntKind.bits, IntKind.signed]; omega
/-- Block B is a map that holds true at just the numbers of S. -/
def MapB (w : World) (B : Nat) (n : Nat) (S : Int → Bool) : Prop :=
  ∃ D : DataW Unit, w.ownsMap Try.prog 3 (plainElem Try.prog 4) B n D ∧ ∀ c, D.atKey (.int .i64 c) (.lit (.bool false)) = .lit (.bool (S c))
theorem MapB.made (w : World) : MapB (w.alloc (.map #[] 0)) w.heap.size 0 (fun _ => false) :=
  ⟨_, World.ownsMap_made w _ _ _, fun c => rfl⟩
theorem MapB.kept {w w' : World} {row : Option Nat} {B n : Nat} {S : Int → Bool} (h : MapB w B n S) (hg : w.grownBy w' row) (hne : some B ≠ row) : MapB w' B n S := by
  obtain ⟨D, h1, h2⟩ := h; exact ⟨D, h1.kept hg hne, h2⟩
theorem MapB.lt {w : World} {B n : Nat} {S : Int → Bool} (h : MapB w B n S) : B < w.heap.size := by obtain ⟨D, h1, h2⟩ := h; exact h1.lt
theorem MapB.look {w : World} {B n : Nat} {S : Int → Bool} (h : MapB w B n S) {c : Int} (hc : I64 c) : (Instr.lookup 89 (.map (some B)) (.int .i64 c) false).run Try.prog w = .ok (.bool (S c)) w := by
  obtain ⟨D, h1, h2⟩ := h
  obtain ⟨v, ps, hr, hv⟩ := h1.lookup keyInt Try.underlying89 (z := .bool false) (by kernel_rfl) (plainElem_bool Try.underlying4 false) (keyOf_int_mk Try.underlying3 (lit64 hc))
  rw [h2 c] at hv
  rw [hr]
  have : v = .bool (S c) := by
    unfold plainElem at hv
    have hb := Try.underlying4
    generalize (Program.underlying Try.prog 4) = u at hv hb
    subst hb
    cases v <;> simp at hv
    rw [hv.1]
  rw [this]
theorem MapB.put {w : World} {B n : Nat} {S : Int → Bool} (h : MapB w B n S) (hn : n < 1000000) {c : Int} (hc : I64 c) : ∃ w', (Instr.mapUpdate 89 (.map (some B)) (.int .i64 c) (.bool true)).run Try.prog w = .ok () w' ∧ MapB w' B (n + 1) (fun x => if x = c then true else S x) ∧ w.grownBy w' (some B) := by
  obtain ⟨D, h1, h2⟩ := h
  obtain ⟨w', hr, h3, h4⟩ := h1.update keyInt Try.underlying89 (by unfold maxLen; omega) (keyOf_int_mk Try.underlying3 (lit64 hc)) (plainElem_bool Try.underlying4 true)
  refine ⟨w', hr, ⟨_, h3, fun x => ?_⟩, h4⟩
  by_cases e : x = c
  · subst e; rw [atKey_put_same (k := Lit.int .i64 x) h1.isMap (show WideAt.IsKeyLit (Lit.int .i64 x) from trivial)]; simp
  · rw [atKey_put_other (by simp [e]), h2 x]; simp [e]
end Go.Proofs.Ytiikhfjdpaofdaa
