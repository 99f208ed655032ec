/- Proved: for every function, pawnshoplaw09.EncodeHead returns true, and its argument reads as before. No condition. -/
import Derived.Test.YtafcdabiplcjiaaL09x
import Derived.Test.YtafcdabiplcjiaaRead
import Derived.ProofKit
import Derived.ChangeOld
import Derived.OpenShut
namespace Go.Proofs.Ytafcdabiplcjiaa
open Go.ChangeShapes Go.WideShapes Go.ChangeAt Go.RowKit
set_option linter.unusedVariables false

theorem own_knob : ownKnob Try.prog.godebug = none := by kernel_rfl
theorem laid_out : laidOutB Try.prog = true := by kernel_rfl
theorem okWide_agg {P : Program} {w : World} {r : Reach} {base : Nat} {t : TypeId} {v : Value} {fs : Array Field} (ht : P.underlying t = some (.struct fs)) (h : Value.okWide P w r base t v) : ∃ cs, v = .agg cs := by
  simp only [Value.okWide, ht] at h
  obtain ⟨cs, h, _⟩ := h; exact ⟨cs, h⟩

set_option maxRecDepth 100000 in
theorem encodeHead_lifted (os : Os) (started : os.Started) (H : Type) (enc : TypeId × Value → H) :
    ReturnsInHanded {} Try.checked os 7 .any (Rows.encodeHeadSpec.pre6 enc Try.prog Try.f7 Rows.encodeHeadRow.domain false) (Rows.encodeHeadSpec.post enc Try.prog Try.f7 false true false false) := by
  refine returnsInHanded_of_change (C := Try.checked) own_knob started (by kernel_rfl) Try.func7
    (ChangeSpec.witness6 (enc := enc) (C := Try.checked) false ⟨#[], #[.agg #[.int .i64 0, .bool false, .slice none 0 0, .slice none 0 0]], []⟩ 8 (by kernel_rfl) (by kernel_rfl) (by kernel_rfl) (by kernel_rfl)) ?_
  intro W base args ds gs before hval0 hW hcnd _
  have hval : ∀ (j : Nat) t v, Try.f7.params[j]? = some t → args[j]? = some v → Value.okWide Try.prog W .any base t v := hval0
  have hW' := hW
  obtain ⟨p, q, hA0, hV, rfl, hfz, hnd⟩ := hW
  have hA : DataW.TrodAll enc Try.prog W 0 (fun _ => true) true Try.f7.params.toList args.toList ds p := hA0
  rw [Try.params7] at hA hval
  obtain ⟨v0, vs0, d0, ds0, p0, q0, hargs, rfl, rfl, h0, r0⟩ := trodAll_cons hA
  obtain ⟨rfl, rfl, rfl⟩ := trodAll_nil r0
  obtain rfl : args = #[v0] := by cases args; simp_all
  obtain ⟨rfl, rfl⟩ := trodVars_none hV
  have k0 := h0
  have lt0 : ∀ x ∈ p0, x.block < W.heap.size := by obtain ⟨m, hm⟩ := k0; exact DataW.trod_lt m _ _ _ hm
  obtain ⟨a0, s0_locals_a, s0_locals_n, s0_locals_c, s0_blocks_a, s0_blocks_n, s0_blocks_c, rfl, hs0, hs0_0, hs0_1⟩ : ∃ (x : Fn) (locals_a : Option Addr) (locals_n locals_c : Nat) (blocks_a : Option Addr) (blocks_n blocks_c : Nat), v0 = x.v (.slice locals_a locals_n locals_c) (.slice blocks_a blocks_n blocks_c) ∧ x.wf ∧ Sl (Old W) W (.slice locals_a locals_n locals_c) x.locals ∧ Sl (Old W) W (.slice blocks_a blocks_n blocks_c) x.blocks := by
    obtain ⟨cs, rfl⟩ := okWide_agg Try.underlying25 (hval 0 _ v0 rfl rfl)
    obtain ⟨fuel, hf⟩ := h0
    obtain ⟨x, s0_locals_a, s0_locals_n, s0_locals_c, s0_blocks_a, s0_blocks_n, s0_blocks_c, he, hw, hs0_0, hs0_1⟩ := rd_Fn hf
    exact ⟨x, s0_locals_a, s0_locals_n, s0_locals_c, s0_blocks_a, s0_blocks_n, s0_blocks_c, by simp only [Value.cells] at he; rw [← Array.toArray_toList (xs := cs), he], hw, hs0_0, hs0_1⟩
  clear hA0 hval0
  refine (law_EncodeHead a0 (.slice s0_locals_a s0_locals_n s0_locals_c) (.slice s0_blocks_a s0_blocks_n s0_blocks_c) W hs0 hs0_0 hs0_1).mono fun e W' ⟨he, bel⟩ => ?_
  subst he
  have bel : Below W.heap.size W W' := bel
  exact ⟨_, rfl, _, _, _, [], _, [], hW', trodAll_mk1 (shut_bool Try.underlying4 _), (trodAll_cons_mk (Below.trod laid_out (by kernel_rfl) (of_decide_eq_true (by kernel_rfl)) k0 bel lt0) trodAll_mk0), rfl, bel.frame _, fun h => by cases h⟩

theorem encodeHead_holds : Rows.EncodeHeadSaid :=
  OpenClaim.holds_of_wide 7 Try.f7 rfl rfl rfl rfl rfl rfl rfl ⟨rfl, rfl, rfl, rfl, rfl⟩ rfl rfl rfl rfl rfl (by kernel_rfl) Try.func7 (by kernel_rfl)
    (of_decide_eq_true (by kernel_rfl)) (by unfold Func.isWrapper; first | (rw [if_pos (by decide +kernel)]; kernel_rfl) | (rw [if_neg (by decide +kernel)]; exact ⟨rfl, rfl⟩))
    (fun os started H enc _ => encodeHead_lifted os started H enc)
#print axioms encodeHead_holds
end Go.Proofs.Ytafcdabiplcjiaa
