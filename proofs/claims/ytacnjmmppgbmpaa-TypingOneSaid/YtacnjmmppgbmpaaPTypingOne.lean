/- Proved: for every list of types, type, operand, rvalue and place, pawnshoplaw14.TypingOne returns true, and its arguments read as before. No condition. -/
import Derived.Test.YtacnjmmppgbmpaaLO14c
import Derived.SizedLaws
import Derived.Test.YtacnjmmppgbmpaaRead
import Derived.ProofKit
import Derived.ChangeOld
import Derived.OpenShut
namespace Go.Proofs.Ytacnjmmppgbmpaa
open Go.ChangeShapes Go.WideShapes Go.ChangeAt Go.RowKit
set_option linter.unusedVariables false

theorem own_knob : ownKnob Try.prog.godebug = none := by kernel_rfl
theorem laid_out : laidOutB Try.prog = true := by kernel_rfl
theorem okWide_agg {P : Program} {w : World} {r : Reach} {base : Nat} {t : TypeId} {v : Value} {fs : Array Field} (ht : P.underlying t = some (.struct fs)) (h : Value.okWide P w r base t v) : ∃ cs, v = .agg cs := by
  simp only [Value.okWide, ht] at h
  obtain ⟨cs, h, _⟩ := h; exact ⟨cs, h⟩

set_option maxRecDepth 100000 in
theorem typingOne_lifted (os : Os) (started : os.Started) (H : Type) (enc : TypeId × Value → H) :
    ReturnsInHanded {} Try.checked os 4 .any (Rows.typingOneSpec.pre6 enc Try.prog Try.f4 Rows.typingOneRow.domain false) (Rows.typingOneSpec.post enc Try.prog Try.f4 false true false false) := by
  refine returnsInHanded_of_change_sized (C := Try.checked) own_knob started (by kernel_rfl) Try.func4
    (ChangeSpec.witness6 (enc := enc) (C := Try.checked) false ⟨#[], #[.slice none 0 0, .agg #[.int .u8 0, .int .u8 0], .agg #[.int .u8 0, .int .i64 0, .int .i64 0, .bool false, .int .u8 0], .agg #[.int .u8 0, .int .u8 0, .int .u8 0, .int .u8 0, .int .i64 0, .int .i64 0, .bool false, .int .u8 0, .int .u8 0, .int .i64 0, .int .i64 0, .bool false, .int .u8 0, .int .i64 0, .bool false, .int .u8 0], .agg #[.int .i64 0, .bool false, .int .u8 0]], []⟩ 8 (by kernel_rfl) (by kernel_rfl) (by kernel_rfl) (by kernel_rfl)) ?_
  intro W base args ds gs before hval0 hW hcnd hszd _
  have hval : ∀ (j : Nat) t v, Try.f4.params[j]? = some t → args[j]? = some v → Value.okWide Try.prog W .any base t v := hval0
  have hW' := hW
  obtain ⟨p, q, hA0, hV, rfl, hfz, hnd⟩ := hW
  have hA : DataW.TrodAll enc Try.prog W 0 (fun _ => true) true Try.f4.params.toList args.toList ds p := hA0
  rw [Try.params4] at hA hval
  obtain ⟨v0, vs0, d0, ds0, p0, q0, hargs, rfl, rfl, h0, r0⟩ := trodAll_cons hA
  obtain ⟨v1, vs1, d1, ds1, p1, q1, rfl, rfl, rfl, h1, r1⟩ := trodAll_cons r0
  obtain ⟨v2, vs2, d2, ds2, p2, q2, rfl, rfl, rfl, h2, r2⟩ := trodAll_cons r1
  obtain ⟨v3, vs3, d3, ds3, p3, q3, rfl, rfl, rfl, h3, r3⟩ := trodAll_cons r2
  obtain ⟨v4, vs4, d4, ds4, p4, q4, rfl, rfl, rfl, h4, r4⟩ := trodAll_cons r3
  obtain ⟨rfl, rfl, rfl⟩ := trodAll_nil r4
  obtain rfl : args = #[v0, v1, v2, v3, v4] := by cases args; simp_all
  obtain ⟨rfl, rfl⟩ := trodVars_none hV
  have k0 := h0
  have k1 := h1
  have k2 := h2
  have k3 := h3
  have k4 := h4
  have lt0 : ∀ x ∈ p0, x.block < W.heap.size := by obtain ⟨m, hm⟩ := k0; exact DataW.trod_lt m _ _ _ hm
  have lt1 : ∀ x ∈ p1, x.block < W.heap.size := by obtain ⟨m, hm⟩ := k1; exact DataW.trod_lt m _ _ _ hm
  have lt2 : ∀ x ∈ p2, x.block < W.heap.size := by obtain ⟨m, hm⟩ := k2; exact DataW.trod_lt m _ _ _ hm
  have lt3 : ∀ x ∈ p3, x.block < W.heap.size := by obtain ⟨m, hm⟩ := k3; exact DataW.trod_lt m _ _ _ hm
  have lt4 : ∀ x ∈ p4, x.block < W.heap.size := by obtain ⟨m, hm⟩ := k4; exact DataW.trod_lt m _ _ _ hm
  obtain ⟨a0, hs0, hz0⟩ : ∃ ts : List Ty, Sl (Old W) W v0 ts ∧ ts.length * Try.prog.bytesOf 30 ≤ reachBytes := by
    obtain ⟨a, n, c, rfl⟩ := okWide_slice Try.underlying22 (hval 0 _ v0 rfl rfl)
    obtain ⟨fuel, hf⟩ := h0
    obtain ⟨a', n', c', xs, he, hs⟩ := rd_slice (α := Ty) Try.underlying22 cells_Ty (by decide) (fun n cs z hz => by obtain ⟨x, _, rfl, hw⟩ := rd_Ty hz; exact ⟨x, rfl, hw⟩) hf
    simp [Value.cells] at he
    obtain ⟨rfl, rfl, rfl⟩ := he
    refine ⟨xs, hs, ?_⟩
    have hlen := hs.len
    rcases DataW.trod_slice Try.underlying22 hf with ⟨he0, _⟩ | ⟨b1, len, cap1, elems, rest, nn, _, he0, hx, _, _, _, hel, _⟩
    · simp [Value.cells] at he0; have h00 : xs.length = 0 := (by omega); rw [h00]; simp
    · simp [Value.cells] at he0
      have hd := congrArg Prod.fst hx
      simp only at hd
      have hs1 := sized_slice (j := 0) hszd (by kernel_rfl) (by show some _ = some _; rw [hd]) Try.underlying22
      rw [List.length_map] at hs1
      have hle : xs.length ≤ elems.length := by omega
      exact Nat.le_trans (Nat.mul_le_mul_right _ (Nat.le_trans hle (Nat.le_add_right _ _))) hs1
  obtain ⟨a1, rfl, hs1⟩ : ∃ (x : Ty), v1 = x.v  ∧ x.wf := by
    obtain ⟨cs, rfl⟩ := okWide_agg Try.underlying30 (hval 1 _ v1 rfl rfl)
    obtain ⟨fuel, hf⟩ := h1
    obtain ⟨x, _, he, hw⟩ := rd_Ty hf
    exact ⟨x, by simp only [Value.cells] at he; rw [← Array.toArray_toList (xs := cs), he], hw⟩
  obtain ⟨a2, rfl, hs2⟩ : ∃ (x : Opd), v2 = x.v  ∧ x.wf := by
    obtain ⟨cs, rfl⟩ := okWide_agg Try.underlying26 (hval 2 _ v2 rfl rfl)
    obtain ⟨fuel, hf⟩ := h2
    obtain ⟨x, _, he, hw⟩ := rd_Opd hf
    exact ⟨x, by simp only [Value.cells] at he; rw [← Array.toArray_toList (xs := cs), he], hw⟩
  obtain ⟨a3, rfl, hs3⟩ : ∃ (x : Rv), v3 = x.v  ∧ x.wf := by
    obtain ⟨cs, rfl⟩ := okWide_agg Try.underlying28 (hval 3 _ v3 rfl rfl)
    obtain ⟨fuel, hf⟩ := h3
    obtain ⟨x, _, he, hw⟩ := rd_Rv hf
    exact ⟨x, by simp only [Value.cells] at he; rw [← Array.toArray_toList (xs := cs), he], hw⟩
  obtain ⟨a4, rfl, hs4⟩ : ∃ (x : Pl), v4 = x.v  ∧ x.wf := by
    obtain ⟨cs, rfl⟩ := okWide_agg Try.underlying24 (hval 4 _ v4 rfl rfl)
    obtain ⟨fuel, hf⟩ := h4
    obtain ⟨x, _, he, hw⟩ := rd_Pl hf
    exact ⟨x, by simp only [Value.cells] at he; rw [← Array.toArray_toList (xs := cs), he], hw⟩
  clear hA0 hval0
  refine (law_TypingOne v0 a0 a1 a2 a3 a4 W hs0 (by have z := hz0; have e2 : Try.prog.bytesOf 30 = 2 := (by kernel_rfl); rw [e2] at z; exact z) hs1 hs2 hs3 hs4).mono fun e W' ⟨he, bel⟩ => ?_
  subst he
  have bel : Below W.heap.size W W' := bel
  exact ⟨_, rfl, _, _, _, [], _, [], hW', trodAll_mk1 (shut_bool Try.underlying4 _), (trodAll_cons_mk (Below.trod laid_out (by kernel_rfl) (of_decide_eq_true (by kernel_rfl)) k0 bel lt0) (trodAll_cons_mk (Below.trod laid_out (by kernel_rfl) (of_decide_eq_true (by kernel_rfl)) k1 bel lt1) (trodAll_cons_mk (Below.trod laid_out (by kernel_rfl) (of_decide_eq_true (by kernel_rfl)) k2 bel lt2) (trodAll_cons_mk (Below.trod laid_out (by kernel_rfl) (of_decide_eq_true (by kernel_rfl)) k3 bel lt3) (trodAll_cons_mk (Below.trod laid_out (by kernel_rfl) (of_decide_eq_true (by kernel_rfl)) k4 bel lt4) trodAll_mk0))))), rfl, bel.frame _, fun h => by cases h⟩

theorem typingOne_holds : Rows.TypingOneSaid :=
  OpenClaim.holds_of_wide 4 Try.f4 rfl rfl rfl rfl rfl rfl rfl ⟨rfl, rfl, rfl, rfl, rfl⟩ rfl rfl rfl rfl rfl (by kernel_rfl) Try.func4 (by kernel_rfl)
    (of_decide_eq_true (by kernel_rfl)) (by unfold Func.isWrapper; first | (rw [if_pos (by decide +kernel)]; kernel_rfl) | (rw [if_neg (by decide +kernel)]; exact ⟨rfl, rfl⟩))
    (fun os started H enc _ => typingOne_lifted os started H enc)
#print axioms typingOne_holds
end Go.Proofs.Ytacnjmmppgbmpaa
