/- Proved: for every input the law LinesTexts returns true: all functions of chapter 45 return what the reference returns. Conditions: the seven listed package-level variables read as start-up code lays them (the card ties them to the text of the program). -/
import Derived.Test.YtjllaogechckoaaDoorLT45
import Derived.Test.YtjllaogechckoaaDoorR45
import Derived.Test.YtjllaogechckoaaDoorTie
import Derived.Test.YtjllaogechckoaaDoorCards
namespace Go.Proofs.YtjllaogechckoaaDoor
open Go.ChangeShapes Go.WideShapes Go.ChangeAt Go.RowKit
set_option linter.unusedVariables false

theorem own_knob : ownKnob Tryd.prog.godebug = none := by kernel_rfl
theorem laid_out : laidOutB Tryd.prog = true := by kernel_rfl
theorem okWide_agg {P : Program} {w : World} {r : Reach} {base : Nat} {t : TypeId} {v : Value} {fs : Array Field} (ht : P.underlying t = some (.struct fs)) (h : Value.okWide P w r base t v) : ∃ cs, v = .agg cs := by
  simp only [Value.okWide, ht] at h
  obtain ⟨cs, h, _⟩ := h; exact ⟨cs, h⟩

set_option maxRecDepth 100000 in
theorem linesTexts_lifted (os : Os) (started : os.Started) (H : Type) (enc : TypeId × Value → H) :
    ReturnsInHanded {} Tryd.checked os 3 .any (fun w args => (Rows.linesTextsSpec.pre enc Tryd.prog Tryd.f3 Rows.linesTextsRow.domain false w args ∧ laidMetH Tryd.prog Rows.linesTextsRow.laid w) ∧ sizedMet enc Tryd.prog Tryd.f3 (OpenSpec.ofChange Rows.linesTextsSpec) false w args) (Rows.linesTextsSpec.post enc Tryd.prog Tryd.f3 false true false false) := by
  refine returnsInHanded_laid (C := Tryd.checked) (laid := Rows.linesTextsRow.laid) own_knob started (by kernel_rfl) Tryd.func3
    (ChangeSpec.witness_shaped (enc := enc) (C := Tryd.checked) (os := os) (X := fun w _ => laidMetH Tryd.prog Rows.linesTextsRow.laid w) false (World.laidAll Tryd.prog os Rows.linesTextsRow.laid) #[.agg #[.int .u8 0, .int .i64 0, .int .i64 0, .int .i64 0, .int .i64 0, .int .i64 0, .bool false, .int .u8 0, .bool false, .bool false, .int .u8 0, .int .i64 0, .slice none 0 0, .slice none 0 0], .int .u8 0, .string ⟨#[]⟩] 8 (World.laidAll_os _ _ _)
      (World.shaped_of_ZipB (by kernel_rfl) (by kernel_rfl)) (by kernel_rfl) (by kernel_rfl) (by kernel_rfl)
      (by rw [MakeChecks.laidMetH_plain _ _ _ (by kernel_rfl)]; exact laidMet_laidAll _ (by kernel_rfl) (by kernel_rfl))) ?_
  intro W base args ds gs before hval0 hW hcnd _ hL hsh _
  have hval : ∀ (j : Nat) t v, Tryd.f3.params[j]? = some t → args[j]? = some v → Value.okWide Tryd.prog W .any base t v := hval0
  have hW' := hW
  obtain ⟨p, q, hA0, hV, rfl, hfz, hnd⟩ := hW
  have hA : DataW.TrodAll enc Tryd.prog W 0 (fun _ => true) true Tryd.f3.params.toList args.toList ds p := hA0
  rw [Tryd.params3] at hA hval
  obtain ⟨v0, vs0, d0, ds0, p0, q0, hargs, rfl, rfl, h0, r0⟩ := trodAll_cons hA
  obtain ⟨v1, vs1, d1, ds1, p1, q1, rfl, rfl, rfl, h1, r1⟩ := trodAll_cons r0
  obtain ⟨v2, vs2, d2, ds2, p2, q2, rfl, rfl, rfl, h2, r2⟩ := trodAll_cons r1
  obtain ⟨rfl, rfl, rfl⟩ := trodAll_nil r2
  obtain rfl : args = #[v0, v1, v2] := by cases args; simp_all
  obtain ⟨rfl, rfl⟩ := trodVars_none hV
  have k0 := h0
  have k1 := h1
  have k2 := h2
  have lt0 : ∀ x ∈ p0, x.block < W.heap.size := by obtain ⟨m, hm⟩ := k0; exact DataW.trod_lt m _ _ _ hm
  have lt1 : ∀ x ∈ p1, x.block < W.heap.size := by obtain ⟨m, hm⟩ := k1; exact DataW.trod_lt m _ _ _ hm
  have lt2 : ∀ x ∈ p2, x.block < W.heap.size := by obtain ⟨m, hm⟩ := k2; exact DataW.trod_lt m _ _ _ hm
  obtain ⟨a0, pa0, pn0, pc0, ra0, rn0, rc0, rfl, ho0, hp0, hr0⟩ : ∃ (x : Ve) (pa : Option Addr) (pn pc : Nat) (ra : Option Addr) (rn rc : Nat), v0 = x.v (.slice pa pn pc) (.slice ra rn rc) ∧ x.ok ∧ Sl (Old W) W (.slice pa pn pc) x.prints ∧ Sl (Old W) W (.slice ra rn rc) x.result := by
    obtain ⟨cs, rfl⟩ := okWide_agg Tryd.underlying31 (hval 0 _ v0 rfl rfl)
    obtain ⟨fuel, hf⟩ := h0
    obtain ⟨x, pa, pn, pc, ra, rn, rc, he, hw⟩ := rd_Ve hf
    exact ⟨x, pa, pn, pc, ra, rn, rc, by simp only [Value.cells] at he; rw [← Array.toArray_toList (xs := cs), he], hw⟩
  obtain ⟨a1, rfl, hs1⟩ : ∃ n : Int, v1 = .int .u8 n ∧ U8 n := by
    obtain ⟨m, rfl⟩ := okWide_int Tryd.underlying5 (hval 1 _ v1 rfl rfl)
    obtain ⟨fuel, hf⟩ := h1
    obtain ⟨x, he, hw⟩ := rd_u8 Tryd.underlying5 hf
    simp [Value.cells] at he
    subst he
    exact ⟨m, rfl, hw⟩
  obtain ⟨a2, rfl⟩ : ∃ l : Bs, v2 = .string (str l) := by
    obtain ⟨m, rfl⟩ := okWide_string Tryd.underlying9 (hval 2 _ v2 rfl rfl)
    obtain ⟨l, rfl⟩ := str_of m
    exact ⟨l, rfl⟩
  clear hA0 hval0
  have hLd : Laid W := laid_of hL hsh
  refine (law_LinesTexts a0 (.slice pa0 pn0 pc0) (.slice ra0 rn0 rc0) a1 a2 W ho0 hp0 hr0 hs1 hLd).mono fun e W' ⟨he, bel⟩ => ?_
  subst he
  have bel : Below W.heap.size W W' := bel
  exact ⟨_, rfl, _, _, _, [], _, [], hW', trodAll_mk1 (shut_bool Tryd.underlying4 _), (trodAll_cons_mk (Below.trod laid_out (by kernel_rfl) (of_decide_eq_true (by kernel_rfl)) k0 bel lt0) (trodAll_cons_mk (Below.trod laid_out (by kernel_rfl) (of_decide_eq_true (by kernel_rfl)) k1 bel lt1) (trodAll_cons_mk (Below.trod laid_out (by kernel_rfl) (of_decide_eq_true (by kernel_rfl)) k2 bel lt2) trodAll_mk0))), rfl, bel.frame _, fun h => by cases h⟩

theorem linesTexts_row_holds : Rows.LinesTextsSaid :=
  OpenClaim.holds_of_wide 3 Tryd.f3 rfl rfl rfl rfl rfl rfl rfl ⟨rfl, rfl, rfl, rfl, rfl⟩ rfl rfl rfl rfl rfl (by kernel_rfl) Tryd.func3 (by kernel_rfl)
    (of_decide_eq_true (by kernel_rfl)) (by unfold Func.isWrapper; first | (rw [if_pos (by decide +kernel)]; kernel_rfl) | (rw [if_neg (by decide +kernel)]; exact ⟨rfl, rfl⟩))
    (fun os started H enc _ => linesTexts_lifted os started H enc)
theorem linesTexts_holds : Rows.LinesTextsCardSaid :=
  Claim7.holds_tied_plain_at .later [] [.data, .data, .data, .data, .sentinel, .sentinel, .pinned] true (true, "09895037c7e6871b3783593d7419759fb3cd8137dfbba371b9a87183802a2f27") true
    linesTexts_row_holds (fun _ h => by cases h) (by kernel_rfl) (fun _ h => by cases h) linesTexts_row_tie rfl ⟨rfl, rfl⟩ (by kernel_rfl) rfl
    (fun f fn hf hfn => by
      obtain rfl : f = 3 := Option.some.inj ((show (Tryd.prog).funcNamed "pawnshop/pawnshoplaw45.LinesTexts" = some 3 by kernel_rfl).symm.trans hf) |>.symm
      obtain rfl : fn = Tryd.f3 := (Option.some.inj (Tryd.func3.symm.trans hfn)).symm
      exact ⟨by kernel_rfl, fun j t ht => by
        rw [Tryd.params3] at ht
        have hm : t ∈ ([31, 5, 9] : List Nat) := by simpa using Array.mem_of_getElem? ht
        have hall : (([31, 5, 9] : List Nat).all fun u => !(Tryd.prog).wantsStandIn u) = true := by kernel_rfl
        exact (show (Tryd.prog).wantsStandIn t = false by simpa using List.all_eq_true.1 hall t hm)⟩)
    (by kernel_rfl)
#print axioms linesTexts_holds
end Go.Proofs.YtjllaogechckoaaDoor
