/- From a row's readings to the structures. The second part is printed by genread.py. -/
import Derived.Test.YtjllaogechckoaaDoorTypes
import Derived.ProofKit
import Derived.ChangeOld
namespace Go.Proofs.YtjllaogechckoaaDoor
open Go.RowKit Go.ChangeShapes Go.WideShapes
set_option linter.unusedSimpArgs false
set_option linter.unusedVariables false

section
variable {H : Type} {enc : TypeId × Value → H} {P : Program} {w : World} {sp : Nat → Bool}
theorem rd_struct {t : TypeId} {fs : Array Field} {fuel : Nat} {cs : List Value} {y : DataW H × List MemPlace} (hu : P.underlying t = some (.struct fs)) (h : DataW.trod enc P w 0 sp true fuel t cs = some y) :
    cs.length = P.cellsOf t ∧ ∃ n, ∀ (i : Nat) f, fs[i]? = some f → ∃ z, DataW.trod enc P w 0 sp true n f.type ((cs.drop f.offset).take (P.cellsOf f.type)) = some z := by
  obtain ⟨xs, n, _, _, hl, hx, hf⟩ := DataW.trod_struct hu h
  refine ⟨hl, n, fun i f hi => ?_⟩
  have hi' : i < xs.length := by rw [hx]; exact (Array.getElem?_eq_some_iff.1 hi).1
  exact ⟨xs[i], by rw [hf i f hi, List.getElem?_eq_getElem hi']⟩
theorem rd_u8 {t : TypeId} {fuel : Nat} {cs : List Value} {y : DataW H × List MemPlace} (hu : P.underlying t = some (.int .u8)) (h : DataW.trod enc P w 0 sp true fuel t cs = some y) : ∃ n, cs = [.int .u8 n] ∧ U8 n := by
  obtain ⟨n, h1, _, h2⟩ := DataW.trod_int hu h
  exact ⟨n, h1, by simp [Lit.wf, IntKind.min, IntKind.max, IntKind.signed, IntKind.bits] at h2; unfold U8; omega⟩
theorem rd_i64 {t : TypeId} {fuel : Nat} {cs : List Value} {y : DataW H × List MemPlace} (hu : P.underlying t = some (.int .i64)) (h : DataW.trod enc P w 0 sp true fuel t cs = some y) : ∃ n, cs = [.int .i64 n] ∧ I64 n := by
  obtain ⟨n, h1, _, h2⟩ := DataW.trod_int hu h
  exact ⟨n, h1, by simp [Lit.wf, IntKind.min, IntKind.max, IntKind.signed, IntKind.bits] at h2; unfold I64; omega⟩
theorem collect {α : Type} {Q : Nat → α → Prop} : ∀ (len : Nat), (∀ i, i < len → ∃ x, Q i x) → ∃ xs : List α, xs.length = len ∧ ∀ i (hi : i < xs.length), Q i xs[i]
  | 0, _ => ⟨[], rfl, fun i hi => by cases hi⟩
  | m + 1, key => by
    obtain ⟨xs, hxl, hx⟩ := collect m (fun i hi => key i (by omega))
    obtain ⟨x, h1⟩ := key m (by omega)
    refine ⟨xs ++ [x], by simp [hxl], fun i hi => ?_⟩
    by_cases q : i < xs.length
    · rw [List.getElem_append_left q]; exact hx i q
    · obtain rfl : i = m := by simp at hi; omega
      rw [List.getElem_append_right (by omega)]
      simpa [hxl] using h1
theorem rd_slice {α : Type} [Rp α] {t e : TypeId} {fuel : Nat} {cs : List Value} {y : DataW H × List MemPlace} (hu : P.underlying t = some (.slice e)) (hc : P.cellsOf e = Rp.sz α) (hz : 0 < Rp.sz α)
    (rd : ∀ n cs z, DataW.trod enc P w 0 sp true n e cs = some z → ∃ x : α, Rp.R (Old w) w x cs) (h : DataW.trod enc P w 0 sp true fuel t cs = some y) :
    ∃ a n cap, ∃ xs : List α, cs = [.slice a n cap] ∧ Sl (Old w) w (.slice a n cap) xs := by
  rcases DataW.trod_slice hu h with ⟨rfl, _⟩ | ⟨a, len, cap, elems, rest, n, _, rfl, _, _, hl, hm, he, hel, _, _⟩
  · exact ⟨none, 0, 0, [], rfl, Sl.nil _ _⟩
  · have key : ∀ i, i < len → ∃ x : α, ∃ cs, Rp.R (Old w) w x cs ∧ a.spot = none ∧ CellsAt w a.block (a.off + i * Rp.sz α) cs := by
      intro i hi
      have h1 := hel i hi
      rw [List.getElem?_eq_getElem (by omega)] at h1
      cases hcs : w.cells? 0 (a.add (i * P.cellsOf e)) (P.cellsOf e) with
      | none => rw [hcs] at h1; cases h1
      | some cs =>
        rw [hcs] at h1
        obtain ⟨x, hx⟩ := rd n cs _ h1
        have hlen : cs.length = Rp.sz α := Rp.len hx
        have hcell : ∀ j (hj : j < cs.length), w.cell? ((a.add (i * P.cellsOf e)).add j) = some cs[j] := by
          intro j hj
          simp only [World.cells?] at hcs
          rw [if_pos (Nat.zero_le _)] at hcs
          have := mapM_some_get hcs j j (by rw [hc]; exact List.getElem?_range (by omega))
          rw [this, List.getElem?_eq_getElem hj]
        have hspot : a.spot = none := by
          have h0 := hcell 0 (by omega)
          rw [Addr.add_zero'] at h0
          by_cases hi0 : i * P.cellsOf e = 0
          · rw [hi0, Addr.add_zero'] at h0; exact World.cell?_spot h0
          · have hlt0 : 0 < len := by omega
            have h2 := hel 0 hlt0
            rw [List.getElem?_eq_getElem (by omega)] at h2
            cases hcs0 : w.cells? 0 (a.add (0 * P.cellsOf e)) (P.cellsOf e) with
            | none => rw [hcs0] at h2; cases h2
            | some cs0 =>
              simp only [World.cells?] at hcs0
              rw [if_pos (Nat.zero_le _)] at hcs0
              have := mapM_some_get hcs0 0 0 (by rw [hc]; exact List.getElem?_range (by omega))
              have hl0 := mapM_some_length hcs0
              rw [List.getElem?_eq_getElem (by rw [hl0, hc]; simpa using hz)] at this
              rw [Nat.zero_mul, Addr.add_zero', Addr.add_zero'] at this
              exact World.cell?_spot this
        refine ⟨x, cs, hx, hspot, fun j hj => ?_⟩
        have := hcell j hj
        obtain ⟨b, off, s⟩ := a
        simp only at hspot
        subst hspot
        rw [Addr.add_lit, Addr.add_lit, hc] at this
        exact this
    obtain ⟨b, off, s⟩ := a
    have hex : ∃ xs : List α, xs.length = len ∧ ∀ i (hi : i < xs.length), ∃ cs, Rp.R (Old w) w xs[i] cs ∧ s = none ∧ CellsAt w b (off + i * Rp.sz α) cs := by
      exact collect len key
    obtain ⟨xs, hxl, hx⟩ := hex
    refine ⟨some ⟨b, off, s⟩, len, cap, xs, rfl, ?_⟩
    subst hxl
    refine ⟨_, cap, rfl, hl, by unfold maxLen at hm; exact hm, (fun e => by cases e), fun i hi => ?_⟩
    obtain ⟨cs, h1, rfl, h3⟩ := hx i hi
    exact ⟨b, off, rfl, lt_of_cell (h3 0 (by rw [Rp.len h1]; exact hz)), lt_of_cell (h3 0 (by rw [Rp.len h1]; exact hz)), cs, h1, h3⟩
theorem seg (cs : List Value) (o s : Nat) : cs.drop o = (cs.drop o).take s ++ cs.drop (o + s) := by
  rw [← List.drop_drop, List.take_append_drop]
end

theorem cells_Pl : (Tryd.prog).cellsOf 24 = 3 := by kernel_rfl
theorem rd_Pl {H : Type} {enc : TypeId × Value → H} {w : World} {sp : Nat → Bool} {fuel : Nat} {cs : List Value} {y : DataW H × List MemPlace} (h : DataW.trod enc Tryd.prog w 0 sp true fuel 24 cs = some y) : ∃ x : Pl, ∃ _ : Unit, cs = x.c ∧ x.wf := by
  obtain ⟨hl, n, hf⟩ := rd_struct Tryd.underlying24 h
  rw [cells_Pl] at hl
  have w0 := hf 0 _ rfl
  change ∃ z, DataW.trod enc Tryd.prog w 0 sp true n 3 (List.take ((Tryd.prog).cellsOf 3) (List.drop 0 cs)) = some z at w0
  rw [show (Tryd.prog).cellsOf 3 = 1 from by kernel_rfl] at w0
  obtain ⟨z0, h0⟩ := w0
  obtain ⟨v0, e0, g0⟩ := rd_i64 Tryd.underlying3 h0
  have w1 := hf 1 _ rfl
  change ∃ z, DataW.trod enc Tryd.prog w 0 sp true n 4 (List.take ((Tryd.prog).cellsOf 4) (List.drop 1 cs)) = some z at w1
  rw [show (Tryd.prog).cellsOf 4 = 1 from by kernel_rfl] at w1
  obtain ⟨z1, h1⟩ := w1
  obtain ⟨v1, e1, _⟩ := DataW.trod_bool Tryd.underlying4 h1
  have w2 := hf 2 _ rfl
  change ∃ z, DataW.trod enc Tryd.prog w 0 sp true n 5 (List.take ((Tryd.prog).cellsOf 5) (List.drop 2 cs)) = some z at w2
  rw [show (Tryd.prog).cellsOf 5 = 1 from by kernel_rfl] at w2
  obtain ⟨z2, h2⟩ := w2
  obtain ⟨v2, e2, g2⟩ := rd_u8 Tryd.underlying5 h2
  have hd : cs.drop 3 = [] := List.drop_eq_nil_of_le (by omega)
  have hcs : cs = cs.drop 0 := rfl
  have s0 := seg cs 0 1
  have s1 := seg cs 1 1
  have s2 := seg cs 2 1
  simp only [Nat.zero_add, Nat.reduceAdd] at s0 s1 s2
  have key : cs.drop 0 = List.take 1 (List.drop 0 cs) ++ (List.take 1 (List.drop 1 cs) ++ (List.take 1 (List.drop 2 cs) ++ ([]))) := s0.trans (congrArg (List.take 1 (List.drop 0 cs) ++ ·) (s1.trans (congrArg (List.take 1 (List.drop 1 cs) ++ ·) (s2.trans (congrArg (List.take 1 (List.drop 2 cs) ++ ·) (hd))))))
  have t0 : List.take 1 (List.drop 0 cs) = _ := e0
  have t1 : List.take 1 (List.drop 1 cs) = _ := e1
  have t2 : List.take 1 (List.drop 2 cs) = _ := e2
  refine ⟨⟨v0, v1, v2⟩, (), ?_, ⟨g0, g2⟩⟩
  rw [hcs, key, t0, t1, t2]; simp only [List.cons_append, List.nil_append]
end Go.Proofs.YtjllaogechckoaaDoor
