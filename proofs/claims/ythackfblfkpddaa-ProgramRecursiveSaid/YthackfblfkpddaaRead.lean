/- From a row's readings to the structures. The second part is printed by genread.py. -/
import Derived.Test.YthackfblfkpddaaTypes
import Derived.ProofKit
import Derived.ChangeOld
namespace Go.Proofs.Ythackfblfkpddaa
open Go.RowKit Go.ChangeShapes Go.WideShapes
set_option linter.unusedSimpArgs false
set_option linter.unusedVariables false

section
variable {H : Type} {enc : TypeId × Value → H} {P : Program} {w : World} {sp : Nat → Bool}
theorem rd_struct {t : TypeId} {fs : Array Field} {fuel : Nat} {cs : List Value} {y : DataW H × List MemPlace} (hu : P.underlying t = some (.struct fs)) (h : DataW.trod enc P w 0 sp true fuel t cs = some y) :
    cs.length = P.cellsOf t ∧ ∃ n, ∀ (i : Nat) f, fs[i]? = some f → ∃ z, DataW.trod enc P w 0 sp true n f.type ((cs.drop f.offset).take (P.cellsOf f.type)) = some z := by
  obtain ⟨xs, n, _, _, hl, hx, hf⟩ := DataW.trod_struct hu h
  refine ⟨hl, n, fun i f hi => ?_⟩
  have hi' : i < xs.length := by rw [hx]; exact (Array.getElem?_eq_some_iff.1 hi).1
  exact ⟨xs[i], by rw [hf i f hi, List.getElem?_eq_getElem hi']⟩
theorem rd_u8 {t : TypeId} {fuel : Nat} {cs : List Value} {y : DataW H × List MemPlace} (hu : P.underlying t = some (.int .u8)) (h : DataW.trod enc P w 0 sp true fuel t cs = some y) : ∃ n, cs = [.int .u8 n] ∧ U8 n := by
  obtain ⟨n, h1, _, h2⟩ := DataW.trod_int hu h
  exact ⟨n, h1, by simp [Lit.wf, IntKind.min, IntKind.max, IntKind.signed, IntKind.bits] at h2; unfold U8; omega⟩
theorem rd_i64 {t : TypeId} {fuel : Nat} {cs : List Value} {y : DataW H × List MemPlace} (hu : P.underlying t = some (.int .i64)) (h : DataW.trod enc P w 0 sp true fuel t cs = some y) : ∃ n, cs = [.int .i64 n] ∧ I64 n := by
  obtain ⟨n, h1, _, h2⟩ := DataW.trod_int hu h
  exact ⟨n, h1, by simp [Lit.wf, IntKind.min, IntKind.max, IntKind.signed, IntKind.bits] at h2; unfold I64; omega⟩
theorem collect {α : Type} {Q : Nat → α → Prop} : ∀ (len : Nat), (∀ i, i < len → ∃ x, Q i x) → ∃ xs : List α, xs.length = len ∧ ∀ i (hi : i < xs.length), Q i xs[i]
  | 0, _ => ⟨[], rfl, fun i hi => by cases hi⟩
  | m + 1, key => by
    obtain ⟨xs, hxl, hx⟩ := collect m (fun i hi => key i (by omega))
    obtain ⟨x, h1⟩ := key m (by omega)
    refine ⟨xs ++ [x], by simp [hxl], fun i hi => ?_⟩
    by_cases q : i < xs.length
    · rw [List.getElem_append_left q]; exact hx i q
    · obtain rfl : i = m := by simp at hi; omega
      rw [List.getElem_append_right (by omega)]
      simpa [hxl] using h1
theorem rd_slice {α : Type} [Rp α] {t e : TypeId} {fuel : Nat} {cs : List Value} {y : DataW H × List MemPlace} (hu : P.underlying t = some (.slice e)) (hc : P.cellsOf e = Rp.sz α) (hz : 0 < Rp.sz α)
    (rd : ∀ n cs z, DataW.trod enc P w 0 sp true n e cs = some z → ∃ x : α, Rp.R (Old w) w x cs) (h : DataW.trod enc P w 0 sp true fuel t cs = some y) :
    ∃ a n cap, ∃ xs : List α, cs = [.slice a n cap] ∧ Sl (Old w) w (.slice a n cap) xs := by
  rcases DataW.trod_slice hu h with ⟨rfl, _⟩ | ⟨a, len, cap, elems, rest, n, _, rfl, _, _, hl, hm, he, hel, _, _⟩
  · exact ⟨none, 0, 0, [], rfl, Sl.nil _ _⟩
  · have key : ∀ i, i < len → ∃ x : α, ∃ cs, Rp.R (Old w) w x cs ∧ a.spot = none ∧ CellsAt w a.block (a.off + i * Rp.sz α) cs := by
      intro i hi
      have h1 := hel i hi
      rw [List.getElem?_eq_getElem (by omega)] at h1
      cases hcs : w.cells? 0 (a.add (i * P.cellsOf e)) (P.cellsOf e) with
      | none => rw [hcs] at h1; cases h1
      | some cs =>
        rw [hcs] at h1
        obtain ⟨x, hx⟩ := rd n cs _ h1
        have hlen : cs.length = Rp.sz α := Rp.len hx
        have hcell : ∀ j (hj : j < cs.length), w.cell? ((a.add (i * P.cellsOf e)).add j) = some cs[j] := by
          intro j hj
          simp only [World.cells?] at hcs
          rw [if_pos (Nat.zero_le _)] at hcs
          have := mapM_some_get hcs j j (by rw [hc]; exact List.getElem?_range (by omega))
          rw [this, List.getElem?_eq_getElem hj]
        have hspot : a.spot = none := by
          have h0 := hcell 0 (by omega)
          rw [Addr.add_zero'] at h0
          by_cases hi0 : i * P.cellsOf e = 0
          · rw [hi0, Addr.add_zero'] at h0; exact World.cell?_spot h0
          · have hlt0 : 0 < len := by omega
            have h2 := hel 0 hlt0
            rw [List.getElem?_eq_getElem (by omega)] at h2
            cases hcs0 : w.cells? 0 (a.add (0 * P.cellsOf e)) (P.cellsOf e) with
            | none => rw [hcs0] at h2; cases h2
            | some cs0 =>
              simp only [World.cells?] at hcs0
              rw [if_pos (Nat.zero_le _)] at hcs0
              have := mapM_some_get hcs0 0 0 (by rw [hc]; exact List.getElem?_range (by omega))
              have hl0 := mapM_some_length hcs0
              rw [List.getElem?_eq_getElem (by rw [hl0, hc]; simpa using hz)] at this
              rw [Nat.zero_mul, Addr.add_zero', Addr.add_zero'] at this
              exact World.cell?_spot this
        refine ⟨x, cs, hx, hspot, fun j hj => ?_⟩
        have := hcell j hj
        obtain ⟨b, off, s⟩ := a
        simp only at hspot
        subst hspot
        rw [Addr.add_lit, Addr.add_lit, hc] at this
        exact this
    obtain ⟨b, off, s⟩ := a
    have hex : ∃ xs : List α, xs.length = len ∧ ∀ i (hi : i < xs.length), ∃ cs, Rp.R (Old w) w xs[i] cs ∧ s = none ∧ CellsAt w b (off + i * Rp.sz α) cs := by
      exact collect len key
    obtain ⟨xs, hxl, hx⟩ := hex
    refine ⟨some ⟨b, off, s⟩, len, cap, xs, rfl, ?_⟩
    subst hxl
    refine ⟨_, cap, rfl, hl, by unfold maxLen at hm; exact hm, (fun e => by cases e), fun i hi => ?_⟩
    obtain ⟨cs, h1, rfl, h3⟩ := hx i hi
    exact ⟨b, off, rfl, lt_of_cell (h3 0 (by rw [Rp.len h1]; exact hz)), lt_of_cell (h3 0 (by rw [Rp.len h1]; exact hz)), cs, h1, h3⟩
theorem seg (cs : List Value) (o s : Nat) : cs.drop o = (cs.drop o).take s ++ cs.drop (o + s) := by
  rw [← List.drop_drop, List.take_append_drop]
end

theorem cells_Ty : (Try.prog).cellsOf 23 = 2 := by kernel_rfl
theorem rd_Ty {H : Type} {enc : TypeId × Value → H} {w : World} {sp : Nat → Bool} {fuel : Nat} {cs : List Value} {y : DataW H × List MemPlace} (h : DataW.trod enc Try.prog w 0 sp true fuel 23 cs = some y) : ∃ x : Ty, ∃ _ : Unit, cs = x.c ∧ x.wf := by
  obtain ⟨hl, n, hf⟩ := rd_struct Try.underlying23 h
  rw [cells_Ty] at hl
  have w0 := hf 0 _ rfl
  change ∃ z, DataW.trod enc Try.prog w 0 sp true n 5 (List.take ((Try.prog).cellsOf 5) (List.drop 0 cs)) = some z at w0
  rw [show (Try.prog).cellsOf 5 = 1 from by kernel_rfl] at w0
  obtain ⟨z0, h0⟩ := w0
  obtain ⟨v0, e0, g0⟩ := rd_u8 Try.underlying5 h0
  have w1 := hf 1 _ rfl
  change ∃ z, DataW.trod enc Try.prog w 0 sp true n 5 (List.take ((Try.prog).cellsOf 5) (List.drop 1 cs)) = some z at w1
  rw [show (Try.prog).cellsOf 5 = 1 from by kernel_rfl] at w1
  obtain ⟨z1, h1⟩ := w1
  obtain ⟨v1, e1, g1⟩ := rd_u8 Try.underlying5 h1
  have hd : cs.drop 2 = [] := List.drop_eq_nil_of_le (by omega)
  have hcs : cs = cs.drop 0 := rfl
  have s0 := seg cs 0 1
  have s1 := seg cs 1 1
  simp only [Nat.zero_add, Nat.reduceAdd] at s0 s1
  have key : cs.drop 0 = List.take 1 (List.drop 0 cs) ++ (List.take 1 (List.drop 1 cs) ++ ([])) := s0.trans (congrArg (List.take 1 (List.drop 0 cs) ++ ·) (s1.trans (congrArg (List.take 1 (List.drop 1 cs) ++ ·) (hd))))
  have t0 : List.take 1 (List.drop 0 cs) = _ := e0
  have t1 : List.take 1 (List.drop 1 cs) = _ := e1
  refine ⟨⟨v0, v1⟩, (), ?_, ⟨g0, g1⟩⟩
  rw [hcs, key, t0, t1]; simp only [List.cons_append, List.nil_append]
theorem cells_Pl : (Try.prog).cellsOf 26 = 3 := by kernel_rfl
theorem rd_Pl {H : Type} {enc : TypeId × Value → H} {w : World} {sp : Nat → Bool} {fuel : Nat} {cs : List Value} {y : DataW H × List MemPlace} (h : DataW.trod enc Try.prog w 0 sp true fuel 26 cs = some y) : ∃ x : Pl, ∃ _ : Unit, cs = x.c ∧ x.wf := by
  obtain ⟨hl, n, hf⟩ := rd_struct Try.underlying26 h
  rw [cells_Pl] at hl
  have w0 := hf 0 _ rfl
  change ∃ z, DataW.trod enc Try.prog w 0 sp true n 3 (List.take ((Try.prog).cellsOf 3) (List.drop 0 cs)) = some z at w0
  rw [show (Try.prog).cellsOf 3 = 1 from by kernel_rfl] at w0
  obtain ⟨z0, h0⟩ := w0
  obtain ⟨v0, e0, g0⟩ := rd_i64 Try.underlying3 h0
  have w1 := hf 1 _ rfl
  change ∃ z, DataW.trod enc Try.prog w 0 sp true n 4 (List.take ((Try.prog).cellsOf 4) (List.drop 1 cs)) = some z at w1
  rw [show (Try.prog).cellsOf 4 = 1 from by kernel_rfl] at w1
  obtain ⟨z1, h1⟩ := w1
  obtain ⟨v1, e1, _⟩ := DataW.trod_bool Try.underlying4 h1
  have w2 := hf 2 _ rfl
  change ∃ z, DataW.trod enc Try.prog w 0 sp true n 5 (List.take ((Try.prog).cellsOf 5) (List.drop 2 cs)) = some z at w2
  rw [show (Try.prog).cellsOf 5 = 1 from by kernel_rfl] at w2
  obtain ⟨z2, h2⟩ := w2
  obtain ⟨v2, e2, g2⟩ := rd_u8 Try.underlying5 h2
  have hd : cs.drop 3 = [] := List.drop_eq_nil_of_le (by omega)
  have hcs : cs = cs.drop 0 := rfl
  have s0 := seg cs 0 1
  have s1 := seg cs 1 1
  have s2 := seg cs 2 1
  simp only [Nat.zero_add, Nat.reduceAdd] at s0 s1 s2
  have key : cs.drop 0 = List.take 1 (List.drop 0 cs) ++ (List.take 1 (List.drop 1 cs) ++ (List.take 1 (List.drop 2 cs) ++ ([]))) := s0.trans (congrArg (List.take 1 (List.drop 0 cs) ++ ·) (s1.trans (congrArg (List.take 1 (List.drop 1 cs) ++ ·) (s2.trans (congrArg (List.take 1 (List.drop 2 cs) ++ ·) (hd))))))
  have t0 : List.take 1 (List.drop 0 cs) = _ := e0
  have t1 : List.take 1 (List.drop 1 cs) = _ := e1
  have t2 : List.take 1 (List.drop 2 cs) = _ := e2
  refine ⟨⟨v0, v1, v2⟩, (), ?_, ⟨g0, g2⟩⟩
  rw [hcs, key, t0, t1, t2]; simp only [List.cons_append, List.nil_append]
theorem cells_Opd : (Try.prog).cellsOf 28 = 5 := by kernel_rfl
theorem rd_Opd {H : Type} {enc : TypeId × Value → H} {w : World} {sp : Nat → Bool} {fuel : Nat} {cs : List Value} {y : DataW H × List MemPlace} (h : DataW.trod enc Try.prog w 0 sp true fuel 28 cs = some y) : ∃ x : Opd, ∃ _ : Unit, cs = x.c ∧ x.wf := by
  obtain ⟨hl, n, hf⟩ := rd_struct Try.underlying28 h
  rw [cells_Opd] at hl
  have w0 := hf 0 _ rfl
  change ∃ z, DataW.trod enc Try.prog w 0 sp true n 5 (List.take ((Try.prog).cellsOf 5) (List.drop 0 cs)) = some z at w0
  rw [show (Try.prog).cellsOf 5 = 1 from by kernel_rfl] at w0
  obtain ⟨z0, h0⟩ := w0
  obtain ⟨v0, e0, g0⟩ := rd_u8 Try.underlying5 h0
  have w1 := hf 1 _ rfl
  change ∃ z, DataW.trod enc Try.prog w 0 sp true n 2 (List.take ((Try.prog).cellsOf 2) (List.drop 1 cs)) = some z at w1
  rw [show (Try.prog).cellsOf 2 = 1 from by kernel_rfl] at w1
  obtain ⟨z1, h1⟩ := w1
  obtain ⟨v1, e1, g1⟩ := rd_i64 Try.underlying2 h1
  have w2 := hf 2 _ rfl
  change ∃ z, DataW.trod enc Try.prog w 0 sp true n 26 (List.take ((Try.prog).cellsOf 26) (List.drop 2 cs)) = some z at w2
  rw [show (Try.prog).cellsOf 26 = 3 from by kernel_rfl] at w2
  obtain ⟨z2, h2⟩ := w2
  obtain ⟨v2, _, e2, g2⟩ := rd_Pl h2
  have hd : cs.drop 5 = [] := List.drop_eq_nil_of_le (by omega)
  have hcs : cs = cs.drop 0 := rfl
  have s0 := seg cs 0 1
  have s1 := seg cs 1 1
  have s2 := seg cs 2 3
  simp only [Nat.zero_add, Nat.reduceAdd] at s0 s1 s2
  have key : cs.drop 0 = List.take 1 (List.drop 0 cs) ++ (List.take 1 (List.drop 1 cs) ++ (List.take 3 (List.drop 2 cs) ++ ([]))) := s0.trans (congrArg (List.take 1 (List.drop 0 cs) ++ ·) (s1.trans (congrArg (List.take 1 (List.drop 1 cs) ++ ·) (s2.trans (congrArg (List.take 3 (List.drop 2 cs) ++ ·) (hd))))))
  have t0 : List.take 1 (List.drop 0 cs) = _ := e0
  have t1 : List.take 1 (List.drop 1 cs) = _ := e1
  have t2 : List.take 3 (List.drop 2 cs) = _ := e2
  refine ⟨⟨v0, v1, v2⟩, (), ?_, ⟨g0, g1, g2⟩⟩
  rw [hcs, key, t0, t1, t2]; simp only [List.cons_append, List.nil_append]
theorem cells_Rv : (Try.prog).cellsOf 33 = 16 := by kernel_rfl
theorem rd_Rv {H : Type} {enc : TypeId × Value → H} {w : World} {sp : Nat → Bool} {fuel : Nat} {cs : List Value} {y : DataW H × List MemPlace} (h : DataW.trod enc Try.prog w 0 sp true fuel 33 cs = some y) : ∃ x : Rv, ∃ _ : Unit, cs = x.c ∧ x.wf := by
  obtain ⟨hl, n, hf⟩ := rd_struct Try.underlying33 h
  rw [cells_Rv] at hl
  have w0 := hf 0 _ rfl
  change ∃ z, DataW.trod enc Try.prog w 0 sp true n 5 (List.take ((Try.prog).cellsOf 5) (List.drop 0 cs)) = some z at w0
  rw [show (Try.prog).cellsOf 5 = 1 from by kernel_rfl] at w0
  obtain ⟨z0, h0⟩ := w0
  obtain ⟨v0, e0, g0⟩ := rd_u8 Try.underlying5 h0
  have w1 := hf 1 _ rfl
  change ∃ z, DataW.trod enc Try.prog w 0 sp true n 5 (List.take ((Try.prog).cellsOf 5) (List.drop 1 cs)) = some z at w1
  rw [show (Try.prog).cellsOf 5 = 1 from by kernel_rfl] at w1
  obtain ⟨z1, h1⟩ := w1
  obtain ⟨v1, e1, g1⟩ := rd_u8 Try.underlying5 h1
  have w2 := hf 2 _ rfl
  change ∃ z, DataW.trod enc Try.prog w 0 sp true n 5 (List.take ((Try.prog).cellsOf 5) (List.drop 2 cs)) = some z at w2
  rw [show (Try.prog).cellsOf 5 = 1 from by kernel_rfl] at w2
  obtain ⟨z2, h2⟩ := w2
  obtain ⟨v2, e2, g2⟩ := rd_u8 Try.underlying5 h2
  have w3 := hf 3 _ rfl
  change ∃ z, DataW.trod enc Try.prog w 0 sp true n 28 (List.take ((Try.prog).cellsOf 28) (List.drop 3 cs)) = some z at w3
  rw [show (Try.prog).cellsOf 28 = 5 from by kernel_rfl] at w3
  obtain ⟨z3, h3⟩ := w3
  obtain ⟨v3, _, e3, g3⟩ := rd_Opd h3
  have w4 := hf 4 _ rfl
  change ∃ z, DataW.trod enc Try.prog w 0 sp true n 28 (List.take ((Try.prog).cellsOf 28) (List.drop 8 cs)) = some z at w4
  rw [show (Try.prog).cellsOf 28 = 5 from by kernel_rfl] at w4
  obtain ⟨z4, h4⟩ := w4
  obtain ⟨v4, _, e4, g4⟩ := rd_Opd h4
  have w5 := hf 5 _ rfl
  change ∃ z, DataW.trod enc Try.prog w 0 sp true n 26 (List.take ((Try.prog).cellsOf 26) (List.drop 13 cs)) = some z at w5
  rw [show (Try.prog).cellsOf 26 = 3 from by kernel_rfl] at w5
  obtain ⟨z5, h5⟩ := w5
  obtain ⟨v5, _, e5, g5⟩ := rd_Pl h5
  have hd : cs.drop 16 = [] := List.drop_eq_nil_of_le (by omega)
  have hcs : cs = cs.drop 0 := rfl
  have s0 := seg cs 0 1
  have s1 := seg cs 1 1
  have s2 := seg cs 2 1
  have s3 := seg cs 3 5
  have s4 := seg cs 8 5
  have s5 := seg cs 13 3
  simp only [Nat.zero_add, Nat.reduceAdd] at s0 s1 s2 s3 s4 s5
  have key : cs.drop 0 = List.take 1 (List.drop 0 cs) ++ (List.take 1 (List.drop 1 cs) ++ (List.take 1 (List.drop 2 cs) ++ (List.take 5 (List.drop 3 cs) ++ (List.take 5 (List.drop 8 cs) ++ (List.take 3 (List.drop 13 cs) ++ ([])))))) := s0.trans (congrArg (List.take 1 (List.drop 0 cs) ++ ·) (s1.trans (congrArg (List.take 1 (List.drop 1 cs) ++ ·) (s2.trans (congrArg (List.take 1 (List.drop 2 cs) ++ ·) (s3.trans (congrArg (List.take 5 (List.drop 3 cs) ++ ·) (s4.trans (congrArg (List.take 5 (List.drop 8 cs) ++ ·) (s5.trans (congrArg (List.take 3 (List.drop 13 cs) ++ ·) (hd))))))))))))
  have t0 : List.take 1 (List.drop 0 cs) = _ := e0
  have t1 : List.take 1 (List.drop 1 cs) = _ := e1
  have t2 : List.take 1 (List.drop 2 cs) = _ := e2
  have t3 : List.take 5 (List.drop 3 cs) = _ := e3
  have t4 : List.take 5 (List.drop 8 cs) = _ := e4
  have t5 : List.take 3 (List.drop 13 cs) = _ := e5
  refine ⟨⟨v0, v1, v2, v3, v4, v5⟩, (), ?_, ⟨g0, g1, g2, g3, g4, g5⟩⟩
  rw [hcs, key, t0, t1, t2, t3, t4, t5]; simp only [List.cons_append, List.nil_append]
theorem cells_St : (Try.prog).cellsOf 38 = 26 := by kernel_rfl
theorem rd_St {H : Type} {enc : TypeId × Value → H} {w : World} {sp : Nat → Bool} {fuel : Nat} {cs : List Value} {y : DataW H × List MemPlace} (h : DataW.trod enc Try.prog w 0 sp true fuel 38 cs = some y) : ∃ x : St, ∃ _ : Unit, cs = x.c ∧ x.wf := by
  obtain ⟨hl, n, hf⟩ := rd_struct Try.underlying38 h
  rw [cells_St] at hl
  have w0 := hf 0 _ rfl
  change ∃ z, DataW.trod enc Try.prog w 0 sp true n 5 (List.take ((Try.prog).cellsOf 5) (List.drop 0 cs)) = some z at w0
  rw [show (Try.prog).cellsOf 5 = 1 from by kernel_rfl] at w0
  obtain ⟨z0, h0⟩ := w0
  obtain ⟨v0, e0, g0⟩ := rd_u8 Try.underlying5 h0
  have w1 := hf 1 _ rfl
  change ∃ z, DataW.trod enc Try.prog w 0 sp true n 26 (List.take ((Try.prog).cellsOf 26) (List.drop 1 cs)) = some z at w1
  rw [show (Try.prog).cellsOf 26 = 3 from by kernel_rfl] at w1
  obtain ⟨z1, h1⟩ := w1
  obtain ⟨v1, _, e1, g1⟩ := rd_Pl h1
  have w2 := hf 2 _ rfl
  change ∃ z, DataW.trod enc Try.prog w 0 sp true n 33 (List.take ((Try.prog).cellsOf 33) (List.drop 4 cs)) = some z at w2
  rw [show (Try.prog).cellsOf 33 = 16 from by kernel_rfl] at w2
  obtain ⟨z2, h2⟩ := w2
  obtain ⟨v2, _, e2, g2⟩ := rd_Rv h2
  have w3 := hf 3 _ rfl
  change ∃ z, DataW.trod enc Try.prog w 0 sp true n 28 (List.take ((Try.prog).cellsOf 28) (List.drop 20 cs)) = some z at w3
  rw [show (Try.prog).cellsOf 28 = 5 from by kernel_rfl] at w3
  obtain ⟨z3, h3⟩ := w3
  obtain ⟨v3, _, e3, g3⟩ := rd_Opd h3
  have w4 := hf 4 _ rfl
  change ∃ z, DataW.trod enc Try.prog w 0 sp true n 3 (List.take ((Try.prog).cellsOf 3) (List.drop 25 cs)) = some z at w4
  rw [show (Try.prog).cellsOf 3 = 1 from by kernel_rfl] at w4
  obtain ⟨z4, h4⟩ := w4
  obtain ⟨v4, e4, g4⟩ := rd_i64 Try.underlying3 h4
  have hd : cs.drop 26 = [] := List.drop_eq_nil_of_le (by omega)
  have hcs : cs = cs.drop 0 := rfl
  have s0 := seg cs 0 1
  have s1 := seg cs 1 3
  have s2 := seg cs 4 16
  have s3 := seg cs 20 5
  have s4 := seg cs 25 1
  simp only [Nat.zero_add, Nat.reduceAdd] at s0 s1 s2 s3 s4
  have key : cs.drop 0 = List.take 1 (List.drop 0 cs) ++ (List.take 3 (List.drop 1 cs) ++ (List.take 16 (List.drop 4 cs) ++ (List.take 5 (List.drop 20 cs) ++ (List.take 1 (List.drop 25 cs) ++ ([]))))) := s0.trans (congrArg (List.take 1 (List.drop 0 cs) ++ ·) (s1.trans (congrArg (List.take 3 (List.drop 1 cs) ++ ·) (s2.trans (congrArg (List.take 16 (List.drop 4 cs) ++ ·) (s3.trans (congrArg (List.take 5 (List.drop 20 cs) ++ ·) (s4.trans (congrArg (List.take 1 (List.drop 25 cs) ++ ·) (hd))))))))))
  have t0 : List.take 1 (List.drop 0 cs) = _ := e0
  have t1 : List.take 3 (List.drop 1 cs) = _ := e1
  have t2 : List.take 16 (List.drop 4 cs) = _ := e2
  have t3 : List.take 5 (List.drop 20 cs) = _ := e3
  have t4 : List.take 1 (List.drop 25 cs) = _ := e4
  refine ⟨⟨v0, v1, v2, v3, v4⟩, (), ?_, ⟨g0, g1, g2, g3, g4⟩⟩
  rw [hcs, key, t0, t1, t2, t3, t4]; simp only [List.cons_append, List.nil_append]
theorem cells_Ju : (Try.prog).cellsOf 46 = 13 := by kernel_rfl
theorem rd_Ju {H : Type} {enc : TypeId × Value → H} {w : World} {sp : Nat → Bool} {fuel : Nat} {cs : List Value} {y : DataW H × List MemPlace} (h : DataW.trod enc Try.prog w 0 sp true fuel 46 cs = some y) : ∃ x : Ju, ∃ args_a args_n args_c, cs = x.c (.slice args_a args_n args_c) ∧ x.wf ∧ Sl (Old w) w (.slice args_a args_n args_c) x.args := by
  obtain ⟨hl, n, hf⟩ := rd_struct Try.underlying46 h
  rw [cells_Ju] at hl
  have w0 := hf 0 _ rfl
  change ∃ z, DataW.trod enc Try.prog w 0 sp true n 5 (List.take ((Try.prog).cellsOf 5) (List.drop 0 cs)) = some z at w0
  rw [show (Try.prog).cellsOf 5 = 1 from by kernel_rfl] at w0
  obtain ⟨z0, h0⟩ := w0
  obtain ⟨v0, e0, g0⟩ := rd_u8 Try.underlying5 h0
  have w1 := hf 1 _ rfl
  change ∃ z, DataW.trod enc Try.prog w 0 sp true n 28 (List.take ((Try.prog).cellsOf 28) (List.drop 1 cs)) = some z at w1
  rw [show (Try.prog).cellsOf 28 = 5 from by kernel_rfl] at w1
  obtain ⟨z1, h1⟩ := w1
  obtain ⟨v1, _, e1, g1⟩ := rd_Opd h1
  have w2 := hf 2 _ rfl
  change ∃ z, DataW.trod enc Try.prog w 0 sp true n 3 (List.take ((Try.prog).cellsOf 3) (List.drop 6 cs)) = some z at w2
  rw [show (Try.prog).cellsOf 3 = 1 from by kernel_rfl] at w2
  obtain ⟨z2, h2⟩ := w2
  obtain ⟨v2, e2, g2⟩ := rd_i64 Try.underlying3 h2
  have w3 := hf 3 _ rfl
  change ∃ z, DataW.trod enc Try.prog w 0 sp true n 3 (List.take ((Try.prog).cellsOf 3) (List.drop 7 cs)) = some z at w3
  rw [show (Try.prog).cellsOf 3 = 1 from by kernel_rfl] at w3
  obtain ⟨z3, h3⟩ := w3
  obtain ⟨v3, e3, g3⟩ := rd_i64 Try.underlying3 h3
  have w4 := hf 4 _ rfl
  change ∃ z, DataW.trod enc Try.prog w 0 sp true n 3 (List.take ((Try.prog).cellsOf 3) (List.drop 8 cs)) = some z at w4
  rw [show (Try.prog).cellsOf 3 = 1 from by kernel_rfl] at w4
  obtain ⟨z4, h4⟩ := w4
  obtain ⟨v4, e4, g4⟩ := rd_i64 Try.underlying3 h4
  have w5 := hf 5 _ rfl
  change ∃ z, DataW.trod enc Try.prog w 0 sp true n 40 (List.take ((Try.prog).cellsOf 40) (List.drop 9 cs)) = some z at w5
  rw [show (Try.prog).cellsOf 40 = 1 from by kernel_rfl] at w5
  obtain ⟨z5, h5⟩ := w5
  obtain ⟨a5, n5, c5, v5, e5, g5⟩ := rd_slice (α := Opd) Try.underlying40 cells_Opd (by decide) (fun n cs z hz => by obtain ⟨x, _, rfl, hw⟩ := rd_Opd hz; exact ⟨x, rfl, hw⟩) h5
  have w6 := hf 6 _ rfl
  change ∃ z, DataW.trod enc Try.prog w 0 sp true n 26 (List.take ((Try.prog).cellsOf 26) (List.drop 10 cs)) = some z at w6
  rw [show (Try.prog).cellsOf 26 = 3 from by kernel_rfl] at w6
  obtain ⟨z6, h6⟩ := w6
  obtain ⟨v6, _, e6, g6⟩ := rd_Pl h6
  have hd : cs.drop 13 = [] := List.drop_eq_nil_of_le (by omega)
  have hcs : cs = cs.drop 0 := rfl
  have s0 := seg cs 0 1
  have s1 := seg cs 1 5
  have s2 := seg cs 6 1
  have s3 := seg cs 7 1
  have s4 := seg cs 8 1
  have s5 := seg cs 9 1
  have s6 := seg cs 10 3
  simp only [Nat.zero_add, Nat.reduceAdd] at s0 s1 s2 s3 s4 s5 s6
  have key : cs.drop 0 = List.take 1 (List.drop 0 cs) ++ (List.take 5 (List.drop 1 cs) ++ (List.take 1 (List.drop 6 cs) ++ (List.take 1 (List.drop 7 cs) ++ (List.take 1 (List.drop 8 cs) ++ (List.take 1 (List.drop 9 cs) ++ (List.take 3 (List.drop 10 cs) ++ ([]))))))) := s0.trans (congrArg (List.take 1 (List.drop 0 cs) ++ ·) (s1.trans (congrArg (List.take 5 (List.drop 1 cs) ++ ·) (s2.trans (congrArg (List.take 1 (List.drop 6 cs) ++ ·) (s3.trans (congrArg (List.take 1 (List.drop 7 cs) ++ ·) (s4.trans (congrArg (List.take 1 (List.drop 8 cs) ++ ·) (s5.trans (congrArg (List.take 1 (List.drop 9 cs) ++ ·) (s6.trans (congrArg (List.take 3 (List.drop 10 cs) ++ ·) (hd))))))))))))))
  have t0 : List.take 1 (List.drop 0 cs) = _ := e0
  have t1 : List.take 5 (List.drop 1 cs) = _ := e1
  have t2 : List.take 1 (List.drop 6 cs) = _ := e2
  have t3 : List.take 1 (List.drop 7 cs) = _ := e3
  have t4 : List.take 1 (List.drop 8 cs) = _ := e4
  have t5 : List.take 1 (List.drop 9 cs) = _ := e5
  have t6 : List.take 3 (List.drop 10 cs) = _ := e6
  refine ⟨⟨v0, v1, v2, v3, v4, v5, v6⟩, a5, n5, c5, ?_, ⟨g0, g1, g2, g3, g4, g6⟩, g5⟩
  rw [hcs, key, t0, t1, t2, t3, t4, t5, t6]; simp only [List.cons_append, List.nil_append]
theorem cells_Bk : (Try.prog).cellsOf 63 = 14 := by kernel_rfl
theorem rd_Bk {H : Type} {enc : TypeId × Value → H} {w : World} {sp : Nat → Bool} {fuel : Nat} {cs : List Value} {y : DataW H × List MemPlace} (h : DataW.trod enc Try.prog w 0 sp true fuel 63 cs = some y) : ∃ x : Bk, ∃ stmts_a stmts_n stmts_c jump_args_a jump_args_n jump_args_c, cs = x.c (.slice stmts_a stmts_n stmts_c) (.slice jump_args_a jump_args_n jump_args_c) ∧ x.wf ∧ Sl (Old w) w (.slice stmts_a stmts_n stmts_c) x.stmts ∧ Sl (Old w) w (.slice jump_args_a jump_args_n jump_args_c) x.jump.args := by
  obtain ⟨hl, n, hf⟩ := rd_struct Try.underlying63 h
  rw [cells_Bk] at hl
  have w0 := hf 0 _ rfl
  change ∃ z, DataW.trod enc Try.prog w 0 sp true n 61 (List.take ((Try.prog).cellsOf 61) (List.drop 0 cs)) = some z at w0
  rw [show (Try.prog).cellsOf 61 = 1 from by kernel_rfl] at w0
  obtain ⟨z0, h0⟩ := w0
  obtain ⟨a0, n0, c0, v0, e0, g0⟩ := rd_slice (α := St) Try.underlying61 cells_St (by decide) (fun n cs z hz => by obtain ⟨x, _, rfl, hw⟩ := rd_St hz; exact ⟨x, rfl, hw⟩) h0
  have w1 := hf 1 _ rfl
  change ∃ z, DataW.trod enc Try.prog w 0 sp true n 46 (List.take ((Try.prog).cellsOf 46) (List.drop 1 cs)) = some z at w1
  rw [show (Try.prog).cellsOf 46 = 13 from by kernel_rfl] at w1
  obtain ⟨z1, h1⟩ := w1
  obtain ⟨v1, q1_0, r1_0, s1_0, e1, g1, k1_0⟩ := rd_Ju h1
  have hd : cs.drop 14 = [] := List.drop_eq_nil_of_le (by omega)
  have hcs : cs = cs.drop 0 := rfl
  have s0 := seg cs 0 1
  have s1 := seg cs 1 13
  simp only [Nat.zero_add, Nat.reduceAdd] at s0 s1
  have key : cs.drop 0 = List.take 1 (List.drop 0 cs) ++ (List.take 13 (List.drop 1 cs) ++ ([])) := s0.trans (congrArg (List.take 1 (List.drop 0 cs) ++ ·) (s1.trans (congrArg (List.take 13 (List.drop 1 cs) ++ ·) (hd))))
  have t0 : List.take 1 (List.drop 0 cs) = _ := e0
  have t1 : List.take 13 (List.drop 1 cs) = _ := e1
  refine ⟨⟨v0, v1⟩, a0, n0, c0, q1_0, r1_0, s1_0, ?_, ⟨g1⟩, g0, k1_0⟩
  rw [hcs, key, t0, t1]; simp only [List.cons_append, List.nil_append]
theorem cells_Fn : (Try.prog).cellsOf 50 = 4 := by kernel_rfl
theorem rd_Fn {H : Type} {enc : TypeId × Value → H} {w : World} {sp : Nat → Bool} {fuel : Nat} {cs : List Value} {y : DataW H × List MemPlace} (h : DataW.trod enc Try.prog w 0 sp true fuel 50 cs = some y) : ∃ x : Fn, ∃ locals_a locals_n locals_c blocks_a blocks_n blocks_c, cs = x.c (.slice locals_a locals_n locals_c) (.slice blocks_a blocks_n blocks_c) ∧ x.wf ∧ Sl (Old w) w (.slice locals_a locals_n locals_c) x.locals ∧ Sl (Old w) w (.slice blocks_a blocks_n blocks_c) x.blocks := by
  obtain ⟨hl, n, hf⟩ := rd_struct Try.underlying50 h
  rw [cells_Fn] at hl
  have w0 := hf 0 _ rfl
  change ∃ z, DataW.trod enc Try.prog w 0 sp true n 3 (List.take ((Try.prog).cellsOf 3) (List.drop 0 cs)) = some z at w0
  rw [show (Try.prog).cellsOf 3 = 1 from by kernel_rfl] at w0
  obtain ⟨z0, h0⟩ := w0
  obtain ⟨v0, e0, g0⟩ := rd_i64 Try.underlying3 h0
  have w1 := hf 1 _ rfl
  change ∃ z, DataW.trod enc Try.prog w 0 sp true n 4 (List.take ((Try.prog).cellsOf 4) (List.drop 1 cs)) = some z at w1
  rw [show (Try.prog).cellsOf 4 = 1 from by kernel_rfl] at w1
  obtain ⟨z1, h1⟩ := w1
  obtain ⟨v1, e1, _⟩ := DataW.trod_bool Try.underlying4 h1
  have w2 := hf 2 _ rfl
  change ∃ z, DataW.trod enc Try.prog w 0 sp true n 24 (List.take ((Try.prog).cellsOf 24) (List.drop 2 cs)) = some z at w2
  rw [show (Try.prog).cellsOf 24 = 1 from by kernel_rfl] at w2
  obtain ⟨z2, h2⟩ := w2
  obtain ⟨a2, n2, c2, v2, e2, g2⟩ := rd_slice (α := Ty) Try.underlying24 cells_Ty (by decide) (fun n cs z hz => by obtain ⟨x, _, rfl, hw⟩ := rd_Ty hz; exact ⟨x, rfl, hw⟩) h2
  have w3 := hf 3 _ rfl
  change ∃ z, DataW.trod enc Try.prog w 0 sp true n 48 (List.take ((Try.prog).cellsOf 48) (List.drop 3 cs)) = some z at w3
  rw [show (Try.prog).cellsOf 48 = 1 from by kernel_rfl] at w3
  obtain ⟨z3, h3⟩ := w3
  obtain ⟨a3, n3, c3, v3, e3, g3⟩ := rd_slice (α := Bk) Try.underlying48 cells_Bk (by decide) (fun n cs z hz => by obtain ⟨x, q0, r0, s0, q1, r1, s1, rfl, hw, k0, k1⟩ := rd_Bk hz; exact ⟨x, q0, r0, s0, q1, r1, s1, rfl, hw, k0, k1⟩) h3
  have hd : cs.drop 4 = [] := List.drop_eq_nil_of_le (by omega)
  have hcs : cs = cs.drop 0 := rfl
  have s0 := seg cs 0 1
  have s1 := seg cs 1 1
  have s2 := seg cs 2 1
  have s3 := seg cs 3 1
  simp only [Nat.zero_add, Nat.reduceAdd] at s0 s1 s2 s3
  have key : cs.drop 0 = List.take 1 (List.drop 0 cs) ++ (List.take 1 (List.drop 1 cs) ++ (List.take 1 (List.drop 2 cs) ++ (List.take 1 (List.drop 3 cs) ++ ([])))) := s0.trans (congrArg (List.take 1 (List.drop 0 cs) ++ ·) (s1.trans (congrArg (List.take 1 (List.drop 1 cs) ++ ·) (s2.trans (congrArg (List.take 1 (List.drop 2 cs) ++ ·) (s3.trans (congrArg (List.take 1 (List.drop 3 cs) ++ ·) (hd))))))))
  have t0 : List.take 1 (List.drop 0 cs) = _ := e0
  have t1 : List.take 1 (List.drop 1 cs) = _ := e1
  have t2 : List.take 1 (List.drop 2 cs) = _ := e2
  have t3 : List.take 1 (List.drop 3 cs) = _ := e3
  refine ⟨⟨v0, v1, v2, v3⟩, a2, n2, c2, a3, n3, c3, ?_, ⟨g0⟩, g2, g3⟩
  rw [hcs, key, t0, t1, t2, t3]; simp only [List.cons_append, List.nil_append]
theorem cells_Pr : (Try.prog).cellsOf 43 = 1 := by kernel_rfl
theorem rd_Pr {H : Type} {enc : TypeId × Value → H} {w : World} {sp : Nat → Bool} {fuel : Nat} {cs : List Value} {y : DataW H × List MemPlace} (h : DataW.trod enc Try.prog w 0 sp true fuel 43 cs = some y) : ∃ x : Pr, ∃ funcs_a funcs_n funcs_c, cs = x.c (.slice funcs_a funcs_n funcs_c) ∧ x.wf ∧ Sl (Old w) w (.slice funcs_a funcs_n funcs_c) x.funcs := by
  obtain ⟨hl, n, hf⟩ := rd_struct Try.underlying43 h
  rw [cells_Pr] at hl
  have w0 := hf 0 _ rfl
  change ∃ z, DataW.trod enc Try.prog w 0 sp true n 41 (List.take ((Try.prog).cellsOf 41) (List.drop 0 cs)) = some z at w0
  rw [show (Try.prog).cellsOf 41 = 1 from by kernel_rfl] at w0
  obtain ⟨z0, h0⟩ := w0
  obtain ⟨a0, n0, c0, v0, e0, g0⟩ := rd_slice (α := Fn) Try.underlying41 cells_Fn (by decide) (fun n cs z hz => by obtain ⟨x, q0, r0, s0, q1, r1, s1, rfl, hw, k0, k1⟩ := rd_Fn hz; exact ⟨x, q0, r0, s0, q1, r1, s1, rfl, hw, k0, k1⟩) h0
  have hd : cs.drop 1 = [] := List.drop_eq_nil_of_le (by omega)
  have hcs : cs = cs.drop 0 := rfl
  have s0 := seg cs 0 1
  simp only [Nat.zero_add, Nat.reduceAdd] at s0
  have key : cs.drop 0 = List.take 1 (List.drop 0 cs) ++ ([]) := s0.trans (congrArg (List.take 1 (List.drop 0 cs) ++ ·) (hd))
  have t0 : List.take 1 (List.drop 0 cs) = _ := e0
  refine ⟨⟨v0⟩, a0, n0, c0, ?_, ⟨⟩, g0⟩
  rw [hcs, key, t0]; simp only [List.cons_append, List.nil_append]
end Go.Proofs.Ythackfblfkpddaa
