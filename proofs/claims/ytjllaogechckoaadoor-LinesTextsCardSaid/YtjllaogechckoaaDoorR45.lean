/- Layer 45: a verdict that a row reads, as the structure; what the row lays, as the walks ask it. Printed by gen45r.py. -/
import Derived.Test.YtjllaogechckoaaDoorW45t
import Derived.Test.YtjllaogechckoaaDoorV45
import Derived.Test.YtjllaogechckoaaDoorRead
import Derived.ProofKit
import Derived.ChangeOld
import Derived.OpenShut
import Derived.Handed
import Derived.SizedLaws
import Derived.Stop.LaidErr
import Derived.Lib.LaidTab
import Derived.Shelf.Vars
import Derived.Lay
import Derived.MakeChecks
import Derived.LaidLaws
import Derived.LaidMore
import Derived.Stop.Joined
import Derived.SevenTiedAt
namespace Go.Proofs.YtjllaogechckoaaDoor
open Go.ChangeShapes Go.WideShapes Go.ChangeAt Go.RowKit
set_option linter.unusedSimpArgs false
set_option linter.unusedVariables false

theorem cells_Touch : (Tryd.prog).cellsOf 26 = 5 := by kernel_rfl
theorem rd_Touch {H : Type} {enc : TypeId × Value → H} {w : World} {sp : Nat → Bool} {fuel : Nat} {cs : List Value} {y : DataW H × List MemPlace} (h : DataW.trod enc Tryd.prog w 0 sp true fuel 26 cs = some y) : ∃ (p : Pl) (wr dp : Bool), cs = [.int .i64 p.loc, .bool p.deref, .int .u8 p.field, .bool wr, .bool dp] ∧ p.wf := by
  obtain ⟨hl, n, hf⟩ := rd_struct Tryd.underlying26 h
  rw [cells_Touch] at hl
  have w0 := hf 0 _ rfl
  change ∃ z, DataW.trod enc Tryd.prog w 0 sp true n 24 (List.take ((Tryd.prog).cellsOf 24) (List.drop 0 cs)) = some z at w0
  rw [show (Tryd.prog).cellsOf 24 = 3 from by kernel_rfl] at w0
  obtain ⟨z0, h0⟩ := w0
  obtain ⟨v0, _, e0, g0⟩ := rd_Pl h0
  have w1 := hf 1 _ rfl
  change ∃ z, DataW.trod enc Tryd.prog w 0 sp true n 4 (List.take ((Tryd.prog).cellsOf 4) (List.drop 3 cs)) = some z at w1
  rw [show (Tryd.prog).cellsOf 4 = 1 from by kernel_rfl] at w1
  obtain ⟨z1, h1⟩ := w1
  obtain ⟨v1, e1, _⟩ := DataW.trod_bool Tryd.underlying4 h1
  have w2 := hf 2 _ rfl
  change ∃ z, DataW.trod enc Tryd.prog w 0 sp true n 4 (List.take ((Tryd.prog).cellsOf 4) (List.drop 4 cs)) = some z at w2
  rw [show (Tryd.prog).cellsOf 4 = 1 from by kernel_rfl] at w2
  obtain ⟨z2, h2⟩ := w2
  obtain ⟨v2, e2, _⟩ := DataW.trod_bool Tryd.underlying4 h2
  have hd : cs.drop 5 = [] := List.drop_eq_nil_of_le (by omega)
  have hcs : cs = cs.drop 0 := rfl
  have s0 := seg cs 0 3
  have s1 := seg cs 3 1
  have s2 := seg cs 4 1
  simp only [Nat.zero_add, Nat.reduceAdd] at s0 s1 s2
  have key : cs.drop 0 = (List.take 3 (List.drop 0 cs) ++ (List.take 1 (List.drop 3 cs) ++ (List.take 1 (List.drop 4 cs) ++ ([])))) := (s0.trans (congrArg (List.take 3 (List.drop 0 cs) ++ ·) (s1.trans (congrArg (List.take 1 (List.drop 3 cs) ++ ·) (s2.trans (congrArg (List.take 1 (List.drop 4 cs) ++ ·) (hd)))))))
  have t0 : List.take 3 (List.drop 0 cs) = _ := e0
  have t1 : List.take 1 (List.drop 3 cs) = _ := e1
  have t2 : List.take 1 (List.drop 4 cs) = _ := e2
  refine ⟨v0, v1, v2, ?_, g0⟩
  rw [hcs, key, t0, t1, t2]; rfl
theorem cells_Clash : (Tryd.prog).cellsOf 28 = 7 := by kernel_rfl
theorem rd_Clash {H : Type} {enc : TypeId × Value → H} {w : World} {sp : Nat → Bool} {fuel : Nat} {cs : List Value} {y : DataW H × List MemPlace} (h : DataW.trod enc Tryd.prog w 0 sp true fuel 28 cs = some y) : ∃ (a l : Int) (p : Pl) (wr dp : Bool), cs = [.int .i64 a, .int .i64 l, .int .i64 p.loc, .bool p.deref, .int .u8 p.field, .bool wr, .bool dp] ∧ I64 a ∧ I64 l ∧ p.wf := by
  obtain ⟨hl, n, hf⟩ := rd_struct Tryd.underlying28 h
  rw [cells_Clash] at hl
  have w0 := hf 0 _ rfl
  change ∃ z, DataW.trod enc Tryd.prog w 0 sp true n 3 (List.take ((Tryd.prog).cellsOf 3) (List.drop 0 cs)) = some z at w0
  rw [show (Tryd.prog).cellsOf 3 = 1 from by kernel_rfl] at w0
  obtain ⟨z0, h0⟩ := w0
  obtain ⟨v0, e0, g0⟩ := rd_i64 Tryd.underlying3 h0
  have w1 := hf 1 _ rfl
  change ∃ z, DataW.trod enc Tryd.prog w 0 sp true n 3 (List.take ((Tryd.prog).cellsOf 3) (List.drop 1 cs)) = some z at w1
  rw [show (Tryd.prog).cellsOf 3 = 1 from by kernel_rfl] at w1
  obtain ⟨z1, h1⟩ := w1
  obtain ⟨v1, e1, g1⟩ := rd_i64 Tryd.underlying3 h1
  have w2 := hf 2 _ rfl
  change ∃ z, DataW.trod enc Tryd.prog w 0 sp true n 26 (List.take ((Tryd.prog).cellsOf 26) (List.drop 2 cs)) = some z at w2
  rw [show (Tryd.prog).cellsOf 26 = 5 from by kernel_rfl] at w2
  obtain ⟨z2, h2⟩ := w2
  obtain ⟨v2, wr2, dp2, e2, g2⟩ := rd_Touch h2
  have hd : cs.drop 7 = [] := List.drop_eq_nil_of_le (by omega)
  have hcs : cs = cs.drop 0 := rfl
  have s0 := seg cs 0 1
  have s1 := seg cs 1 1
  have s2 := seg cs 2 5
  simp only [Nat.zero_add, Nat.reduceAdd] at s0 s1 s2
  have key : cs.drop 0 = (List.take 1 (List.drop 0 cs) ++ (List.take 1 (List.drop 1 cs) ++ (List.take 5 (List.drop 2 cs) ++ ([])))) := (s0.trans (congrArg (List.take 1 (List.drop 0 cs) ++ ·) (s1.trans (congrArg (List.take 1 (List.drop 1 cs) ++ ·) (s2.trans (congrArg (List.take 5 (List.drop 2 cs) ++ ·) (hd)))))))
  have t0 : List.take 1 (List.drop 0 cs) = _ := e0
  have t1 : List.take 1 (List.drop 1 cs) = _ := e1
  have t2 : List.take 5 (List.drop 2 cs) = _ := e2
  refine ⟨v0, v1, v2, wr2, dp2, ?_, g0, g1, g2⟩
  rw [hcs, key, t0, t1, t2]; rfl
theorem cells_Ve : (Tryd.prog).cellsOf 31 = 14 := by kernel_rfl
theorem rd_Ve {H : Type} {enc : TypeId × Value → H} {w : World} {sp : Nat → Bool} {fuel : Nat} {cs : List Value} {y : DataW H × List MemPlace} (h : DataW.trod enc Tryd.prog w 0 sp true fuel 31 cs = some y) : ∃ (x : Ve) (pa : Option Addr) (pn pc : Nat) (ra : Option Addr) (rn rc : Nat), cs = [.int .u8 x.kind, .int .i64 x.err, .int .i64 x.fn, .int .i64 x.at_, .int .i64 x.loan, .int .i64 x.pl.loc, .bool x.pl.deref, .int .u8 x.pl.field, .bool x.write, .bool x.deep, .int .u8 x.out, .int .i64 x.steps, .slice pa pn pc, .slice ra rn rc] ∧ x.ok ∧ Sl (Old w) w (.slice pa pn pc) x.prints ∧ Sl (Old w) w (.slice ra rn rc) x.result := by
  obtain ⟨hl, n, hf⟩ := rd_struct Tryd.underlying31 h
  rw [cells_Ve] at hl
  have w0 := hf 0 _ rfl
  change ∃ z, DataW.trod enc Tryd.prog w 0 sp true n 5 (List.take ((Tryd.prog).cellsOf 5) (List.drop 0 cs)) = some z at w0
  rw [show (Tryd.prog).cellsOf 5 = 1 from by kernel_rfl] at w0
  obtain ⟨z0, h0⟩ := w0
  obtain ⟨v0, e0, g0⟩ := rd_u8 Tryd.underlying5 h0
  have w1 := hf 1 _ rfl
  change ∃ z, DataW.trod enc Tryd.prog w 0 sp true n 22 (List.take ((Tryd.prog).cellsOf 22) (List.drop 1 cs)) = some z at w1
  rw [show (Tryd.prog).cellsOf 22 = 1 from by kernel_rfl] at w1
  obtain ⟨z1, h1⟩ := w1
  obtain ⟨v1, e1, g1⟩ := rd_i64 Tryd.underlying22 h1
  have w2 := hf 2 _ rfl
  change ∃ z, DataW.trod enc Tryd.prog w 0 sp true n 3 (List.take ((Tryd.prog).cellsOf 3) (List.drop 2 cs)) = some z at w2
  rw [show (Tryd.prog).cellsOf 3 = 1 from by kernel_rfl] at w2
  obtain ⟨z2, h2⟩ := w2
  obtain ⟨v2, e2, g2⟩ := rd_i64 Tryd.underlying3 h2
  have w3 := hf 3 _ rfl
  change ∃ z, DataW.trod enc Tryd.prog w 0 sp true n 28 (List.take ((Tryd.prog).cellsOf 28) (List.drop 3 cs)) = some z at w3
  rw [show (Tryd.prog).cellsOf 28 = 7 from by kernel_rfl] at w3
  obtain ⟨z3, h3⟩ := w3
  obtain ⟨at3, ln3, v3, wr3, dp3, e3, ga3, gl3, g3⟩ := rd_Clash h3
  have w4 := hf 4 _ rfl
  change ∃ z, DataW.trod enc Tryd.prog w 0 sp true n 5 (List.take ((Tryd.prog).cellsOf 5) (List.drop 10 cs)) = some z at w4
  rw [show (Tryd.prog).cellsOf 5 = 1 from by kernel_rfl] at w4
  obtain ⟨z4, h4⟩ := w4
  obtain ⟨v4, e4, g4⟩ := rd_u8 Tryd.underlying5 h4
  have w5 := hf 5 _ rfl
  change ∃ z, DataW.trod enc Tryd.prog w 0 sp true n 3 (List.take ((Tryd.prog).cellsOf 3) (List.drop 11 cs)) = some z at w5
  rw [show (Tryd.prog).cellsOf 3 = 1 from by kernel_rfl] at w5
  obtain ⟨z5, h5⟩ := w5
  obtain ⟨v5, e5, g5⟩ := rd_i64 Tryd.underlying3 h5
  have w6 := hf 6 _ rfl
  change ∃ z, DataW.trod enc Tryd.prog w 0 sp true n 29 (List.take ((Tryd.prog).cellsOf 29) (List.drop 12 cs)) = some z at w6
  rw [show (Tryd.prog).cellsOf 29 = 1 from by kernel_rfl] at w6
  obtain ⟨z6, h6⟩ := w6
  obtain ⟨a6, n6, c6, v6, e6, g6⟩ := rd_slice (α := Int) Tryd.underlying29 (by kernel_rfl) (by decide) (fun n cs z hz => by obtain ⟨x, e, g⟩ := rd_i64 Tryd.underlying2 hz; exact ⟨x, e, g⟩) h6
  have w7 := hf 7 _ rfl
  change ∃ z, DataW.trod enc Tryd.prog w 0 sp true n 29 (List.take ((Tryd.prog).cellsOf 29) (List.drop 13 cs)) = some z at w7
  rw [show (Tryd.prog).cellsOf 29 = 1 from by kernel_rfl] at w7
  obtain ⟨z7, h7⟩ := w7
  obtain ⟨a7, n7, c7, v7, e7, g7⟩ := rd_slice (α := Int) Tryd.underlying29 (by kernel_rfl) (by decide) (fun n cs z hz => by obtain ⟨x, e, g⟩ := rd_i64 Tryd.underlying2 hz; exact ⟨x, e, g⟩) h7
  have hd : cs.drop 14 = [] := List.drop_eq_nil_of_le (by omega)
  have hcs : cs = cs.drop 0 := rfl
  have s0 := seg cs 0 1
  have s1 := seg cs 1 1
  have s2 := seg cs 2 1
  have s3 := seg cs 3 7
  have s4 := seg cs 10 1
  have s5 := seg cs 11 1
  have s6 := seg cs 12 1
  have s7 := seg cs 13 1
  simp only [Nat.zero_add, Nat.reduceAdd] at s0 s1 s2 s3 s4 s5 s6 s7
  have key : cs.drop 0 = (List.take 1 (List.drop 0 cs) ++ (List.take 1 (List.drop 1 cs) ++ (List.take 1 (List.drop 2 cs) ++ (List.take 7 (List.drop 3 cs) ++ (List.take 1 (List.drop 10 cs) ++ (List.take 1 (List.drop 11 cs) ++ (List.take 1 (List.drop 12 cs) ++ (List.take 1 (List.drop 13 cs) ++ ([]))))))))) := (s0.trans (congrArg (List.take 1 (List.drop 0 cs) ++ ·) (s1.trans (congrArg (List.take 1 (List.drop 1 cs) ++ ·) (s2.trans (congrArg (List.take 1 (List.drop 2 cs) ++ ·) (s3.trans (congrArg (List.take 7 (List.drop 3 cs) ++ ·) (s4.trans (congrArg (List.take 1 (List.drop 10 cs) ++ ·) (s5.trans (congrArg (List.take 1 (List.drop 11 cs) ++ ·) (s6.trans (congrArg (List.take 1 (List.drop 12 cs) ++ ·) (s7.trans (congrArg (List.take 1 (List.drop 13 cs) ++ ·) (hd)))))))))))))))))
  have t0 : List.take 1 (List.drop 0 cs) = _ := e0
  have t1 : List.take 1 (List.drop 1 cs) = _ := e1
  have t2 : List.take 1 (List.drop 2 cs) = _ := e2
  have t3 : List.take 7 (List.drop 3 cs) = _ := e3
  have t4 : List.take 1 (List.drop 10 cs) = _ := e4
  have t5 : List.take 1 (List.drop 11 cs) = _ := e5
  have t6 : List.take 1 (List.drop 12 cs) = _ := e6
  have t7 : List.take 1 (List.drop 13 cs) = _ := e7
  refine ⟨⟨v0, v1, v2, at3, ln3, v3, wr3, dp3, v4, v5, v6, v7⟩, a6, n6, c6, a7, n7, c7, ?_, ⟨g0, g1, g2, ga3, gl3, g3, g4, g5, g6.i64s, g7.i64s⟩, g6, g7⟩
  rw [hcs, key, t0, t1, t2, t3, t4, t5, t6, t7]; rfl

/-! ### What the row lays -/
theorem star_es : "*" ++ "errors.errorString" = "*errors.errorString" := by decide
theorem row_es (u : TypeId) (h : (Tryd.prog).typeName? 3 u = some "*errors.errorString") : u = 142 :=
  typeName_ptr_named (nm := "errors.errorString") (by rw [star_es]; kernel_rfl) (by kernel_rfl) (by decide) u (by rw [star_es]; exact h)
theorem laid_of {W : World} (hL : laidMetH Tryd.prog Rows.linesWordsRow.laid W) (hsh : W.ShapedOpen Tryd.prog) : Laid W := by
  rw [MakeChecks.laidMetH_plain _ _ _ (by kernel_rfl)] at hL
  have h3 := hL.tail.tail
  have hT : Lib.TabIs Tryd.prog W "internal/strconv.uint64pow10" .u64 Lib.pow10Tab := Lib.tabIs_of_head (g := 0) (n := 20) (t := 116) (e := 102) (by kernel_rfl) (by kernel_rfl) (by kernel_rfl) (by kernel_rfl) (by kernel_rfl) (by kernel_rfl) h3
  have h5 := h3.tail.tail
  obtain ⟨a0, s0, hv0, hc0, hs0, hz0⟩ := laid_sentinel (g := 3) (tp := 142) (ti := 72) h5 (by kernel_rfl) (by kernel_rfl) Tryd.underlying72 row_es Tryd.underlying142 Tryd.underlying144 rfl rfl Tryd.underlying9 (by kernel_rfl) (by kernel_rfl)
  obtain ⟨a1, s1, hv1, hc1, hs1, hz1⟩ := laid_sentinel (g := 2) (tp := 142) (ti := 72) h5.tail (by kernel_rfl) (by kernel_rfl) Tryd.underlying72 row_es Tryd.underlying142 Tryd.underlying144 rfl rfl Tryd.underlying9 (by kernel_rfl) (by kernel_rfl)
  refine ⟨hT, ⟨142, .pointer (some a1), ?_⟩, ⟨142, .pointer (some a0), ?_⟩, ?_⟩
  rotate_left 2
  · exact cell_of_shapedOpen_int (P := Tryd.prog) (g := 1) (t := 3) (zero := #[.int .i64 0]) hsh (of_decide_eq_true (by kernel_rfl)) (by kernel_rfl) rfl (by kernel_rfl) (by kernel_rfl) Tryd.underlying3
  · exact World.var?_cell (show (Tryd.prog).globalNamed "strconv.ErrSyntax" = some 2 by kernel_rfl) hv1 0
  · exact World.var?_cell (show (Tryd.prog).globalNamed "strconv.ErrRange" = some 3 by kernel_rfl) hv0 0

/-! ### The wrap: what is laid and the world's shape -/
theorem returnsInHanded_laid {H : Type} {enc : TypeId × Value → H} {a : Assume} {C : Checked} {os : Os} {f : FuncId} {fn : Func} {s : ChangeSpec} {conds : List PathCond} {apart fresh handsOn again : Bool} {laid : List (String × DataW Unit)}
    (own : ownKnob C.prog.godebug = none) (started : os.Started) (noInit : C.prog.inits.idxOf? f = none) (hfn : C.prog.funcs[f]? = some fn)
    (witness : ∃ (w : World) (tape : Tape) (i : Input), w.os = os ∧ (w.forCall tape i).Shaped C.prog ∧ i.vars = [] ∧ Input.okWide C.prog (w.forCall tape i) .any w.heap.size f i ∧
      ((s.pre enc C.prog fn conds apart (w.forCall tape i).memory i.args ∧ laidMetH C.prog laid (w.forCall tape i).memory) ∧ sizedMet enc C.prog fn (OpenSpec.ofChange s) apart (w.forCall tape i).memory i.args) ∧ a.holds C.prog (lone (Frame.enter C.prog f i.args .normal) [] (w.forCall tape i)))
    (contract : ∀ (W : World) (base : Nat) (args : Array Value) (ds gs : List (DataW H)) (before : List MemPlace),
      (∀ (j : Nat) t v, fn.params[j]? = some t → args[j]? = some v → Value.okWide C.prog W .any base t v) →
      DataW.Whole enc C.prog fn.params.toList s.vars apart W args.toList ds gs before →
      conds.all (PathCond.test C.prog ⟨fn.params.toList, ds, s.plain.varTypes C.prog, gs⟩) = true →
      (DataW.weightsEach C.prog (fn.params.toList ++ s.plain.varTypes C.prog) (ds ++ gs)).all (· ≤ reachBytes) = true → laidMetH C.prog laid W → W.ShapedOpen C.prog →
      a.holds C.prog (lone (Frame.enter C.prog f args .normal) [] W) →
      Calls C.prog f args W fun e W' => ∃ v, e = .returned v ∧ s.post enc C.prog fn apart fresh handsOn again W args v W') :
    ReturnsInHanded a C os f .any (fun w args => (s.pre enc C.prog fn conds apart w args ∧ laidMetH C.prog laid w) ∧ sizedMet enc C.prog fn (OpenSpec.ofChange s) apart w args) (s.post enc C.prog fn apart fresh handsOn again) := by
  refine returnsInHanded_of_calls own started noInit witness ?_
  intro w tape i _ hsh _ hok hpre hholds
  obtain ⟨_, _, _, fn', hfn', _, _, _, _, hval⟩ := hok
  have e : fn' = fn := Option.some.inj (hfn'.symm.trans hfn)
  subst e
  obtain ⟨⟨⟨ds, gs, before, hw, hc⟩, hx⟩, hz⟩ := hpre
  have hw' := DataW.Whole.of_heap (w' := w.forCall tape i) (by rfl) hw
  refine (contract (w.forCall tape i) w.heap.size i.args ds gs before hval hw' hc (hz.weights hw) (laidMetH.of_heap (by rfl) hx) hsh hholds).mono fun e W' ⟨v, he, hp⟩ => ?_
  subst he
  exact ChangeSpec.post_blind hp
end Go.Proofs.YtjllaogechckoaaDoor
