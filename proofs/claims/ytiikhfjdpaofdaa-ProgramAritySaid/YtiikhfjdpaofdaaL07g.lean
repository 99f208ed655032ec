/- Layer 7: two-phase locals. -/
import Derived.Test.YtiikhfjdpaofdaaL07f
import Derived.Test.YtiikhfjdpaofdaaArr
namespace Go.Proofs.Ytiikhfjdpaofdaa
open Go.RowKit
set_option linter.unusedSimpArgs false
set_option linter.unusedVariables false

structure TS where
  is : List Int
  all : List Int
  pas : List Int
  sets : List Int
abbrev WT (w : World) (o : Obj) (s : TS) : World := ((((w.alloc o).alloc (.cells (is16 s.is) 109)).alloc (.cells (cnt16 s.all) 124)).alloc (.cells (cnt16 s.pas) 124)).alloc (.cells (cnt16 s.sets) 124)
def pass (p : Pl) (b : Bool) : Bool := b && !p.deref && decide (p.field = 0)
def tstep (s : TS) (p : Pl) (b : Bool) : TS := ⟨s.is, s.all ++ [p.loc], if pass p b = true then s.pas ++ [p.loc] else s.pas, s.sets⟩
def loc16 (p : Pl) : Prop := 0 ≤ p.loc ∧ p.loc < 16
set_option maxHeartbeats 400000 in
theorem twos_on (w : World) (o : Obj) :
    On 99 (.pointer (some ⟨w.heap.size + 1 + 1, 0, none⟩)) (.pointer (some ⟨w.heap.size + 1 + 1 + 1, 0, none⟩)) (WT w o) tstep loc16 where
  size s s' := by simp
  call s x p b hw hp := by
    obtain ⟨is, al, pa, se⟩ := s
    obtain ⟨loc, de, fi⟩ := p
    obtain ⟨q, rfl⟩ := Int.eq_ofNat_of_zero_le hp.1
    have hq : q < 16 := by have := hp.2; simp at this; omega
    clear hp
    have hg1 := cnt16_get al q hq
    have hg2 := cnt16_get pa q hq
    have hs1 := cnt16_set al q hq
    have hs2 := cnt16_set pa q hq
    have hc1 := cw_one al q
    have hc2 := cw_one pa q
    have hf : (fi == 0) = true ∨ (fi == 0) = false := by cases (fi == 0) <;> simp
    cases b
    · go_enter Try.func99, Try.ntmps99
      go_wp2_with fail
      go_end0
      exact ⟨rfl, ext_of_grow (W := ext (WT w o ⟨is, al ++ [(q : Int)], pa, se⟩) x) (by (repeat (first | (with_reducible exact Grow.refl _) | assumption | refine Grow.ext ?_ _ | refine Grow.alloc ?_ _ | refine Grow.drew ?_ | refine Grow.setCell ?_ (by first | (simp; done) | (simp; omega)) _ | refine Grow.trans ?_ (by assumption))))⟩
    · have T : tstep ⟨is, al, pa, se⟩ ⟨(q : Int), de, fi⟩ true = ⟨is, al ++ [(q : Int)], if (!de && (fi == 0)) = true then pa ++ [(q : Int)] else pa, se⟩ := by simp [tstep, pass]
      cases de
      all_goals (rcases hf with hf | hf)
      all_goals (have hf' := hf)
      all_goals
        go_enter Try.func99, Try.ntmps99
        go_wp2_with fail
        go_end0
        refine ⟨rfl, ?_⟩
        rw [T, hf']
        first
          | refine ext_of_grow (W := ext (WT w o ⟨is, al ++ [(q : Int)], pa ++ [(q : Int)], se⟩) x) ?_
          | refine ext_of_grow (W := ext (WT w o ⟨is, al ++ [(q : Int)], pa, se⟩) x) ?_
        exact (by (repeat (first | (with_reducible exact Grow.refl _) | assumption | refine Grow.ext ?_ _ | refine Grow.alloc ?_ _ | refine Grow.drew ?_ | refine Grow.setCell ?_ (by first | (simp; done) | (simp; omega)) _ | refine Grow.trans ?_ (by assumption))))

theorem index_is16 (w : World) (l : List Int) : ∀ q, q < 16 → (Instr.index 109 (.agg (is16 l)) (.int .i64 (q : Nat))).run Try.prog w = .ok (.bool (decide ((q : Int) ∈ l))) w := by
  apply sixteen
  all_goals kernel_rfl
theorem index_cnt16 (w : World) (l : List Int) : ∀ q, q < 16 → (Instr.index 124 (.agg (cnt16 l)) (.int .i64 (q : Nat))).run Try.prog w = .ok (.int .i64 (cw l q)) w := by
  apply sixteen
  all_goals kernel_rfl
def setS (s : St) : Bool := two s && !s.pl.deref && decide (s.pl.field = 0) && decide (s.r.pl.loc ≠ s.pl.loc)
def stTS (t : TS) (s : St) : TS := ⟨if two s = true then (visFold tstep t (visS s)).is ++ [s.pl.loc] else (visFold tstep t (visS s)).is, (visFold tstep t (visS s)).all, (visFold tstep t (visS s)).pas,
  if setS s = true then (visFold tstep t (visS s)).sets ++ [s.pl.loc] else (visFold tstep t (visS s)).sets⟩
def bkTS (t : TS) (b : Bk) : TS := visFold tstep (b.stmts.foldl stTS t) (visJ b.jump)
abbrev ts0 : TS := ⟨[], [], [], []⟩
def fnTS (f : Fn) : TS := f.blocks.foldl bkTS ts0
def twoAt (t : TS) (params : Int) (k : Nat) : Bool := !decide ((k : Int) ∈ t.is) || (decide (params < (k : Int)) && decide (cw t.all k = 2) && decide (cw t.pas k = 1) && decide (cw t.sets k = 1))
def twosOk (f : Fn) : Bool := (List.range 16).all (twoAt (fnTS f) f.params)
theorem pl_loc {p : Pl} (h : plErr p = 0) : loc16 p := by have := (plErr_iff p).1 h; exact ⟨this.1, this.2.1⟩
theorem opd_loc {o : Opd} (h : opdErr o = 0) (h1 : o.kind ≠ 1) : loc16 o.pl := by
  rcases (opdErr_iff o).1 h with q | q
  · exact absurd q.1 h1
  · exact ⟨q.2.2.1, q.2.2.2.1⟩
theorem visO_loc {m : Bool} {o : Opd} (h : opdErr o = 0) : ∀ v ∈ visO m o, loc16 v.1 := by
  intro v hv; unfold visO at hv; split at hv
  · simp at hv
  · simp at hv; subst hv; exact opd_loc h (by assumption)
theorem visOs_loc {m : Bool} {l : List Opd} (h : ∀ o ∈ l, opdErr o = 0) : ∀ v ∈ visOs m l, loc16 v.1 := by
  intro v hv; unfold visOs at hv
  obtain ⟨o, ho, hv⟩ := List.mem_flatMap.1 hv
  exact visO_loc (h o ho) v hv
theorem visR_loc {r : Rv} (h : rvOk r = true) : ∀ v ∈ visR r, loc16 v.1 := by
  unfold visR
  split
  · intro v hv; simp at hv; subst hv; exact pl_loc (by unfold rvOk at h; grind)
  · split
    · exact visOs_loc (fun o ho => by simp at ho; subst ho; unfold rvOk at h; grind)
    · have hk : r.kind = 2 ∨ r.kind = 3 := by unfold rvOk at h; grind
      have ha : opdErr r.a = 0 ∧ opdErr r.b = 0 := by unfold rvOk at h; grind
      exact visOs_loc (fun o ho => by simp at ho; rcases ho with rfl | rfl; exact ha.1; exact ha.2)
theorem visS_loc {s : St} (h : stErr s = 0) : ∀ v ∈ visS s, loc16 v.1 := by
  have h := (stErr_iff s).1 h
  unfold visS
  split
  · intro v hv; simp at hv; subst hv; unfold stOk at h; unfold loc16; simp only []; grind
  · split
    · exact visOs_loc (fun o ho => by simp at ho; subst ho; unfold stOk at h; grind)
    · split
      · intro v hv
        rcases List.mem_cons.1 hv with rfl | hv
        · exact pl_loc (by unfold stOk at h; grind)
        · exact visR_loc (by unfold stOk at h; grind) v hv
      · intro v hv; cases hv
theorem visJ_loc {j : Ju} (h : juErr j = 0) : ∀ v ∈ visJ j, loc16 v.1 := by
  have h := (juErr_iff j).1 h
  have ha : ∀ o ∈ j.args, opdErr o = 0 := by
    intro o ho; unfold juOk argsOk at h; simp only [Bool.and_eq_true, List.all_eq_true, decide_eq_true_eq] at h; exact h.2 o ho
  unfold visJ
  split
  · exact visOs_loc (fun o ho => by simp at ho; subst ho; unfold juOk juPre at h; grind)
  · split
    · intro v hv
      rcases List.mem_cons.1 hv with rfl | hv
      · exact pl_loc (by unfold juOk juPre at h; grind)
      · exact visOs_loc ha v hv
    · intro v hv; cases hv
theorem two_loc {s : St} (h : stErr s = 0) (h2 : two s = true) : loc16 s.pl := by
  have h := (stErr_iff s).1 h
  exact pl_loc (by unfold two at h2; unfold stOk at h; grind)
theorem made_at {f : Fn} {b : Bk} {k : Nat} (h : madeB f = true) (hb : Hid (f.blocks[k]? = some b)) : (∀ s ∈ b.stmts, stErr s = 0) ∧ juErr b.jump = 0 := by
  unfold madeB at h; simp only [Bool.and_eq_true, List.all_eq_true] at h
  have := h.2 b (List.mem_of_getElem? hb.out)
  unfold bkB juB at this; simp only [Bool.and_eq_true, List.all_eq_true, decide_eq_true_eq] at this
  refine ⟨fun s hs => ?_, this.2.1.1⟩
  have q := this.1 s hs; unfold stB at q; simp only [Bool.and_eq_true, decide_eq_true_eq] at q; exact q.1
end Go.Proofs.Ytiikhfjdpaofdaa
