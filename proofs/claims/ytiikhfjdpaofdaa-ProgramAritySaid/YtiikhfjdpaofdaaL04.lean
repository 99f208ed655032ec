/- Layer 4: operands and rvalues. -/
import Derived.Test.YtiikhfjdpaofdaaL13
namespace Go.Proofs.Ytiikhfjdpaofdaa
open Go.RowKit
set_option linter.unusedSimpArgs false
set_option linter.unusedVariables false

abbrev PlZ (p : Pl) : Prop := p.loc = 0 ∧ p.deref = false ∧ p.field = 0
abbrev OpdZ (o : Opd) : Prop := o.kind = 0 ∧ o.n = 0 ∧ PlZ o.pl
abbrev OpdOk (o : Opd) : Prop := (o.kind = 1 ∧ PlZ o.pl) ∨ ((o.kind = 2 ∨ o.kind = 3) ∧ o.n = 0 ∧ PlOk o.pl)
def opdErr (o : Opd) : Int := if OpdOk o then 0 else 8
theorem opdErr_iff (t : Opd) : opdErr t = 0 ↔ OpdOk t := by unfold opdErr; split <;> simp_all
theorem opdErr_or (t : Opd) : opdErr t = 0 ∨ opdErr t = 8 := by unfold opdErr; split <;> simp

set_option maxHeartbeats 400000 in
theorem value_CheckOperand (o : Opd) (w : World) :
    Calls Try.prog 117 #[o.v] w (Ret w (.int .i64 (opdErr o))) := by
  go_enter Try.func117, Try.ntmps117
  go_wp2_with (first | (go_at_call 115; ((with_reducible refine (place_Check o.pl _).mono ?_); rintro e w1 ⟨rfl, hb1⟩; obtain ⟨x1, rfl⟩ := ext_of_grow hb1; clear hb1)))
  all_goals go_ret
  all_goals (refine Ret.int ?_ (by (repeat (first | (with_reducible exact Grow.refl _) | assumption | refine Grow.ext ?_ _ | refine Grow.alloc ?_ _ | refine Grow.drew ?_ | refine Grow.setCell ?_ (by first | (simp; done) | (simp; omega)) _ | refine Grow.trans ?_ (by assumption)))))
  all_goals (have h0 := plErr_or o.pl; have h1 := plErr_iff o.pl; unfold opdErr; grind)

set_option maxHeartbeats 400000 in
theorem ref04_CheckOperand (o : Opd) (w : World) :
    Calls Try.prog 132 #[o.v] w (Ret w (.int .i64 (opdErr o))) := by
  go_enter Try.func132, Try.ntmps132
  go_wp2_with (first | (go_at_call 130; ((with_reducible refine (ref03_Check o.pl _).mono ?_); rintro e w1 ⟨rfl, hb1⟩; obtain ⟨x1, rfl⟩ := ext_of_grow hb1; clear hb1)))
  all_goals go_ret
  all_goals (refine Ret.int ?_ (by (repeat (first | (with_reducible exact Grow.refl _) | assumption | refine Grow.ext ?_ _ | refine Grow.alloc ?_ _ | refine Grow.drew ?_ | refine Grow.setCell ?_ (by first | (simp; done) | (simp; omega)) _ | refine Grow.trans ?_ (by assumption)))))
  all_goals (have h0 := plErr_or o.pl; have h1 := plErr_iff o.pl; unfold opdErr; grind)

def opdZ (o : Opd) : Bool := decide (OpdZ o)
set_option maxHeartbeats 400000 in
theorem ref04_none (o : Opd) (w : World) :
    Calls Try.prog 135 #[o.v] w (Ret w (.bool (opdZ o))) := by
  go_enter Try.func135, Try.ntmps135
  go_wp2
  all_goals go_ret
  all_goals (refine Ret.bool ?_ (by (repeat (first | (with_reducible exact Grow.refl _) | assumption | refine Grow.ext ?_ _ | refine Grow.alloc ?_ _ | refine Grow.drew ?_ | refine Grow.setCell ?_ (by first | (simp; done) | (simp; omega)) _ | refine Grow.trans ?_ (by assumption)))))
  all_goals (unfold opdZ; grind)

def opdOk2 (a b : Opd) : Bool := decide (opdErr a = 0) && decide (opdErr b = 0)
set_option maxHeartbeats 400000 in
theorem ref04_right (a b : Opd) (w : World) :
    Calls Try.prog 136 #[a.v, b.v] w (Ret w (.bool (opdOk2 a b))) := by
  go_enter Try.func136, Try.ntmps136
  go_wp2_with (first | (go_at_call 132; ((with_reducible refine (ref04_CheckOperand a _).mono ?_); rintro e w1 ⟨rfl, hb1⟩; obtain ⟨x1, rfl⟩ := ext_of_grow hb1; clear hb1)) | (go_at_call 132; ((with_reducible refine (ref04_CheckOperand b _).mono ?_); rintro e w2 ⟨rfl, hb2⟩; obtain ⟨x2, rfl⟩ := ext_of_grow hb2; clear hb2)))
  all_goals go_ret
  all_goals (refine Ret.bool ?_ (by (repeat (first | (with_reducible exact Grow.refl _) | assumption | refine Grow.ext ?_ _ | refine Grow.alloc ?_ _ | refine Grow.drew ?_ | refine Grow.setCell ?_ (by first | (simp; done) | (simp; omega)) _ | refine Grow.trans ?_ (by assumption)))))
  all_goals (unfold opdOk2; grind)

def plZ (p : Pl) : Bool := decide (PlZ p)
def rvOk (r : Rv) : Bool :=
  if r.kind = 1 then decide (opdErr r.a = 0) && opdZ r.b && plZ r.pl && decide (r.op = 0) && decide (r.bo = 0)
  else if r.kind = 2 then decide (opdErr r.a = 0) && decide (opdErr r.b = 0) && plZ r.pl && decide (1 ≤ r.op) && decide (r.op ≤ 6) && decide (r.bo = 0)
  else if r.kind = 3 then decide (opdErr r.a = 0) && decide (opdErr r.b = 0) && plZ r.pl && decide (r.op = 0) && decide (r.bo = 0)
  else if r.kind = 4 then opdZ r.a && opdZ r.b && decide (plErr r.pl = 0) && decide (r.op = 0) && decide (1 ≤ r.bo) && decide (r.bo ≤ 3)
  else if r.kind = 5 then opdZ r.a && opdZ r.b && decide (plErr r.pl = 0) && decide (r.op = 0) && decide (r.bo = 0)
  else false
def rvErr (r : Rv) : Int := if rvOk r = true then 0 else 8
theorem rvErr_iff (t : Rv) : rvErr t = 0 ↔ rvOk t = true := by unfold rvErr; split <;> simp_all
theorem rvErr_or (t : Rv) : rvErr t = 0 ∨ rvErr t = 8 := by unfold rvErr; split <;> simp

set_option maxHeartbeats 1000000 in
theorem ref04_Valid (r : Rv) (w : World) :
    Calls Try.prog 134 #[r.v] w (Ret w (.bool (rvOk r))) := by
  go_enter Try.func134, Try.ntmps134
  go_wp2_with (first | (go_at_call 132; ((with_reducible refine (ref04_CheckOperand r.a _).mono ?_); rintro e w1 ⟨rfl, hb1⟩; obtain ⟨x1, rfl⟩ := ext_of_grow hb1; clear hb1)) | (go_at_call 135; ((with_reducible refine (ref04_none r.b _).mono ?_); rintro e w2 ⟨rfl, hb2⟩; obtain ⟨x2, rfl⟩ := ext_of_grow hb2; clear hb2)) | (go_at_call 135; ((with_reducible refine (ref04_none r.a _).mono ?_); rintro e w3 ⟨rfl, hb3⟩; obtain ⟨x3, rfl⟩ := ext_of_grow hb3; clear hb3)) | (go_at_call 136; ((with_reducible refine (ref04_right r.a r.b _).mono ?_); rintro e w4 ⟨rfl, hb4⟩; obtain ⟨x4, rfl⟩ := ext_of_grow hb4; clear hb4)) | (go_at_call 130; ((with_reducible refine (ref03_Check r.pl _).mono ?_); rintro e w5 ⟨rfl, hb5⟩; obtain ⟨x5, rfl⟩ := ext_of_grow hb5; clear hb5)))
  all_goals go_ret
  all_goals (refine Ret.bool ?_ (by (repeat (first | (with_reducible exact Grow.refl _) | assumption | refine Grow.ext ?_ _ | refine Grow.alloc ?_ _ | refine Grow.drew ?_ | refine Grow.setCell ?_ (by first | (simp; done) | (simp; omega)) _ | refine Grow.trans ?_ (by assumption)))))
  all_goals (unfold rvOk plZ PlZ; grind [opdOk2])

set_option maxHeartbeats 400000 in
theorem ref04_Check (r : Rv) (w : World) :
    Calls Try.prog 131 #[r.v] w (Ret w (.int .i64 (rvErr r))) := by
  go_enter Try.func131, Try.ntmps131
  go_wp2_with (first | (go_at_call 134; ((with_reducible refine (ref04_Valid r _).mono ?_); rintro e w1 ⟨rfl, hb1⟩; obtain ⟨x1, rfl⟩ := ext_of_grow hb1; clear hb1)))
  all_goals go_ret
  all_goals (refine Ret.int ?_ (by (repeat (first | (with_reducible exact Grow.refl _) | assumption | refine Grow.ext ?_ _ | refine Grow.alloc ?_ _ | refine Grow.drew ?_ | refine Grow.setCell ?_ (by first | (simp; done) | (simp; omega)) _ | refine Grow.trans ?_ (by assumption)))))
  all_goals (unfold rvErr; grind)

end Go.Proofs.Ytiikhfjdpaofdaa
