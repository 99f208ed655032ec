/- Layer 5: statements. -/
import Derived.Test.YthackfblfkpddaaL04
namespace Go.Proofs.Ythackfblfkpddaa
open Go.RowKit
set_option linter.unusedSimpArgs false
set_option linter.unusedVariables false

def rvZ (r : Rv) : Bool := decide (r.kind = 0 ∧ r.op = 0 ∧ r.bo = 0 ∧ OpdZ r.a ∧ OpdZ r.b ∧ PlZ r.pl)
def stOk (s : St) : Bool :=
  if s.kind = 1 then decide (plErr s.pl = 0) && rvOk s.r && opdZ s.a && decide (s.loc = 0)
  else if s.kind = 2 ∨ s.kind = 4 then plZ s.pl && rvZ s.r && decide (opdErr s.a = 0) && decide (s.loc = 0)
  else if s.kind = 3 then plZ s.pl && rvZ s.r && opdZ s.a && decide (0 ≤ s.loc) && decide (s.loc < 16)
  else false

set_option maxHeartbeats 400000 in
theorem ref05_Valid (s : St) (w : World) :
    Calls Try.prog 101 #[s.v] w (Ret w (.bool (stOk s))) := by
  go_enter Try.func101, Try.ntmps101
  go_wp2_with fail
  (refine wp_region_ext (by kernel_rfl) (by kernel_rfl) ?_; (repeat (any_goals (first | go_big_quiet_step (first | fail) | (refine wpQuiet_step (fun K hK => ?_); go_simp; split <;> (refine hK _ ?_; clear hK K))))); all_goals (refine wpQuiet_nil ?_; intro w1 hb1; obtain ⟨x1, rfl⟩ := ext_of_grow hb1; clear hb1))
  go_wp2_with (first | (go_at_call 109; ((with_reducible refine (ref03_Check s.pl _).mono ?_); rintro e w2 ⟨rfl, hb2⟩; obtain ⟨x2, rfl⟩ := ext_of_grow hb2; clear hb2)) | (go_at_call 110; ((with_reducible refine (ref04_Check s.r _).mono ?_); rintro e w3 ⟨rfl, hb3⟩; obtain ⟨x3, rfl⟩ := ext_of_grow hb3; clear hb3)) | (go_at_call 111; ((with_reducible refine (ref04_CheckOperand s.a _).mono ?_); rintro e w4 ⟨rfl, hb4⟩; obtain ⟨x4, rfl⟩ := ext_of_grow hb4; clear hb4)))
  all_goals go_ret
  all_goals (refine Ret.bool ?_ (by (repeat (first | (with_reducible exact Grow.refl _) | assumption | refine Grow.ext ?_ _ | refine Grow.alloc ?_ _ | refine Grow.drew ?_ | refine Grow.setCell ?_ (by first | (simp; done) | (simp; omega)) _ | refine Grow.trans ?_ (by assumption)))))
  all_goals (go_light; have h1 := rvErr_iff s.r; unfold stOk plZ rvZ opdZ PlZ OpdZ PlZ; grind)

def stErr (s : St) : Int := if stOk s = true then 0 else 8
theorem stErr_iff (t : St) : stErr t = 0 ↔ stOk t = true := by unfold stErr; split <;> simp_all
theorem stErr_or (t : St) : stErr t = 0 ∨ stErr t = 8 := by unfold stErr; split <;> simp

end Go.Proofs.Ythackfblfkpddaa
