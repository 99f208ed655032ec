/- Layer 5: stmt.Check. -/
import Derived.Test.YthackfblfkpddaaL05
import Derived.Test.YthackfblfkpddaaEq
import Derived.RegionTactic
import Derived.BigRegion
namespace Go.Proofs.Ythackfblfkpddaa
open Go.RowKit
set_option linter.unusedSimpArgs false
set_option linter.unusedVariables false

set_option maxHeartbeats 1000000 in
theorem stmt_Check (s : St) (w : World) (hw : s.wf) :
    Calls Try.prog 31 #[s.v] w (Ret w (.int .i64 (stErr s))) := by
  have hr := hw.r
  by_cases h1 : (s.kind == 1) = true
  · go_enter Try.func31, Try.ntmps31
    go_wp2_with fail
    go_region
    go_wp2_with fail
    (refine wp_region_ext (by kernel_rfl) (by kernel_rfl) ?_; (repeat (any_goals (first | go_big_quiet_step (first | (go_at_call 59; refine ext_call (place_Check s.pl _)) | (go_at_call 29; refine ext_call (value_Check s.r _ hr))) | (refine wpQuiet_step (fun K hK => ?_); go_simp; split <;> (refine hK _ ?_; clear hK K))))); all_goals (refine wpQuiet_nil ?_; intro w1 hb1; obtain ⟨x1, rfl⟩ := ext_of_grow hb1; clear hb1))
    go_wp2_with fail
    all_goals go_ret
    all_goals (refine Ret.int ?_ (by (repeat (first | (with_reducible exact Grow.refl _) | assumption | refine Grow.ext ?_ _ | refine Grow.alloc ?_ _ | refine Grow.drew ?_ | refine Grow.setCell ?_ (by first | (simp; done) | (simp; omega)) _ | refine Grow.trans ?_ (by assumption)))))
    all_goals (go_light; have h2 := plErr_or s.pl; have h3 := rvErr_or s.r; have h4 := rvErr_iff s.r; clear hw hr; unfold stErr stOk opdZ OpdZ PlZ; grind)
  · have h1 : (s.kind == 1) = false := by simpa using h1
    go_enter Try.func31, Try.ntmps31
    go_wp2_with (first | (go_at_call 58; ((with_reducible refine (value_CheckOperand s.a _).mono ?_); rintro e w1 ⟨rfl, hb1⟩; obtain ⟨x1, rfl⟩ := ext_of_grow hb1; clear hb1)) | (go_at_call 59; ((with_reducible refine (place_Check ⟨s.loc, false, 0⟩ _).mono ?_); rintro e w2 ⟨rfl, hb2⟩; obtain ⟨x2, rfl⟩ := ext_of_grow hb2; clear hb2)))
    all_goals go_ret
    all_goals (refine Ret.int ?_ (by (repeat (first | (with_reducible exact Grow.refl _) | assumption | refine Grow.ext ?_ _ | refine Grow.alloc ?_ _ | refine Grow.drew ?_ | refine Grow.setCell ?_ (by first | (simp; done) | (simp; omega)) _ | refine Grow.trans ?_ (by assumption)))))
    all_goals (go_light; have h2 := opdErr_or s.a; have h3 := plErr_or ⟨s.loc, false, 0⟩; have h4 := plErr_iff ⟨s.loc, false, 0⟩; clear hw hr; unfold stErr stOk plZ rvZ opdZ OpdZ PlZ; grind)
end Go.Proofs.Ythackfblfkpddaa
