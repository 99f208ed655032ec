/- Layer 14: statements. -/
import Derived.Test.YthackfblfkpddaaL14e
import Derived.Test.YthackfblfkpddaaL05b
namespace Go.Proofs.Ythackfblfkpddaa
open Go.RowKit
set_option linter.unusedSimpArgs false
set_option linter.unusedVariables false

def fitsErr (ts : List Ty) (p : Pl) (t : Ty) : Int := if plaWr ts p ≠ 0 then plaWr ts p else if (plaTy ts p).1.kind = t.kind ∧ (plaTy ts p).1.to = t.to then 0 else 42

set_option maxHeartbeats 400000 in
theorem typing_fits (v : Value) (ts : List Ty) (p : Pl) (t : Ty) (w : World) {F : Nat → Prop} (hv : Sl F w v ts) :
    Calls Try.prog 32 #[v, p.v, t.v] w (Ret w (.int .i64 (fitsErr ts p t))) := by
  go_enter Try.func32, Try.ntmps32
  go_wp2_with (first | (go_at_call 63; ((with_reducible refine (placing_Write _ ts p _ (hv.mono (by (repeat (first | (with_reducible exact Grow.refl _) | assumption | refine Grow.ext ?_ _ | refine Grow.alloc ?_ _ | refine Grow.drew ?_ | refine Grow.setCell ?_ (by first | (simp; done) | (simp; omega)) _ | refine Grow.trans ?_ (by assumption)))))).mono ?_); rintro e w1 ⟨rfl, hb1⟩; obtain ⟨x1, rfl⟩ := ext_of_grow hb1; clear hb1)) | (go_at_call 55; ((with_reducible refine (placing_Type _ ts p _ (hv.mono (by (repeat (first | (with_reducible exact Grow.refl _) | assumption | refine Grow.ext ?_ _ | refine Grow.alloc ?_ _ | refine Grow.drew ?_ | refine Grow.setCell ?_ (by first | (simp; done) | (simp; omega)) _ | refine Grow.trans ?_ (by assumption)))))).mono ?_); rintro e w2 ⟨rfl, hb2⟩; obtain ⟨x2, rfl⟩ := ext_of_grow hb2; clear hb2)))
  all_goals go_ret
  all_goals (refine Ret.int ?_ (by (repeat (first | (with_reducible exact Grow.refl _) | assumption | refine Grow.ext ?_ _ | refine Grow.alloc ?_ _ | refine Grow.drew ?_ | refine Grow.setCell ?_ (by first | (simp; done) | (simp; omega)) _ | refine Grow.trans ?_ (by assumption)))))
  all_goals (go_light; unfold fitsErr; grind)

end Go.Proofs.Ythackfblfkpddaa
