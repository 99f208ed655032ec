/- Layer 14: statements. -/
import Derived.Test.YtacnjmmppgbmpaaGreatL14e
import Derived.Test.YtacnjmmppgbmpaaGreatL05b
namespace Go.Proofs.YtacnjmmppgbmpaaGreat
open Go.RowKit
set_option linter.unusedSimpArgs false
set_option linter.unusedVariables false

def fitsErr (ts : List Ty) (p : Pl) (t : Ty) : Int := if plaWr ts p ≠ 0 then plaWr ts p else if (plaTy ts p).1.kind = t.kind ∧ (plaTy ts p).1.to = t.to then 0 else 42

set_option maxHeartbeats 400000 in
theorem typing_fits (v : Value) (ts : List Ty) (p : Pl) (t : Ty) (w : World) {F : Nat → Prop} (hv : Sl F w v ts) :
    Calls Tryz.prog 25 #[v, p.v, t.v] w (Ret w (.int .i64 (fitsErr ts p t))) := by
  go_enter Tryz.func25, Tryz.ntmps25
  go_wp2_with (first | (go_at_call 52; ((with_reducible refine (placing_Write _ ts p _ (hv.mono (by (repeat (first | (with_reducible exact Grow.refl _) | assumption | refine Grow.ext ?_ _ | refine Grow.alloc ?_ _ | refine Grow.drew ?_ | refine Grow.setCell ?_ (by first | (simp; done) | (simp; omega)) _ | refine Grow.trans ?_ (by assumption)))))).mono ?_); rintro e w1 ⟨rfl, hb1⟩; obtain ⟨x1, rfl⟩ := ext_of_grow hb1; clear hb1)) | (go_at_call 44; ((with_reducible refine (placing_Type _ ts p _ (hv.mono (by (repeat (first | (with_reducible exact Grow.refl _) | assumption | refine Grow.ext ?_ _ | refine Grow.alloc ?_ _ | refine Grow.drew ?_ | refine Grow.setCell ?_ (by first | (simp; done) | (simp; omega)) _ | refine Grow.trans ?_ (by assumption)))))).mono ?_); rintro e w2 ⟨rfl, hb2⟩; obtain ⟨x2, rfl⟩ := ext_of_grow hb2; clear hb2)))
  all_goals go_ret
  all_goals (refine Ret.int ?_ (by (repeat (first | (with_reducible exact Grow.refl _) | assumption | refine Grow.ext ?_ _ | refine Grow.alloc ?_ _ | refine Grow.drew ?_ | refine Grow.setCell ?_ (by first | (simp; done) | (simp; omega)) _ | refine Grow.trans ?_ (by assumption)))))
  all_goals (go_light; unfold fitsErr; grind)

set_option maxHeartbeats 400000 in
theorem ref14_into (v : Value) (ts : List Ty) (p : Pl) (t : Ty) (w : World) {F : Nat → Prop} (hv : Sl F w v ts) (hp : p.wf) :
    Calls Tryz.prog 59 #[v, p.v, t.v] w (Ret w (.int .i64 (fitsErr ts p t))) := by
  have Hpf := Lib.hid hp.field.1
  go_enter Tryz.func59, Tryz.ntmps59
  go_wp2_with (first | (go_at_call 83; ((with_reducible refine (ref13_Type _ ts p _ (hv.mono (by (repeat (first | (with_reducible exact Grow.refl _) | assumption | refine Grow.ext ?_ _ | refine Grow.alloc ?_ _ | refine Grow.drew ?_ | refine Grow.setCell ?_ (by first | (simp; done) | (simp; omega)) _ | refine Grow.trans ?_ (by assumption)))))).mono ?_); rw [tyR_eq ts p Hpf.out]; rintro e w3 ⟨rfl, hb3⟩; obtain ⟨x3, rfl⟩ := ext_of_grow hb3; clear hb3)) | (go_at_call 84; ((with_reducible refine (ref13_Write _ ts p _ (hv.mono (by (repeat (first | (with_reducible exact Grow.refl _) | assumption | refine Grow.ext ?_ _ | refine Grow.alloc ?_ _ | refine Grow.drew ?_ | refine Grow.setCell ?_ (by first | (simp; done) | (simp; omega)) _ | refine Grow.trans ?_ (by assumption)))))).mono ?_); rw [writeR_eq ts p Hpf.out]; rintro e w4 ⟨rfl, hb4⟩; obtain ⟨x4, rfl⟩ := ext_of_grow hb4; clear hb4)))
  all_goals go_ret
  all_goals (refine Ret.int ?_ (by (repeat (first | (with_reducible exact Grow.refl _) | assumption | refine Grow.ext ?_ _ | refine Grow.alloc ?_ _ | refine Grow.drew ?_ | refine Grow.setCell ?_ (by first | (simp; done) | (simp; omega)) _ | refine Grow.trans ?_ (by assumption)))))
  all_goals (go_light; unfold fitsErr; grind)
end Go.Proofs.YtacnjmmppgbmpaaGreat
