/- Layer 14: the types of operands. -/
import Derived.Test.YtacnjmmppgbmpaaGreatL13c
import Derived.Test.YtacnjmmppgbmpaaGreatL04b
import Derived.Test.YtacnjmmppgbmpaaGreatOwn
namespace Go.Proofs.YtacnjmmppgbmpaaGreat
open Go.RowKit
set_option linter.unusedSimpArgs false
set_option linter.unusedVariables false

set_option maxHeartbeats 400000 in
theorem typing_number (w : World) : Calls Tryz.prog 49 #[] w (Ret w (Ty.v ⟨1, 0⟩)) := by
  go_enter Tryz.func49, Tryz.ntmps49
  go_wp2
  ((try simp only [Exit.inBlock, Exit.then]); refine post_of (by simp only [results, Tryz.results49]; go_simp; rfl) rfl (by (repeat (first | (with_reducible exact Grow.refl _) | assumption | refine Grow.ext ?_ _ | refine Grow.alloc ?_ _ | refine Grow.drew ?_ | refine Grow.setCell ?_ (by first | (simp; done) | (simp; omega)) _ | refine Grow.trans ?_ (by assumption)))) ?_)
  rfl
set_option maxHeartbeats 400000 in
theorem typing_whole (w : World) : Calls Tryz.prog 45 #[] w (Ret w (Pl.v ⟨0, false, 0⟩)) := by
  go_enter Tryz.func45, Tryz.ntmps45
  go_wp2
  ((try simp only [Exit.inBlock, Exit.then]); refine post_of (by simp only [results, Tryz.results45]; go_simp; rfl) rfl (by (repeat (first | (with_reducible exact Grow.refl _) | assumption | refine Grow.ext ?_ _ | refine Grow.alloc ?_ _ | refine Grow.drew ?_ | refine Grow.setCell ?_ (by first | (simp; done) | (simp; omega)) _ | refine Grow.trans ?_ (by assumption)))) ?_)
  rfl

abbrev pl0 : Pl := ⟨0, false, 0⟩
theorem plaTy0 (ts : List Ty) : (plaTy ts pl0).2 = locErr ts := by
  unfold plaTy plaErr locErr
  by_cases h : LocOk ts = true
  · have h1 : 1 ≤ ts.length := by unfold LocOk at h; simp only [Bool.and_eq_true, decide_eq_true_eq] at h; exact h.1.1
    have hp : PlOk pl0 := by decide
    rw [if_neg (c := ¬ LocOk ts = true ∨ ¬ PlOk pl0) (by rintro (q | q); exact q h; exact q hp), if_neg (c := (ts.length : Int) ≤ pl0.loc) (by show ¬ (ts.length : Int) ≤ 0; omega), if_neg (by decide), if_pos h]
    rfl
  · rw [if_pos (c := ¬ LocOk ts = true ∨ ¬ PlOk pl0) (Or.inl h), if_pos (by decide), if_neg h]

set_option maxHeartbeats 400000 in
theorem typing_list (v : Value) (ts : List Ty) (w : World) {F : Nat → Prop} (hv : Sl F w v ts) :
    Calls Tryz.prog 22 #[v] w (Ret w (.int .i64 (locErr ts))) := by
  rw [← plaTy0 ts]
  go_enter Tryz.func22, Tryz.ntmps22
  go_wp2_with (first | (go_at_call 45; ((with_reducible refine (typing_whole _).mono ?_); rintro e w1 ⟨rfl, hb1⟩; obtain ⟨x1, rfl⟩ := ext_of_grow hb1; clear hb1)) | (go_at_call 44; ((with_reducible refine (placing_Type _ ts pl0 _ (hv.mono (by (repeat (first | (with_reducible exact Grow.refl _) | assumption | refine Grow.ext ?_ _ | refine Grow.alloc ?_ _ | refine Grow.drew ?_ | refine Grow.setCell ?_ (by first | (simp; done) | (simp; omega)) _ | refine Grow.trans ?_ (by assumption)))))).mono ?_); rintro e w2 ⟨rfl, hb2⟩; obtain ⟨x2, rfl⟩ := ext_of_grow hb2; clear hb2)))
  go_ret
  exact Ret.int rfl (by (repeat (first | (with_reducible exact Grow.refl _) | assumption | refine Grow.ext ?_ _ | refine Grow.alloc ?_ _ | refine Grow.drew ?_ | refine Grow.setCell ?_ (by first | (simp; done) | (simp; omega)) _ | refine Grow.trans ?_ (by assumption))))

def opTy (ts : List Ty) (o : Opd) : Ty × Int :=
  if o.kind = 1 then (⟨1, 0⟩, 0) else if (plaTy ts o.pl).2 ≠ 0 then (⟨0, 0⟩, (plaTy ts o.pl).2)
  else if ((o.kind == 3) != ((plaTy ts o.pl).1.kind == 4)) = true then (⟨0, 0⟩, 42) else ((plaTy ts o.pl).1, 0)

set_option maxHeartbeats 400000 in
theorem typing_operand (v : Value) (ts : List Ty) (o : Opd) (w : World) {F : Nat → Prop} (hv : Sl F w v ts) :
    Calls Tryz.prog 50 #[v, o.v] w (Ret w (.tuple #[(opTy ts o).1.v, .int .i64 (opTy ts o).2])) := by
  go_enter Tryz.func50, Tryz.ntmps50
  go_wp2_with (first | (go_at_call 49; ((with_reducible refine (typing_number _).mono ?_); rintro e w1 ⟨rfl, hb1⟩; obtain ⟨x1, rfl⟩ := ext_of_grow hb1; clear hb1)) | (go_at_call 44; ((with_reducible refine (placing_Type _ ts o.pl _ (hv.mono (by (repeat (first | (with_reducible exact Grow.refl _) | assumption | refine Grow.ext ?_ _ | refine Grow.alloc ?_ _ | refine Grow.drew ?_ | refine Grow.setCell ?_ (by first | (simp; done) | (simp; omega)) _ | refine Grow.trans ?_ (by assumption)))))).mono ?_); rintro e w2 ⟨rfl, hb2⟩; obtain ⟨x2, rfl⟩ := ext_of_grow hb2; clear hb2)))
  all_goals ((try simp only [Exit.inBlock, Exit.then]); refine post_of (by simp only [results, Tryz.results50]; go_simp; rfl) rfl (by (repeat (first | (with_reducible exact Grow.refl _) | assumption | refine Grow.ext ?_ _ | refine Grow.alloc ?_ _ | refine Grow.drew ?_ | refine Grow.setCell ?_ (by first | (simp; done) | (simp; omega)) _ | refine Grow.trans ?_ (by assumption)))) ?_)
  all_goals (go_light; grind [opTy])

set_option maxHeartbeats 400000 in
theorem ref14_Told (v : Value) (ts : List Ty) (o : Opd) (w : World) {F : Nat → Prop} (hv : Sl F w v ts) (hw : o.wf) (hk : o.kind = 1 ∨ o.kind = 2 ∨ o.kind = 3) :
    Calls Tryz.prog 61 #[v, o.v] w (Ret w (.tuple #[(opTy ts o).1.v, .int .i64 (opTy ts o).2])) := by
  have Hk := Lib.hid hk; clear hk
  go_enter Tryz.func61, Tryz.ntmps61
  go_wp2_with (first | (go_at_call 83; ((with_reducible refine (ref13_Type _ ts o.pl _ (hv.mono (by (repeat (first | (with_reducible exact Grow.refl _) | assumption | refine Grow.ext ?_ _ | refine Grow.alloc ?_ _ | refine Grow.drew ?_ | refine Grow.setCell ?_ (by first | (simp; done) | (simp; omega)) _ | refine Grow.trans ?_ (by assumption)))))).mono ?_); rw [tyR_eq ts o.pl hw.pl.field.1]; rintro e w1 ⟨rfl, hb1⟩; obtain ⟨x1, rfl⟩ := ext_of_grow hb1; clear hb1)))
  all_goals ((try simp only [Exit.inBlock, Exit.then]); refine post_of (by simp only [results, Tryz.results61]; go_simp; rfl) rfl (by (repeat (first | (with_reducible exact Grow.refl _) | assumption | refine Grow.ext ?_ _ | refine Grow.alloc ?_ _ | refine Grow.drew ?_ | refine Grow.setCell ?_ (by first | (simp; done) | (simp; omega)) _ | refine Grow.trans ?_ (by assumption)))) ?_)
  all_goals (go_light; have hk := Hk.out; grind [opTy])

def operandTy (ts : List Ty) (o : Opd) : Ty × Int := if locErr ts ≠ 0 then (⟨0, 0⟩, locErr ts) else if opdErr o ≠ 0 then (⟨0, 0⟩, opdErr o) else opTy ts o

end Go.Proofs.YtacnjmmppgbmpaaGreat
