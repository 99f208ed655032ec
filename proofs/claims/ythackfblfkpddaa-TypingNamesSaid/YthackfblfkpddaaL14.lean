/- Layer 14: the types of operands. -/
import Derived.Test.YthackfblfkpddaaL13c
import Derived.Test.YthackfblfkpddaaL04
import Derived.Test.YthackfblfkpddaaOwn
namespace Go.Proofs.Ythackfblfkpddaa
open Go.RowKit
set_option linter.unusedSimpArgs false
set_option linter.unusedVariables false

set_option maxHeartbeats 400000 in
theorem typing_number (w : World) : Calls Try.prog 60 #[] w (Ret w (Ty.v ⟨1, 0⟩)) := by
  go_enter Try.func60, Try.ntmps60
  go_wp2
  ((try simp only [Exit.inBlock, Exit.then]); refine post_of (by simp only [results, Try.results60]; go_simp; rfl) rfl (by (repeat (first | (with_reducible exact Grow.refl _) | assumption | refine Grow.ext ?_ _ | refine Grow.alloc ?_ _ | refine Grow.drew ?_ | refine Grow.setCell ?_ (by first | (simp; done) | (simp; omega)) _ | refine Grow.trans ?_ (by assumption)))) ?_)
  rfl
set_option maxHeartbeats 400000 in
theorem typing_whole (w : World) : Calls Try.prog 56 #[] w (Ret w (Pl.v ⟨0, false, 0⟩)) := by
  go_enter Try.func56, Try.ntmps56
  go_wp2
  ((try simp only [Exit.inBlock, Exit.then]); refine post_of (by simp only [results, Try.results56]; go_simp; rfl) rfl (by (repeat (first | (with_reducible exact Grow.refl _) | assumption | refine Grow.ext ?_ _ | refine Grow.alloc ?_ _ | refine Grow.drew ?_ | refine Grow.setCell ?_ (by first | (simp; done) | (simp; omega)) _ | refine Grow.trans ?_ (by assumption)))) ?_)
  rfl

abbrev pl0 : Pl := ⟨0, false, 0⟩
theorem plaTy0 (ts : List Ty) : (plaTy ts pl0).2 = locErr ts := by
  unfold plaTy plaErr locErr
  by_cases h : LocOk ts = true
  · have h1 : 1 ≤ ts.length := by unfold LocOk at h; simp only [Bool.and_eq_true, decide_eq_true_eq] at h; exact h.1.1
    have hp : PlOk pl0 := by decide
    rw [if_neg (c := ¬ LocOk ts = true ∨ ¬ PlOk pl0) (by rintro (q | q); exact q h; exact q hp), if_neg (c := (ts.length : Int) ≤ pl0.loc) (by show ¬ (ts.length : Int) ≤ 0; omega), if_neg (by decide), if_pos h]
    rfl
  · rw [if_pos (c := ¬ LocOk ts = true ∨ ¬ PlOk pl0) (Or.inl h), if_pos (by decide), if_neg h]

set_option maxHeartbeats 400000 in
theorem typing_list (v : Value) (ts : List Ty) (w : World) {F : Nat → Prop} (hv : Sl F w v ts) :
    Calls Try.prog 28 #[v] w (Ret w (.int .i64 (locErr ts))) := by
  rw [← plaTy0 ts]
  go_enter Try.func28, Try.ntmps28
  go_wp2_with (first | (go_at_call 56; ((with_reducible refine (typing_whole _).mono ?_); rintro e w1 ⟨rfl, hb1⟩; obtain ⟨x1, rfl⟩ := ext_of_grow hb1; clear hb1)) | (go_at_call 55; ((with_reducible refine (placing_Type _ ts pl0 _ (hv.mono (by (repeat (first | (with_reducible exact Grow.refl _) | assumption | refine Grow.ext ?_ _ | refine Grow.alloc ?_ _ | refine Grow.drew ?_ | refine Grow.setCell ?_ (by first | (simp; done) | (simp; omega)) _ | refine Grow.trans ?_ (by assumption)))))).mono ?_); rintro e w2 ⟨rfl, hb2⟩; obtain ⟨x2, rfl⟩ := ext_of_grow hb2; clear hb2)))
  go_ret
  exact Ret.int rfl (by (repeat (first | (with_reducible exact Grow.refl _) | assumption | refine Grow.ext ?_ _ | refine Grow.alloc ?_ _ | refine Grow.drew ?_ | refine Grow.setCell ?_ (by first | (simp; done) | (simp; omega)) _ | refine Grow.trans ?_ (by assumption))))

def opTy (ts : List Ty) (o : Opd) : Ty × Int :=
  if o.kind = 1 then (⟨1, 0⟩, 0) else if (plaTy ts o.pl).2 ≠ 0 then (⟨0, 0⟩, (plaTy ts o.pl).2)
  else if ((o.kind == 3) != ((plaTy ts o.pl).1.kind == 4)) = true then (⟨0, 0⟩, 42) else ((plaTy ts o.pl).1, 0)

set_option maxHeartbeats 400000 in
theorem typing_operand (v : Value) (ts : List Ty) (o : Opd) (w : World) {F : Nat → Prop} (hv : Sl F w v ts) :
    Calls Try.prog 61 #[v, o.v] w (Ret w (.tuple #[(opTy ts o).1.v, .int .i64 (opTy ts o).2])) := by
  go_enter Try.func61, Try.ntmps61
  go_wp2_with (first | (go_at_call 60; ((with_reducible refine (typing_number _).mono ?_); rintro e w1 ⟨rfl, hb1⟩; obtain ⟨x1, rfl⟩ := ext_of_grow hb1; clear hb1)) | (go_at_call 55; ((with_reducible refine (placing_Type _ ts o.pl _ (hv.mono (by (repeat (first | (with_reducible exact Grow.refl _) | assumption | refine Grow.ext ?_ _ | refine Grow.alloc ?_ _ | refine Grow.drew ?_ | refine Grow.setCell ?_ (by first | (simp; done) | (simp; omega)) _ | refine Grow.trans ?_ (by assumption)))))).mono ?_); rintro e w2 ⟨rfl, hb2⟩; obtain ⟨x2, rfl⟩ := ext_of_grow hb2; clear hb2)))
  all_goals ((try simp only [Exit.inBlock, Exit.then]); refine post_of (by simp only [results, Try.results61]; go_simp; rfl) rfl (by (repeat (first | (with_reducible exact Grow.refl _) | assumption | refine Grow.ext ?_ _ | refine Grow.alloc ?_ _ | refine Grow.drew ?_ | refine Grow.setCell ?_ (by first | (simp; done) | (simp; omega)) _ | refine Grow.trans ?_ (by assumption)))) ?_)
  all_goals (go_light; grind [opTy])

def operandTy (ts : List Ty) (o : Opd) : Ty × Int := if locErr ts ≠ 0 then (⟨0, 0⟩, locErr ts) else if opdErr o ≠ 0 then (⟨0, 0⟩, opdErr o) else opTy ts o

set_option maxHeartbeats 400000 in
theorem typing_Operand (v : Value) (ts : List Ty) (o : Opd) (w : World) {F : Nat → Prop} (hv : Sl F w v ts) :
    Calls Try.prog 38 #[v, o.v] w (Ret w (.tuple #[(operandTy ts o).1.v, .int .i64 (operandTy ts o).2])) := by
  go_enter Try.func38, Try.ntmps38
  go_wp2_with (first | (go_at_call 28; ((with_reducible refine (typing_list _ ts _ (hv.mono (by (repeat (first | (with_reducible exact Grow.refl _) | assumption | refine Grow.ext ?_ _ | refine Grow.alloc ?_ _ | refine Grow.drew ?_ | refine Grow.setCell ?_ (by first | (simp; done) | (simp; omega)) _ | refine Grow.trans ?_ (by assumption)))))).mono ?_); rintro e w1 ⟨rfl, hb1⟩; obtain ⟨x1, rfl⟩ := ext_of_grow hb1; clear hb1)) | (go_at_call 58; ((with_reducible refine (value_CheckOperand o _).mono ?_); rintro e w2 ⟨rfl, hb2⟩; obtain ⟨x2, rfl⟩ := ext_of_grow hb2; clear hb2)) | (go_at_call 61; ((with_reducible refine (typing_operand _ ts o _ (hv.mono (by (repeat (first | (with_reducible exact Grow.refl _) | assumption | refine Grow.ext ?_ _ | refine Grow.alloc ?_ _ | refine Grow.drew ?_ | refine Grow.setCell ?_ (by first | (simp; done) | (simp; omega)) _ | refine Grow.trans ?_ (by assumption)))))).mono ?_); rintro e w3 ⟨rfl, hb3⟩; obtain ⟨x3, rfl⟩ := ext_of_grow hb3; clear hb3)))
  all_goals ((try simp only [Exit.inBlock, Exit.then]); refine post_of (by simp only [results, Try.results38]; go_simp; rfl) rfl (by (repeat (first | (with_reducible exact Grow.refl _) | assumption | refine Grow.ext ?_ _ | refine Grow.alloc ?_ _ | refine Grow.drew ?_ | refine Grow.setCell ?_ (by first | (simp; done) | (simp; omega)) _ | refine Grow.trans ?_ (by assumption)))) ?_)
  all_goals (go_light; grind [operandTy])

end Go.Proofs.Ythackfblfkpddaa
