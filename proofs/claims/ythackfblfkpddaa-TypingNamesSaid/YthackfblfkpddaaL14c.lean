/- Layer 14: the types of rvalues. -/
import Derived.Test.YthackfblfkpddaaL14b
namespace Go.Proofs.Ythackfblfkpddaa
open Go.RowKit
set_option linter.unusedSimpArgs false
set_option linter.unusedVariables false

def rvTy (ts : List Ty) (r : Rv) : Ty × Int :=
  if r.kind = 1 then opTy ts r.a
  else if r.kind = 3 then (if intsErr ts [r.a, r.b] ≠ 0 then (⟨0, 0⟩, intsErr ts [r.a, r.b]) else (⟨2, 0⟩, 0))
  else if r.kind = 2 then (if intsErr ts [r.a, r.b] ≠ 0 then (⟨0, 0⟩, intsErr ts [r.a, r.b]) else (⟨1, 0⟩, 0))
  else borTy ts r

set_option maxHeartbeats 400000 in
theorem typing_rvalue (v : Value) (ts : List Ty) (r : Rv) (w : World) {F : Nat → Prop} (hv : Sl F w v ts) (hw : r.wf) :
    Calls Try.prog 30 #[v, r.v] w (Ret w (.tuple #[(rvTy ts r).1.v, .int .i64 (rvTy ts r).2])) := by
  have hra := hw.a; have hrb := hw.b
  go_enter Try.func30, Try.ntmps30
  go_wp2_with (first | (go_at_call 60; ((with_reducible refine (typing_number _).mono ?_); rintro e w1 ⟨rfl, hb1⟩; obtain ⟨x1, rfl⟩ := ext_of_grow hb1; clear hb1)) | (go_at_call 61; ((with_reducible refine (typing_operand _ ts r.a _ (hv.mono (by (repeat (first | (with_reducible exact Grow.refl _) | assumption | refine Grow.ext ?_ _ | refine Grow.alloc ?_ _ | refine Grow.drew ?_ | refine Grow.setCell ?_ (by first | (simp; done) | (simp; omega)) _ | refine Grow.trans ?_ (by assumption)))))).mono ?_); rintro e w2 ⟨rfl, hb2⟩; obtain ⟨x2, rfl⟩ := ext_of_grow hb2; clear hb2)) | (go_at_call 62; ((with_reducible refine (typing_borrowed _ ts r _ (hv.mono (by (repeat (first | (with_reducible exact Grow.refl _) | assumption | refine Grow.ext ?_ _ | refine Grow.alloc ?_ _ | refine Grow.drew ?_ | refine Grow.setCell ?_ (by first | (simp; done) | (simp; omega)) _ | refine Grow.trans ?_ (by assumption)))))).mono ?_); rintro e w3 ⟨rfl, hb3⟩; obtain ⟨x3, rfl⟩ := ext_of_grow hb3; clear hb3)) | (go_at_call 33; (refine (typing_ints _ _ ts [r.a, r.b] _ (hv.mono (by (repeat (first | (with_reducible exact Grow.refl _) | assumption | refine Grow.ext ?_ _ | refine Grow.alloc ?_ _ | refine Grow.drew ?_ | refine Grow.setCell ?_ (by first | (simp; done) | (simp; omega)) _ | refine Grow.trans ?_ (by assumption))))) (Sl.two (F := fun _ => True) trivial (by simp) (by omega) (by omega) ⟨rfl, hra⟩ (by (repeat (refine CellsAt.cons (by go_simp) ?_)); exact CellsAt.nil _ _ _) ⟨rfl, hrb⟩ (by (repeat (refine CellsAt.cons (by go_simp) ?_)); exact CellsAt.nil _ _ _))).mono ?_; rintro e w4 ⟨rfl, hb4⟩; obtain ⟨x4, rfl⟩ := ext_of_grow hb4; clear hb4)))
  all_goals ((try simp only [Exit.inBlock, Exit.then]); refine post_of (by simp only [results, Try.results30]; go_simp; rfl) rfl (by (repeat (first | (with_reducible exact Grow.refl _) | assumption | refine Grow.ext ?_ _ | refine Grow.alloc ?_ _ | refine Grow.drew ?_ | refine Grow.setCell ?_ (by first | (simp; done) | (simp; omega)) _ | refine Grow.trans ?_ (by assumption)))) ?_)
  all_goals (go_light; grind [rvTy])

def rvalueTy (ts : List Ty) (r : Rv) : Ty × Int := if locErr ts ≠ 0 then (⟨0, 0⟩, locErr ts) else if rvErr r ≠ 0 then (⟨0, 0⟩, rvErr r) else rvTy ts r

set_option maxHeartbeats 400000 in
theorem typing_Rvalue (v : Value) (ts : List Ty) (r : Rv) (w : World) {F : Nat → Prop} (hv : Sl F w v ts) (hw : r.wf) :
    Calls Try.prog 6 #[v, r.v] w (Ret w (.tuple #[(rvalueTy ts r).1.v, .int .i64 (rvalueTy ts r).2])) := by
  go_enter Try.func6, Try.ntmps6
  go_wp2_with (first | (go_at_call 28; ((with_reducible refine (typing_list _ ts _ (hv.mono (by (repeat (first | (with_reducible exact Grow.refl _) | assumption | refine Grow.ext ?_ _ | refine Grow.alloc ?_ _ | refine Grow.drew ?_ | refine Grow.setCell ?_ (by first | (simp; done) | (simp; omega)) _ | refine Grow.trans ?_ (by assumption)))))).mono ?_); rintro e w1 ⟨rfl, hb1⟩; obtain ⟨x1, rfl⟩ := ext_of_grow hb1; clear hb1)) | (go_at_call 29; ((with_reducible refine (value_Check r _ hw).mono ?_); rintro e w2 ⟨rfl, hb2⟩; obtain ⟨x2, rfl⟩ := ext_of_grow hb2; clear hb2)) | (go_at_call 30; ((with_reducible refine (typing_rvalue _ ts r _ (hv.mono (by (repeat (first | (with_reducible exact Grow.refl _) | assumption | refine Grow.ext ?_ _ | refine Grow.alloc ?_ _ | refine Grow.drew ?_ | refine Grow.setCell ?_ (by first | (simp; done) | (simp; omega)) _ | refine Grow.trans ?_ (by assumption))))) hw).mono ?_); rintro e w3 ⟨rfl, hb3⟩; obtain ⟨x3, rfl⟩ := ext_of_grow hb3; clear hb3)))
  all_goals ((try simp only [Exit.inBlock, Exit.then]); refine post_of (by simp only [results, Try.results6]; go_simp; rfl) rfl (by (repeat (first | (with_reducible exact Grow.refl _) | assumption | refine Grow.ext ?_ _ | refine Grow.alloc ?_ _ | refine Grow.drew ?_ | refine Grow.setCell ?_ (by first | (simp; done) | (simp; omega)) _ | refine Grow.trans ?_ (by assumption)))) ?_)
  all_goals (go_light; grind [rvalueTy])
end Go.Proofs.Ythackfblfkpddaa
