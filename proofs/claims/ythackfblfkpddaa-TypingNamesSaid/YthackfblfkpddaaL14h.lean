/- Layer 14: statements agree. -/
import Derived.Test.YthackfblfkpddaaL14g
namespace Go.Proofs.Ythackfblfkpddaa
open Go.RowKit
set_option linter.unusedSimpArgs false
set_option linter.unusedVariables false

set_option maxHeartbeats 400000 in
theorem typing_Stmt (v : Value) (ts : List Ty) (s : St) (w : World) {F : Nat → Prop} (hv : Sl F w v ts) (hw : s.wf) :
    Calls Try.prog 9 #[v, s.v] w (Ret w (.int .i64 (stmtErr ts s))) := by
  obtain ⟨a, n, cap, rfl, Hn, hm, hcap, hcm, hv⟩ := hv.open
  have hr := hw.r; have ha := hw.a
  go_enter Try.func9, Try.ntmps9
  go_wp2_with (first | (go_at_call 28; ((with_reducible refine (typing_list _ ts _ (hv.mono (by (repeat (first | (with_reducible exact Grow.refl _) | assumption | refine Grow.ext ?_ _ | refine Grow.alloc ?_ _ | refine Grow.drew ?_ | refine Grow.setCell ?_ (by first | (simp; done) | (simp; omega)) _ | refine Grow.trans ?_ (by assumption)))))).mono ?_); rintro e w1 ⟨rfl, hb1⟩; obtain ⟨x1, rfl⟩ := ext_of_grow hb1; clear hb1)) | (go_at_call 31; ((with_reducible refine (stmt_Check s _ hw).mono ?_); rintro e w2 ⟨rfl, hb2⟩; obtain ⟨x2, rfl⟩ := ext_of_grow hb2; clear hb2)) | (go_at_call 30; ((with_reducible refine (typing_rvalue _ ts s.r _ (hv.mono (by (repeat (first | (with_reducible exact Grow.refl _) | assumption | refine Grow.ext ?_ _ | refine Grow.alloc ?_ _ | refine Grow.drew ?_ | refine Grow.setCell ?_ (by first | (simp; done) | (simp; omega)) _ | refine Grow.trans ?_ (by assumption))))) hr).mono ?_); rintro e w3 ⟨rfl, hb3⟩; obtain ⟨x3, rfl⟩ := ext_of_grow hb3; clear hb3)) | (go_at_call 32; ((with_reducible refine (typing_fits _ ts s.pl (rvTy ts s.r).1 _ (hv.mono (by (repeat (first | (with_reducible exact Grow.refl _) | assumption | refine Grow.ext ?_ _ | refine Grow.alloc ?_ _ | refine Grow.drew ?_ | refine Grow.setCell ?_ (by first | (simp; done) | (simp; omega)) _ | refine Grow.trans ?_ (by assumption)))))).mono ?_); rintro e w4 ⟨rfl, hb4⟩; obtain ⟨x4, rfl⟩ := ext_of_grow hb4; clear hb4)) | (go_at_call 33; (refine (typing_ints _ _ ts [s.a] _ (hv.mono (by (repeat (first | (with_reducible exact Grow.refl _) | assumption | refine Grow.ext ?_ _ | refine Grow.alloc ?_ _ | refine Grow.drew ?_ | refine Grow.setCell ?_ (by first | (simp; done) | (simp; omega)) _ | refine Grow.trans ?_ (by assumption))))) (Sl.one (F := fun _ => True) trivial (by simp) (by omega) (by omega) ⟨rfl, ha⟩ (by (repeat (refine CellsAt.cons (by go_simp) ?_)); exact CellsAt.nil _ _ _))).mono ?_; rintro e w5 ⟨rfl, hb5⟩; obtain ⟨x5, rfl⟩ := ext_of_grow hb5; clear hb5)))
  all_goals go_ret
  all_goals (refine Ret.int ?_ (by (repeat (first | (with_reducible exact Grow.refl _) | assumption | refine Grow.ext ?_ _ | refine Grow.alloc ?_ _ | refine Grow.drew ?_ | refine Grow.setCell ?_ (by first | (simp; done) | (simp; omega)) _ | refine Grow.trans ?_ (by assumption)))))
  all_goals (go_light; have q3 := Hn.out; unfold stmtErr stTy numErr; rw [← q3]; grind)
end Go.Proofs.Ythackfblfkpddaa
