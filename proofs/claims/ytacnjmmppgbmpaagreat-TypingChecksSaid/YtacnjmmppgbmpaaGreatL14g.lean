/- Layer 14: statements. -/
import Derived.Test.YtacnjmmppgbmpaaGreatL14f
namespace Go.Proofs.YtacnjmmppgbmpaaGreat
open Go.RowKit
set_option linter.unusedSimpArgs false
set_option linter.unusedVariables false

def numErr (ts : List Ty) (o : Opd) : Int := intsErr ts [o]
theorem numErr_eq {ts : List Ty} {o : Opd} : numErr ts o = if (opTy ts o).2 = 0 then (if (opTy ts o).1.kind = 1 then 0 else 42) else (opTy ts o).2 := by
  unfold numErr intsErr
  by_cases h : (opTy ts o).2 = 0
  · have := opTy_ok h
    simp only [intsL, h]
    generalize (opTy ts o).1 = x at *
    grind
  · simp [intsL, h]

set_option maxHeartbeats 400000 in
theorem ref14_number (v : Value) (ts : List Ty) (o : Opd) (w : World) {F : Nat → Prop} (hv : Sl F w v ts) (hw : o.wf) (hk : o.kind = 1 ∨ o.kind = 2 ∨ o.kind = 3) :
    Calls Tryz.prog 60 #[v, o.v] w (Ret w (.int .i64 (numErr ts o))) := by
  have Hk := Lib.hid hk; clear hk
  go_enter Tryz.func60, Tryz.ntmps60
  go_wp2_with (first | (go_at_call 61; ((with_reducible refine (ref14_Told _ ts o _ (hv.mono (by (repeat (first | (with_reducible exact Grow.refl _) | assumption | refine Grow.ext ?_ _ | refine Grow.alloc ?_ _ | refine Grow.drew ?_ | refine Grow.setCell ?_ (by first | (simp; done) | (simp; omega)) _ | refine Grow.trans ?_ (by assumption))))) hw Hk.out).mono ?_); rintro e w1 ⟨rfl, hb1⟩; obtain ⟨x1, rfl⟩ := ext_of_grow hb1; clear hb1)))
  all_goals go_ret
  all_goals (refine Ret.int ?_ (by (repeat (first | (with_reducible exact Grow.refl _) | assumption | refine Grow.ext ?_ _ | refine Grow.alloc ?_ _ | refine Grow.drew ?_ | refine Grow.setCell ?_ (by first | (simp; done) | (simp; omega)) _ | refine Grow.trans ?_ (by assumption)))))
  all_goals (go_light; rw [numErr_eq]; grind)

def stTy (ts : List Ty) (s : St) : Int :=
  if s.kind = 1 then (if (rvTy ts s.r).2 ≠ 0 then (rvTy ts s.r).2 else fitsErr ts s.pl (rvTy ts s.r).1)
  else if s.kind = 3 then (if (ts.length : Int) ≤ s.loc then 6 else 0)
  else numErr ts s.a
def stmtErr (ts : List Ty) (s : St) : Int := if locErr ts ≠ 0 then locErr ts else if stErr s ≠ 0 then stErr s else stTy ts s
theorem st_opd {s : St} (h : stOk s = true) (h1 : s.kind ≠ 1) (h3 : s.kind ≠ 3) : s.a.kind = 1 ∨ s.a.kind = 2 ∨ s.a.kind = 3 := by
  have : opdErr s.a = 0 := by unfold stOk at h; grind
  have := (opdErr_iff s.a).1 this; rcases this with q | q; exact Or.inl q.1; exact Or.inr q.1
theorem st_rv {s : St} (h : stOk s = true) (h1 : s.kind = 1) : rvOk s.r = true := by unfold stOk at h; grind

set_option maxHeartbeats 400000 in
theorem ref14_Fits (v : Value) (ts : List Ty) (s : St) (w : World) {F : Nat → Prop} (hv : Sl F w v ts) (hw : s.wf) (hok : stOk s = true) :
    Calls Tryz.prog 32 #[v, s.v] w (Ret w (.int .i64 (stTy ts s))) := by
  obtain ⟨a, n, cap, rfl, Hn, hm, hcap, hcm, hv⟩ := hv.open
  have hr := hw.r; have hp := hw.pl; have ha := hw.a
  have Hok := Lib.hid hok; clear hok
  by_cases h1 : s.kind = 1
  · have Hr := Lib.hid (st_rv Hok.out h1)
    have H1 := Lib.hid h1
    have h1 : (s.kind == 1) = true := by simpa using h1
    go_enter Tryz.func32, Tryz.ntmps32
    go_wp2_with (first | (go_at_call 58; ((with_reducible refine (ref14_Taken _ ts s.r _ (hv.mono (by (repeat (first | (with_reducible exact Grow.refl _) | assumption | refine Grow.ext ?_ _ | refine Grow.alloc ?_ _ | refine Grow.drew ?_ | refine Grow.setCell ?_ (by first | (simp; done) | (simp; omega)) _ | refine Grow.trans ?_ (by assumption))))) hr Hr.out).mono ?_); rintro e w1 ⟨rfl, hb1⟩; obtain ⟨x1, rfl⟩ := ext_of_grow hb1; clear hb1)) | (go_at_call 59; ((with_reducible refine (ref14_into _ ts s.pl (rvTy ts s.r).1 _ (hv.mono (by (repeat (first | (with_reducible exact Grow.refl _) | assumption | refine Grow.ext ?_ _ | refine Grow.alloc ?_ _ | refine Grow.drew ?_ | refine Grow.setCell ?_ (by first | (simp; done) | (simp; omega)) _ | refine Grow.trans ?_ (by assumption))))) hp).mono ?_); rintro e w2 ⟨rfl, hb2⟩; obtain ⟨x2, rfl⟩ := ext_of_grow hb2; clear hb2)))
    all_goals go_ret
    all_goals (refine Ret.int ?_ (by (repeat (first | (with_reducible exact Grow.refl _) | assumption | refine Grow.ext ?_ _ | refine Grow.alloc ?_ _ | refine Grow.drew ?_ | refine Grow.setCell ?_ (by first | (simp; done) | (simp; omega)) _ | refine Grow.trans ?_ (by assumption)))))
    all_goals (go_light; have q1 := H1.out; unfold stTy; grind)
  · have H1 := Lib.hid h1
    have h1 : (s.kind == 1) = false := by simpa using h1
    by_cases h3 : s.kind = 3
    · have H3 := Lib.hid h3
      have h3 : (s.kind == 3) = true := by simpa using h3
      go_enter Tryz.func32, Tryz.ntmps32
      go_wp2_with fail
      all_goals go_ret
      all_goals (refine Ret.int ?_ (by (repeat (first | (with_reducible exact Grow.refl _) | assumption | refine Grow.ext ?_ _ | refine Grow.alloc ?_ _ | refine Grow.drew ?_ | refine Grow.setCell ?_ (by first | (simp; done) | (simp; omega)) _ | refine Grow.trans ?_ (by assumption)))))
      all_goals (go_light; have q1 := H1.out; have q2 := H3.out; have q3 := Hn.out; unfold stTy; rw [← q3]; grind)
    · have H3 := Lib.hid h3
      have Hk := Lib.hid (st_opd Hok.out H1.out H3.out)
      have h3 : (s.kind == 3) = false := by simpa using h3
      go_enter Tryz.func32, Tryz.ntmps32
      go_wp2_with (first | (go_at_call 60; ((with_reducible refine (ref14_number _ ts s.a _ (hv.mono (by (repeat (first | (with_reducible exact Grow.refl _) | assumption | refine Grow.ext ?_ _ | refine Grow.alloc ?_ _ | refine Grow.drew ?_ | refine Grow.setCell ?_ (by first | (simp; done) | (simp; omega)) _ | refine Grow.trans ?_ (by assumption))))) ha Hk.out).mono ?_); rintro e w1 ⟨rfl, hb1⟩; obtain ⟨x1, rfl⟩ := ext_of_grow hb1; clear hb1)))
      all_goals go_ret
      all_goals (refine Ret.int ?_ (by (repeat (first | (with_reducible exact Grow.refl _) | assumption | refine Grow.ext ?_ _ | refine Grow.alloc ?_ _ | refine Grow.drew ?_ | refine Grow.setCell ?_ (by first | (simp; done) | (simp; omega)) _ | refine Grow.trans ?_ (by assumption)))))
      all_goals (go_light; have q1 := H1.out; have q2 := H3.out; unfold stTy; grind)
end Go.Proofs.YtacnjmmppgbmpaaGreat
