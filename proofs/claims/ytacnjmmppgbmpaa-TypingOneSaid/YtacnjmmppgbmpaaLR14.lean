/- Layer 14: the law of references. -/
import Derived.Test.YtacnjmmppgbmpaaL14e
import Derived.Test.YtacnjmmppgbmpaaEq
import Derived.LoopN
import Derived.RegionTactic
import Derived.BigRegion
namespace Go.Proofs.Ytacnjmmppgbmpaa
open Go.RowKit
set_option linter.unusedSimpArgs false
set_option linter.unusedVariables false

abbrev rfRv (k b : Int) (p : Pl) : Rv := ⟨k, 0, b, ⟨0, 0, ⟨0, false, 0⟩⟩, ⟨0, 0, ⟨0, false, 0⟩⟩, p⟩
theorem rfRv_wf {k b : Int} {p : Pl} (hk : U8 k) (hb : U8 b) (hp : p.wf) : (rfRv k b p).wf := by
  have z : U8 0 := by constructor <;> decide
  have z1 : I64 0 := by constructor <;> decide
  exact ⟨hk, z, hb, ⟨z, z1, ⟨z1, z⟩⟩, ⟨z, z1, ⟨z1, z⟩⟩, hp⟩
theorem rfErr {k b : Int} {p : Pl} (h : (k = 4 ∧ 1 ≤ b ∧ b ≤ 3) ∨ (k = 5 ∧ b = 0)) : rvErr (rfRv k b p) = plErr p := by
  have h1 := plErr_or p
  unfold rvErr rvOk opdZ OpdZ PlZ
  rcases h with ⟨rfl, hb, hb'⟩ | ⟨rfl, rfl⟩
  · simp [hb, hb']; rcases h1 with q | q <;> simp [q]
  · simp; rcases h1 with q | q <;> simp [q]
theorem rfTy {ts : List Ty} {k b : Int} {p : Pl} (hl : locErr ts = 0) (h : (k = 4 ∧ 1 ≤ b ∧ b ≤ 3) ∨ (k = 5 ∧ b = 0)) : rvalueTy ts (rfRv k b p) = if plErr p ≠ 0 then (⟨0, 0⟩, plErr p) else borTy ts (rfRv k b p) := by
  unfold rvalueTy; rw [if_neg (by simpa using hl), rfErr h]
  split
  · rfl
  · unfold rvTy; rcases h with ⟨rfl, _⟩ | ⟨rfl, _⟩ <;> simp
theorem pla_pl {ts : List Ty} {p : Pl} (h : (plaTy ts p).2 = 0) : plErr p = 0 := by
  obtain ⟨_, h2, _⟩ := plaErr_ok (plaTy_ok h)
  exact (plErr_iff p).2 h2
/-- If the place has no type: no borrow has. -/
theorem rf_bad {ts : List Ty} {k b : Int} {p : Pl} (hl : locErr ts = 0) (h : (k = 4 ∧ 1 ≤ b ∧ b ≤ 3) ∨ (k = 5 ∧ b = 0)) (he : (plaTy ts p).2 ≠ 0) : ((rvalueTy ts (rfRv k b p)).2 != 0) = true := by
  rw [rfTy hl h]
  split
  · rename_i q; simpa using q
  · unfold borTy; rw [if_pos he]; simpa using he
theorem rf_notplain {ts : List Ty} {k b : Int} {p : Pl} (hl : locErr ts = 0) (h : (k = 4 ∧ 1 ≤ b ∧ b ≤ 3) ∨ (k = 5 ∧ b = 0)) (he : (plaTy ts p).2 = 0) (hk : (plaTy ts p).1.kind ≠ 1 ∧ (plaTy ts p).1.kind ≠ 2) : rvalueTy ts (rfRv k b p) = (⟨0, 0⟩, 42) := by
  rw [rfTy hl h, if_neg (by simpa using pla_pl he)]
  unfold borTy; rw [if_neg (by simpa using he), if_pos hk]
theorem rf_shared {ts : List Ty} {p : Pl} (hl : locErr ts = 0) (he : (plaTy ts p).2 = 0) (hk : (plaTy ts p).1.kind = 1 ∨ (plaTy ts p).1.kind = 2) : rvalueTy ts (rfRv 4 1 p) = (⟨3, (plaTy ts p).1.kind⟩, 0) := by
  rw [rfTy hl (Or.inl ⟨rfl, by decide, by decide⟩), if_neg (by simpa using pla_pl he)]
  unfold borTy; rw [if_neg (by simpa using he), if_neg (by intro q; rcases hk with z | z; exact q.1 z; exact q.2 z)]; simp
theorem rf_raw {ts : List Ty} {p : Pl} (hl : locErr ts = 0) (he : (plaTy ts p).2 = 0) (hk : (plaTy ts p).1.kind = 1 ∨ (plaTy ts p).1.kind = 2) : rvalueTy ts (rfRv 5 0 p) = (⟨5, (plaTy ts p).1.kind⟩, 0) := by
  rw [rfTy hl (Or.inr ⟨rfl, rfl⟩), if_neg (by simpa using pla_pl he)]
  unfold borTy; rw [if_neg (by simpa using he), if_neg (by intro q; rcases hk with z | z; exact q.1 z; exact q.2 z)]; simp
theorem rf_mut {ts : List Ty} {b : Int} {p : Pl} (hb : b = 2 ∨ b = 3) (hl : locErr ts = 0) (he : (plaTy ts p).2 = 0) (hk : (plaTy ts p).1.kind = 1 ∨ (plaTy ts p).1.kind = 2) : rvalueTy ts (rfRv 4 b p) = if plaWr ts p ≠ 0 then (⟨0, 0⟩, plaWr ts p) else (⟨4, (plaTy ts p).1.kind⟩, 0) := by
  rw [rfTy hl (Or.inl ⟨rfl, by omega, by omega⟩), if_neg (by simpa using pla_pl he)]
  unfold borTy; rw [if_neg (by simpa using he), if_neg (by intro q; rcases hk with z | z; exact q.1 z; exact q.2 z)]
  rcases hb with rfl | rfl <;> simp
theorem rf_deref {k : Int} {t : Ty} (hk : k = 3 ∨ k = 4 ∨ k = 5) (ht : t.kind = 1 ∨ t.kind = 2) (hto : TyOk t) : plaTy [⟨k, t.kind⟩] ⟨0, true, 0⟩ = (t, 0) := by
  obtain ⟨a, b⟩ := t
  have hb : b = 0 := by rcases hto with q | q <;> simp at q ht ⊢ <;> omega
  subst hb
  rcases hk with rfl | rfl | rfl <;> rcases ht with rfl | rfl <;> decide
theorem rf_rv {ts : List Ty} {k b : Int} {p : Pl} {t : Ty} {e : Int} (v : Value) (w : World) {F : Nat → Prop} (hv : Sl F w v ts) (hw : (rfRv k b p).wf) (h : rvalueTy ts (rfRv k b p) = (t, e)) :
    Calls Try.prog 11 #[v, (rfRv k b p).v] w (Ret w (.tuple #[t.v, .int .i64 e])) := by
  have := typing_Rvalue v ts (rfRv k b p) w hv hw; rw [h] at this; exact this

set_option maxRecDepth 100000 in
set_option maxHeartbeats 4000000 in
theorem refs_A (hal : ∀ w, Calls Try.prog 13 #[] w (Ret w (.bool true))) (v : Value) (ts : List Ty) (p : Pl) (w : World) {F : Nat → Prop} (hv : Sl F w v ts) (hp : p.wf) (hl : locErr ts = 0) (he : (plaTy ts p).2 ≠ 0) :
    Calls Try.prog 5 #[v, p.v] w (Ret w (.bool true)) := by
  obtain ⟨a, n, cap, rfl, Hn, hm, hcap, hcm, hv⟩ := hv.open
  have u1 : U8 1 := by constructor <;> decide
  have u2 : U8 2 := by constructor <;> decide
  have u3 : U8 3 := by constructor <;> decide
  have u4 : U8 4 := by constructor <;> decide
  have u5 : U8 5 := by constructor <;> decide
  have u0 : U8 0 := by constructor <;> decide
  obtain ⟨t0, e0, h0⟩ : ∃ t e, rvalueTy ts (rfRv 4 1 p) = (t, e) := ⟨_, _, rfl⟩
  obtain ⟨t1, e1, h1⟩ : ∃ t e, rvalueTy ts (rfRv 4 2 p) = (t, e) := ⟨_, _, rfl⟩
  obtain ⟨t2, e2, h2⟩ : ∃ t e, rvalueTy ts (rfRv 4 3 p) = (t, e) := ⟨_, _, rfl⟩
  obtain ⟨t3, e3, h3⟩ : ∃ t e, rvalueTy ts (rfRv 5 0 p) = (t, e) := ⟨_, _, rfl⟩
  have q0 : (e0 != 0) = true := by have := rf_bad (k := 4) (b := 1) hl (by decide) he; rw [h0] at this; exact this
  have q1 : (e1 != 0) = true := by have := rf_bad (k := 4) (b := 2) hl (by decide) he; rw [h1] at this; exact this
  have q2 : (e2 != 0) = true := by have := rf_bad (k := 4) (b := 3) hl (by decide) he; rw [h2] at this; exact this
  have q3 : (e3 != 0) = true := by have := rf_bad (k := 5) (b := 0) hl (by decide) he; rw [h3] at this; exact this
  replace he : ((plaTy ts p).2 != 0) = true := by simpa using he
  replace hl : (locErr ts != 0) = false := by simpa using hl
  by_cases h30 : n ≤ 30
  · go_enter Try.func5, Try.ntmps5
    go_wp2_with (first | (go_at_call 13; ((with_reducible refine (hal _).mono ?_); rintro e w1 ⟨rfl, hb1⟩; obtain ⟨x1, rfl⟩ := ext_of_grow hb1; clear hb1)) | (go_at_call 14; ((with_reducible refine (ref13_Check _ ts _ (hv.mono (by (repeat (first | (with_reducible exact Grow.refl _) | assumption | refine Grow.ext ?_ _ | refine Grow.alloc ?_ _ | refine Grow.drew ?_ | refine Grow.setCell ?_ (by first | (simp; done) | (simp; omega)) _ | refine Grow.trans ?_ (by assumption)))))).mono ?_); rintro e w2 ⟨rfl, hb2⟩; obtain ⟨x2, rfl⟩ := ext_of_grow hb2; clear hb2)))
    refine wp_loop_rounds 5 ?_
    rw [rounds_succ]
    go_wp2_with fail
    go_region
    go_wp2_with (first | (go_at_call 11; ((with_reducible refine (rf_rv (k := 4) (b := 1) _ _ (hv.mono (by (repeat (first | (with_reducible exact Grow.refl _) | assumption | refine Grow.ext ?_ _ | refine Grow.alloc ?_ _ | refine Grow.drew ?_ | refine Grow.setCell ?_ (by first | (simp; done) | (simp; omega)) _ | refine Grow.trans ?_ (by assumption))))) (rfRv_wf u4 u1 hp) h0).mono ?_); rintro e w3 ⟨rfl, hb3⟩; obtain ⟨x3, rfl⟩ := ext_of_grow hb3; clear hb3)) | (go_at_call 11; ((with_reducible refine (rf_rv (k := 4) (b := 2) _ _ (hv.mono (by (repeat (first | (with_reducible exact Grow.refl _) | assumption | refine Grow.ext ?_ _ | refine Grow.alloc ?_ _ | refine Grow.drew ?_ | refine Grow.setCell ?_ (by first | (simp; done) | (simp; omega)) _ | refine Grow.trans ?_ (by assumption))))) (rfRv_wf u4 u2 hp) h1).mono ?_); rintro e w4 ⟨rfl, hb4⟩; obtain ⟨x4, rfl⟩ := ext_of_grow hb4; clear hb4)) | (go_at_call 11; ((with_reducible refine (rf_rv (k := 4) (b := 3) _ _ (hv.mono (by (repeat (first | (with_reducible exact Grow.refl _) | assumption | refine Grow.ext ?_ _ | refine Grow.alloc ?_ _ | refine Grow.drew ?_ | refine Grow.setCell ?_ (by first | (simp; done) | (simp; omega)) _ | refine Grow.trans ?_ (by assumption))))) (rfRv_wf u4 u3 hp) h2).mono ?_); rintro e w5 ⟨rfl, hb5⟩; obtain ⟨x5, rfl⟩ := ext_of_grow hb5; clear hb5)) | (go_at_call 11; ((with_reducible refine (rf_rv (k := 5) (b := 0) _ _ (hv.mono (by (repeat (first | (with_reducible exact Grow.refl _) | assumption | refine Grow.ext ?_ _ | refine Grow.alloc ?_ _ | refine Grow.drew ?_ | refine Grow.setCell ?_ (by first | (simp; done) | (simp; omega)) _ | refine Grow.trans ?_ (by assumption))))) (rfRv_wf u5 u0 hp) h3).mono ?_); rintro e w6 ⟨rfl, hb6⟩; obtain ⟨x6, rfl⟩ := ext_of_grow hb6; clear hb6)))
    rw [rounds_succ]
    go_wp2_with fail
    go_region
    go_wp2_with (first | (go_at_call 11; ((with_reducible refine (rf_rv (k := 4) (b := 1) _ _ (hv.mono (by (repeat (first | (with_reducible exact Grow.refl _) | assumption | refine Grow.ext ?_ _ | refine Grow.alloc ?_ _ | refine Grow.drew ?_ | refine Grow.setCell ?_ (by first | (simp; done) | (simp; omega)) _ | refine Grow.trans ?_ (by assumption))))) (rfRv_wf u4 u1 hp) h0).mono ?_); rintro e w3 ⟨rfl, hb3⟩; obtain ⟨x3, rfl⟩ := ext_of_grow hb3; clear hb3)) | (go_at_call 11; ((with_reducible refine (rf_rv (k := 4) (b := 2) _ _ (hv.mono (by (repeat (first | (with_reducible exact Grow.refl _) | assumption | refine Grow.ext ?_ _ | refine Grow.alloc ?_ _ | refine Grow.drew ?_ | refine Grow.setCell ?_ (by first | (simp; done) | (simp; omega)) _ | refine Grow.trans ?_ (by assumption))))) (rfRv_wf u4 u2 hp) h1).mono ?_); rintro e w4 ⟨rfl, hb4⟩; obtain ⟨x4, rfl⟩ := ext_of_grow hb4; clear hb4)) | (go_at_call 11; ((with_reducible refine (rf_rv (k := 4) (b := 3) _ _ (hv.mono (by (repeat (first | (with_reducible exact Grow.refl _) | assumption | refine Grow.ext ?_ _ | refine Grow.alloc ?_ _ | refine Grow.drew ?_ | refine Grow.setCell ?_ (by first | (simp; done) | (simp; omega)) _ | refine Grow.trans ?_ (by assumption))))) (rfRv_wf u4 u3 hp) h2).mono ?_); rintro e w5 ⟨rfl, hb5⟩; obtain ⟨x5, rfl⟩ := ext_of_grow hb5; clear hb5)) | (go_at_call 11; ((with_reducible refine (rf_rv (k := 5) (b := 0) _ _ (hv.mono (by (repeat (first | (with_reducible exact Grow.refl _) | assumption | refine Grow.ext ?_ _ | refine Grow.alloc ?_ _ | refine Grow.drew ?_ | refine Grow.setCell ?_ (by first | (simp; done) | (simp; omega)) _ | refine Grow.trans ?_ (by assumption))))) (rfRv_wf u5 u0 hp) h3).mono ?_); rintro e w6 ⟨rfl, hb6⟩; obtain ⟨x6, rfl⟩ := ext_of_grow hb6; clear hb6)))
    rw [rounds_succ]
    go_wp2_with fail
    go_region
    go_wp2_with (first | (go_at_call 11; ((with_reducible refine (rf_rv (k := 4) (b := 1) _ _ (hv.mono (by (repeat (first | (with_reducible exact Grow.refl _) | assumption | refine Grow.ext ?_ _ | refine Grow.alloc ?_ _ | refine Grow.drew ?_ | refine Grow.setCell ?_ (by first | (simp; done) | (simp; omega)) _ | refine Grow.trans ?_ (by assumption))))) (rfRv_wf u4 u1 hp) h0).mono ?_); rintro e w3 ⟨rfl, hb3⟩; obtain ⟨x3, rfl⟩ := ext_of_grow hb3; clear hb3)) | (go_at_call 11; ((with_reducible refine (rf_rv (k := 4) (b := 2) _ _ (hv.mono (by (repeat (first | (with_reducible exact Grow.refl _) | assumption | refine Grow.ext ?_ _ | refine Grow.alloc ?_ _ | refine Grow.drew ?_ | refine Grow.setCell ?_ (by first | (simp; done) | (simp; omega)) _ | refine Grow.trans ?_ (by assumption))))) (rfRv_wf u4 u2 hp) h1).mono ?_); rintro e w4 ⟨rfl, hb4⟩; obtain ⟨x4, rfl⟩ := ext_of_grow hb4; clear hb4)) | (go_at_call 11; ((with_reducible refine (rf_rv (k := 4) (b := 3) _ _ (hv.mono (by (repeat (first | (with_reducible exact Grow.refl _) | assumption | refine Grow.ext ?_ _ | refine Grow.alloc ?_ _ | refine Grow.drew ?_ | refine Grow.setCell ?_ (by first | (simp; done) | (simp; omega)) _ | refine Grow.trans ?_ (by assumption))))) (rfRv_wf u4 u3 hp) h2).mono ?_); rintro e w5 ⟨rfl, hb5⟩; obtain ⟨x5, rfl⟩ := ext_of_grow hb5; clear hb5)) | (go_at_call 11; ((with_reducible refine (rf_rv (k := 5) (b := 0) _ _ (hv.mono (by (repeat (first | (with_reducible exact Grow.refl _) | assumption | refine Grow.ext ?_ _ | refine Grow.alloc ?_ _ | refine Grow.drew ?_ | refine Grow.setCell ?_ (by first | (simp; done) | (simp; omega)) _ | refine Grow.trans ?_ (by assumption))))) (rfRv_wf u5 u0 hp) h3).mono ?_); rintro e w6 ⟨rfl, hb6⟩; obtain ⟨x6, rfl⟩ := ext_of_grow hb6; clear hb6)))
    rw [rounds_succ]
    go_wp2_with fail
    go_region
    go_wp2_with (first | (go_at_call 11; ((with_reducible refine (rf_rv (k := 4) (b := 1) _ _ (hv.mono (by (repeat (first | (with_reducible exact Grow.refl _) | assumption | refine Grow.ext ?_ _ | refine Grow.alloc ?_ _ | refine Grow.drew ?_ | refine Grow.setCell ?_ (by first | (simp; done) | (simp; omega)) _ | refine Grow.trans ?_ (by assumption))))) (rfRv_wf u4 u1 hp) h0).mono ?_); rintro e w3 ⟨rfl, hb3⟩; obtain ⟨x3, rfl⟩ := ext_of_grow hb3; clear hb3)) | (go_at_call 11; ((with_reducible refine (rf_rv (k := 4) (b := 2) _ _ (hv.mono (by (repeat (first | (with_reducible exact Grow.refl _) | assumption | refine Grow.ext ?_ _ | refine Grow.alloc ?_ _ | refine Grow.drew ?_ | refine Grow.setCell ?_ (by first | (simp; done) | (simp; omega)) _ | refine Grow.trans ?_ (by assumption))))) (rfRv_wf u4 u2 hp) h1).mono ?_); rintro e w4 ⟨rfl, hb4⟩; obtain ⟨x4, rfl⟩ := ext_of_grow hb4; clear hb4)) | (go_at_call 11; ((with_reducible refine (rf_rv (k := 4) (b := 3) _ _ (hv.mono (by (repeat (first | (with_reducible exact Grow.refl _) | assumption | refine Grow.ext ?_ _ | refine Grow.alloc ?_ _ | refine Grow.drew ?_ | refine Grow.setCell ?_ (by first | (simp; done) | (simp; omega)) _ | refine Grow.trans ?_ (by assumption))))) (rfRv_wf u4 u3 hp) h2).mono ?_); rintro e w5 ⟨rfl, hb5⟩; obtain ⟨x5, rfl⟩ := ext_of_grow hb5; clear hb5)) | (go_at_call 11; ((with_reducible refine (rf_rv (k := 5) (b := 0) _ _ (hv.mono (by (repeat (first | (with_reducible exact Grow.refl _) | assumption | refine Grow.ext ?_ _ | refine Grow.alloc ?_ _ | refine Grow.drew ?_ | refine Grow.setCell ?_ (by first | (simp; done) | (simp; omega)) _ | refine Grow.trans ?_ (by assumption))))) (rfRv_wf u5 u0 hp) h3).mono ?_); rintro e w6 ⟨rfl, hb6⟩; obtain ⟨x6, rfl⟩ := ext_of_grow hb6; clear hb6)))
    rw [rounds_succ]
    go_wp2_with (first | (go_at_call 16; ((with_reducible refine (placing_Type _ ts p _ (hv.mono (by (repeat (first | (with_reducible exact Grow.refl _) | assumption | refine Grow.ext ?_ _ | refine Grow.alloc ?_ _ | refine Grow.drew ?_ | refine Grow.setCell ?_ (by first | (simp; done) | (simp; omega)) _ | refine Grow.trans ?_ (by assumption)))))).mono ?_); rintro e w7 ⟨rfl, hb7⟩; obtain ⟨x7, rfl⟩ := ext_of_grow hb7; clear hb7)))
    go_ret
    exact Ret.bool rfl (by (repeat (first | (with_reducible exact Grow.refl _) | assumption | refine Grow.ext ?_ _ | refine Grow.alloc ?_ _ | refine Grow.drew ?_ | refine Grow.setCell ?_ (by first | (simp; done) | (simp; omega)) _ | refine Grow.trans ?_ (by assumption))))
  · go_enter Try.func5, Try.ntmps5
    go_wp2_with (first | (go_at_call 13; ((with_reducible refine (hal _).mono ?_); rintro e w1 ⟨rfl, hb1⟩; obtain ⟨x1, rfl⟩ := ext_of_grow hb1; clear hb1)) | (go_at_call 14; ((with_reducible refine (ref13_Check _ ts _ (hv.mono (by (repeat (first | (with_reducible exact Grow.refl _) | assumption | refine Grow.ext ?_ _ | refine Grow.alloc ?_ _ | refine Grow.drew ?_ | refine Grow.setCell ?_ (by first | (simp; done) | (simp; omega)) _ | refine Grow.trans ?_ (by assumption)))))).mono ?_); rintro e w2 ⟨rfl, hb2⟩; obtain ⟨x2, rfl⟩ := ext_of_grow hb2; clear hb2)))
    all_goals (first | (exfalso; omega) | (go_ret; exact Ret.bool rfl (by (repeat (first | (with_reducible exact Grow.refl _) | assumption | refine Grow.ext ?_ _ | refine Grow.alloc ?_ _ | refine Grow.drew ?_ | refine Grow.setCell ?_ (by first | (simp; done) | (simp; omega)) _ | refine Grow.trans ?_ (by assumption))))))
end Go.Proofs.Ytacnjmmppgbmpaa
