/- Layer 14: the law of references, where the place has a type. -/
import Derived.Test.YtacnjmmppgbmpaaLR14b
import Derived.Deep.DeepCutAuto
import Derived.Deep.CutBlock
namespace Go.Proofs.Ytacnjmmppgbmpaa
open Go.RowKit
set_option linter.unusedSimpArgs false
set_option linter.unusedVariables false

set_option maxRecDepth 100000 in
set_option maxHeartbeats 8000000 in
theorem refs_D (hal : ∀ w, Calls Try.prog 13 #[] w (Ret w (.bool true))) (v : Value) (ts : List Ty) (p : Pl) (w : World) {F : Nat → Prop} (hv : Sl F w v ts) (hp : p.wf) (hl : locErr ts = 0) (t : Ty) (ht : plaTy ts p = (t, 0)) (hk : t.kind = 1 ∨ t.kind = 2) (hwr : plaWr ts p = 0) :
    Calls Try.prog 5 #[v, p.v] w (Ret w (.bool true)) := by
  obtain ⟨a, n, cap, rfl, Hn, hm, hcap, hcm, hv⟩ := hv.open
  have u1 : U8 1 := by constructor <;> decide
  have u2 : U8 2 := by constructor <;> decide
  have u3 : U8 3 := by constructor <;> decide
  have u4 : U8 4 := by constructor <;> decide
  have u5 : U8 5 := by constructor <;> decide
  have u0 : U8 0 := by constructor <;> decide
  have he : (plaTy ts p).2 = 0 := by rw [ht]
  have hk' : (plaTy ts p).1.kind = 1 ∨ (plaTy ts p).1.kind = 2 := by rw [ht]; exact hk
  have h0 := rf_shared hl he hk'
  have h1 := rf_mut (b := 2) (by decide) hl he hk'
  have h2 := rf_mut (b := 3) (by decide) hl he hk'
  have h3 := rf_raw hl he hk'
  have hto : TyOk t := by have := plaTy_tyOk he; rw [ht] at this; exact this
  have d3 := rf_deref (k := 3) (by decide) hk hto
  have d4 := rf_deref (k := 4) (by decide) hk hto
  have d5 := rf_deref (k := 5) (by decide) hk hto
  have ut : U8 t.kind := by rcases hk with q | q <;> rw [q] <;> constructor <;> decide
  have w3 : Ty.wf ⟨3, t.kind⟩ := ⟨u3, ut⟩
  have w4 : Ty.wf ⟨4, t.kind⟩ := ⟨u4, ut⟩
  have w5 : Ty.wf ⟨5, t.kind⟩ := ⟨u5, ut⟩
  rw [hwr, if_neg (by decide)] at h1 h2
  simp only [ht] at h0 h1 h2 h3
  have hpl : (t.kind == 1) = true ∨ ((t.kind == 1) = false ∧ (t.kind == 2) = true) := by
    rcases hk with q | q
    · exact Or.inl (by simp [q])
    · exact Or.inr ⟨by simp [q], by simp [q]⟩
  clear he hk' hk hto

  replace hl : (locErr ts != 0) = false := by simpa using hl
  by_cases h30 : n ≤ 30
  · go_enter Try.func5, Try.ntmps5
    go_upto_block 0 with (first | (go_at_call 13; ((with_reducible refine (hal _).mono ?_); rintro e w1 ⟨rfl, hb1⟩; obtain ⟨x1, rfl⟩ := ext_of_grow hb1; clear hb1)) | (go_at_call 14; ((with_reducible refine (ref13_Check _ ts _ (hv.mono (by (repeat (first | (with_reducible exact Grow.refl _) | assumption | refine Grow.ext ?_ _ | refine Grow.alloc ?_ _ | refine Grow.drew ?_ | refine Grow.setCell ?_ (by first | (simp; done) | (simp; omega)) _ | refine Grow.trans ?_ (by assumption)))))).mono ?_); rintro e w2 ⟨rfl, hb2⟩; obtain ⟨x2, rfl⟩ := ext_of_grow hb2; clear hb2)))
    go_cut [9] (fun _ wc => Grow (((((ext (ext (w.alloc (Obj.cells #[.int .i64 p.loc, .bool p.deref, .int .u8 p.field] 24)) x1) x2).alloc (.cells #[.int .u8 1, .int .u8 2, .int .u8 3, .int .u8 0] 47)).alloc (.cells #[.int .u8 3, .int .u8 t.kind, .int .u8 4, .int .u8 t.kind, .int .u8 4, .int .u8 t.kind, .int .u8 5, .int .u8 t.kind] 48)).alloc (.cells #[.int .i64 0, .int .i64 0, .int .i64 0, .int .i64 0] 49))) wc)
    case first =>
      go_wp2_with fail
      refine wp_loop_rounds 5 ?_
      rw [rounds_succ]
      go_wp2_with fail
      go_region
      go_wp2_with (first | (go_at_call 11; ((with_reducible refine (rf_rv (k := 4) (b := 1) _ _ (hv.mono (by (repeat (first | (with_reducible exact Grow.refl _) | assumption | refine Grow.ext ?_ _ | refine Grow.alloc ?_ _ | refine Grow.drew ?_ | refine Grow.setCell ?_ (by first | (simp; done) | (simp; omega)) _ | refine Grow.trans ?_ (by assumption))))) (rfRv_wf u4 u1 hp) h0).mono ?_); rintro e w3 ⟨rfl, hb3⟩; obtain ⟨x3, rfl⟩ := ext_of_grow hb3; clear hb3)))
      rw [rounds_succ]
      go_wp2_with fail
      go_region
      go_wp2_with (first | (go_at_call 11; ((with_reducible refine (rf_rv (k := 4) (b := 2) _ _ (hv.mono (by (repeat (first | (with_reducible exact Grow.refl _) | assumption | refine Grow.ext ?_ _ | refine Grow.alloc ?_ _ | refine Grow.drew ?_ | refine Grow.setCell ?_ (by first | (simp; done) | (simp; omega)) _ | refine Grow.trans ?_ (by assumption))))) (rfRv_wf u4 u2 hp) h1).mono ?_); rintro e w4 ⟨rfl, hb4⟩; obtain ⟨x4, rfl⟩ := ext_of_grow hb4; clear hb4)))
      rw [rounds_succ]
      go_wp2_with fail
      go_region
      go_wp2_with (first | (go_at_call 11; ((with_reducible refine (rf_rv (k := 4) (b := 3) _ _ (hv.mono (by (repeat (first | (with_reducible exact Grow.refl _) | assumption | refine Grow.ext ?_ _ | refine Grow.alloc ?_ _ | refine Grow.drew ?_ | refine Grow.setCell ?_ (by first | (simp; done) | (simp; omega)) _ | refine Grow.trans ?_ (by assumption))))) (rfRv_wf u4 u3 hp) h2).mono ?_); rintro e w5 ⟨rfl, hb5⟩; obtain ⟨x5, rfl⟩ := ext_of_grow hb5; clear hb5)))
      rw [rounds_succ]
      go_wp2_with fail
      go_region
      go_wp2_with (first | (go_at_call 11; ((with_reducible refine (rf_rv (k := 5) (b := 0) _ _ (hv.mono (by (repeat (first | (with_reducible exact Grow.refl _) | assumption | refine Grow.ext ?_ _ | refine Grow.alloc ?_ _ | refine Grow.drew ?_ | refine Grow.setCell ?_ (by first | (simp; done) | (simp; omega)) _ | refine Grow.trans ?_ (by assumption))))) (rfRv_wf u5 u0 hp) h3).mono ?_); rintro e w6 ⟨rfl, hb6⟩; obtain ⟨x6, rfl⟩ := ext_of_grow hb6; clear hb6)))
      rw [rounds_succ]
      go_wp2_with fail
      go_meet
      case rel => exact (by (repeat (first | (with_reducible exact Grow.refl _) | assumption | refine Grow.ext ?_ _ | refine Grow.alloc ?_ _ | refine Grow.drew ?_ | refine Grow.setCell ?_ (by first | (simp; done) | (simp; omega)) _ | refine Grow.trans ?_ (by assumption))))
    obtain ⟨xc, rfl⟩ := ext_of_grow hcut
    clear hcut
    rcases hpl with k1 | ⟨k1, k2⟩
    all_goals
      go_wp2_with (first | (go_at_call 16; ((with_reducible refine (rf_pl _ _ (hv.mono (by (repeat (first | (with_reducible exact Grow.refl _) | assumption | refine Grow.ext ?_ _ | refine Grow.alloc ?_ _ | refine Grow.drew ?_ | refine Grow.setCell ?_ (by first | (simp; done) | (simp; omega)) _ | refine Grow.trans ?_ (by assumption))))) ht).mono ?_); rintro e w7 ⟨rfl, hb7⟩; obtain ⟨x7, rfl⟩ := ext_of_grow hb7; clear hb7)))
      (refine wp_region_ext (by kernel_rfl) (by kernel_rfl) ?_; (repeat (any_goals (first | go_big_quiet_step (first | (go_at_call 17; refine ext_call (rf_wr _ _ (hv.mono (by (repeat (first | (with_reducible exact Grow.refl _) | assumption | refine Grow.ext ?_ _ | refine Grow.alloc ?_ _ | refine Grow.drew ?_ | refine Grow.setCell ?_ (by first | (simp; done) | (simp; omega)) _ | refine Grow.trans ?_ (by assumption))))) hwr))) | (refine wpQuiet_step (fun K hK => ?_); go_simp; split <;> (refine hK _ ?_; clear hK K))))); all_goals (refine wpQuiet_nil ?_; intro w8 hb8; obtain ⟨x8, rfl⟩ := ext_of_grow hb8; clear hb8))
      go_wp2_with fail
      refine wp_loop_rounds 5 ?_
      rw [rounds_succ]
      go_wp2_with (first | (go_at_call 16; (refine (rf_pl _ _ (Sl.one (F := fun _ => True) trivial (by simp) (by omega) (by omega) ⟨rfl, w3⟩ (by (repeat (refine CellsAt.cons (by go_simp) ?_)); exact CellsAt.nil _ _ _)) d3).mono ?_; rintro e w9 ⟨rfl, hb9⟩; obtain ⟨x9, rfl⟩ := ext_of_grow hb9; clear hb9)))
      rw [rounds_succ]
      go_wp2_with (first | (go_at_call 16; (refine (rf_pl _ _ (Sl.one (F := fun _ => True) trivial (by simp) (by omega) (by omega) ⟨rfl, w4⟩ (by (repeat (refine CellsAt.cons (by go_simp) ?_)); exact CellsAt.nil _ _ _)) d4).mono ?_; rintro e w10 ⟨rfl, hb10⟩; obtain ⟨x10, rfl⟩ := ext_of_grow hb10; clear hb10)))
      rw [rounds_succ]
      go_wp2_with (first | (go_at_call 16; (refine (rf_pl _ _ (Sl.one (F := fun _ => True) trivial (by simp) (by omega) (by omega) ⟨rfl, w4⟩ (by (repeat (refine CellsAt.cons (by go_simp) ?_)); exact CellsAt.nil _ _ _)) d4).mono ?_; rintro e w10 ⟨rfl, hb10⟩; obtain ⟨x10, rfl⟩ := ext_of_grow hb10; clear hb10)))
      rw [rounds_succ]
      go_wp2_with (first | (go_at_call 16; (refine (rf_pl _ _ (Sl.one (F := fun _ => True) trivial (by simp) (by omega) (by omega) ⟨rfl, w5⟩ (by (repeat (refine CellsAt.cons (by go_simp) ?_)); exact CellsAt.nil _ _ _)) d5).mono ?_; rintro e w11 ⟨rfl, hb11⟩; obtain ⟨x11, rfl⟩ := ext_of_grow hb11; clear hb11)))
      rw [rounds_succ]
      go_wp2_with (fail)
      all_goals go_ret
      all_goals exact Ret.bool (by simp) (by (repeat (first | (with_reducible exact Grow.refl _) | assumption | refine Grow.ext ?_ _ | refine Grow.alloc ?_ _ | refine Grow.drew ?_ | refine Grow.setCell ?_ (by first | (simp; done) | (simp; omega)) _ | refine Grow.trans ?_ (by assumption))))
  · go_enter Try.func5, Try.ntmps5
    go_wp2_with (first | (go_at_call 13; ((with_reducible refine (hal _).mono ?_); rintro e w1 ⟨rfl, hb1⟩; obtain ⟨x1, rfl⟩ := ext_of_grow hb1; clear hb1)) | (go_at_call 14; ((with_reducible refine (ref13_Check _ ts _ (hv.mono (by (repeat (first | (with_reducible exact Grow.refl _) | assumption | refine Grow.ext ?_ _ | refine Grow.alloc ?_ _ | refine Grow.drew ?_ | refine Grow.setCell ?_ (by first | (simp; done) | (simp; omega)) _ | refine Grow.trans ?_ (by assumption)))))).mono ?_); rintro e w2 ⟨rfl, hb2⟩; obtain ⟨x2, rfl⟩ := ext_of_grow hb2; clear hb2)))
    all_goals (first | (exfalso; omega) | (go_ret; exact Ret.bool rfl (by (repeat (first | (with_reducible exact Grow.refl _) | assumption | refine Grow.ext ?_ _ | refine Grow.alloc ?_ _ | refine Grow.drew ?_ | refine Grow.setCell ?_ (by first | (simp; done) | (simp; omega)) _ | refine Grow.trans ?_ (by assumption))))))
end Go.Proofs.Ytacnjmmppgbmpaa
