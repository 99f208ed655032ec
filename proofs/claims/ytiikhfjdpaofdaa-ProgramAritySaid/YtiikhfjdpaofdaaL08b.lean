/- Layer 8: the check of programs. -/
import Derived.Test.YtiikhfjdpaofdaaL08
namespace Go.Proofs.Ytiikhfjdpaofdaa
open Go.RowKit
set_option linter.unusedSimpArgs false
set_option linter.unusedVariables false

def codeOf (t : Ty) : Int × Int := if ¬ TyOk t then (0, 8) else if t.to = 0 then (t.kind - 1, 0) else (2 * (t.kind - 2) + (t.to - 1), 0)
set_option maxHeartbeats 400000 in
theorem shape_Code (t : Ty) (w : World) (hw : t.wf) :
    Calls Try.prog 58 #[t.v] w (Ret w (.tuple #[.int .i64 (codeOf t).1, .int .i64 (codeOf t).2])) := by
  have h1 := hw.kind; have h2 := hw.to
  by_cases hok : TyOk t
  · have he : (tyErr t != 0) = false := by simp [(tyErr_iff t).2 hok]
    have Hok := Lib.hid hok
    clear hok
    by_cases ht : t.to = 0
    · have Hc : Hid (codeOf t = (t.kind - 1, 0)) := Lib.hid (by unfold codeOf; rw [if_neg (fun h => h Hok.out), if_pos ht])
      have hk : 1 ≤ t.kind ∧ t.kind ≤ 5 := by have := Hok.out; omega
      obtain ⟨hk1, hk2⟩ := hk
      replace ht : (t.to == 0) = true := by simp [ht]
      rw [Hc.out]
      go_enter Try.func58, Try.ntmps58
      go_wp2_with (first | (go_at_call 78; ((with_reducible refine (shape_Check t _).mono ?_); rintro e w1 ⟨rfl, hb1⟩; obtain ⟨x1, rfl⟩ := ext_of_grow hb1; clear hb1)))
      go_ret2
      refine Ret.mk ?_ (by (repeat (first | (with_reducible exact Grow.refl _) | assumption | refine Grow.ext ?_ _ | refine Grow.alloc ?_ _ | refine Grow.drew ?_ | refine Grow.setCell ?_ (by first | (simp; done) | (simp; omega)) _ | refine Grow.trans ?_ (by assumption))))
      first | rfl | (congr 3; omega) | (simp; omega)
    · have Hc : Hid (codeOf t = (2 * (t.kind - 2) + (t.to - 1), 0)) := Lib.hid (by unfold codeOf; rw [if_neg (fun h => h Hok.out), if_neg ht])
      have hk : 3 ≤ t.kind ∧ t.kind ≤ 5 ∧ 1 ≤ t.to ∧ t.to ≤ 2 := by have := Hok.out; omega
      obtain ⟨hk1, hk2, hk3, hk4⟩ := hk
      replace ht : (t.to == 0) = false := by simp [ht]
      rw [Hc.out]
      go_enter Try.func58, Try.ntmps58
      go_wp2_with (first | (go_at_call 78; ((with_reducible refine (shape_Check t _).mono ?_); rintro e w1 ⟨rfl, hb1⟩; obtain ⟨x1, rfl⟩ := ext_of_grow hb1; clear hb1)))
      go_ret2
      refine Ret.mk ?_ (by (repeat (first | (with_reducible exact Grow.refl _) | assumption | refine Grow.ext ?_ _ | refine Grow.alloc ?_ _ | refine Grow.drew ?_ | refine Grow.setCell ?_ (by first | (simp; done) | (simp; omega)) _ | refine Grow.trans ?_ (by assumption))))
      first | rfl | (congr 3; omega) | (simp; omega)
  · have he : (tyErr t != 0) = true := by have := tyErr_iff t; simp; intro h; exact hok (this.1 h)
    have Hc : Hid (codeOf t = (0, 8)) := Lib.hid (by unfold codeOf; rw [if_pos hok])
    have H8 : Hid (tyErr t = 8) := Lib.hid (by unfold tyErr; rw [if_neg hok])
    clear hok
    rw [Hc.out]
    go_enter Try.func58, Try.ntmps58
    go_wp2_with (first | (go_at_call 78; ((with_reducible refine (shape_Check t _).mono ?_); rintro e w1 ⟨rfl, hb1⟩; obtain ⟨x1, rfl⟩ := ext_of_grow hb1; clear hb1)))
    go_ret2
    exact Ret.mk (by rw [H8.out]; rfl) (by (repeat (first | (with_reducible exact Grow.refl _) | assumption | refine Grow.ext ?_ _ | refine Grow.alloc ?_ _ | refine Grow.drew ?_ | refine Grow.setCell ?_ (by first | (simp; done) | (simp; omega)) _ | refine Grow.trans ?_ (by assumption))))
def isInt (t : Ty) : Bool := decide (t.kind = 1 ∧ t.to = 0)
set_option maxHeartbeats 400000 in
theorem check2_pred (F : Nat → Prop) (W : World) : PredTy 57 #[] F W (fun _ => True) isInt := by
  intro w x hg hw _
  show Calls Try.prog _ #[x.v] w _
  cases e1 : ((codeOf x).2 == 0)
  all_goals cases e2 : ((codeOf x).1 == 0)
  all_goals
    go_enter Try.func57, Try.ntmps57
    go_wp2_with (first | (go_at_call 58; ((with_reducible refine (shape_Code x _ hw).mono ?_); rintro e w1 ⟨rfl, hb1⟩; obtain ⟨x1, rfl⟩ := ext_of_grow hb1; clear hb1)))
    go_ret
    refine Ret.bool ?_ (by (repeat (first | (with_reducible exact Grow.refl _) | assumption | refine Grow.ext ?_ _ | refine Grow.alloc ?_ _ | refine Grow.drew ?_ | refine Grow.setCell ?_ (by first | (simp; done) | (simp; omega)) _ | refine Grow.trans ?_ (by assumption))))
    have h1 := hw.kind; have h2 := hw.to
    simp only [beq_iff_eq, beq_eq_false_iff_ne] at e1 e2
    unfold codeOf at e1 e2
    unfold isInt
    clear hg hw
    by_cases z : x.kind = 1 ∧ x.to = 0
    · simp only [z]; grind
    · simp only [z]; grind
abbrev fnz : Fn := ⟨0, false, [], []⟩
def callB (fs : List Fn) (b : Bk) : Bool := !decide (b.jump.kind = 4) || (decide (b.jump.fn < (fs.length : Int)) && decide ((b.jump.args.length : Int) = (fs.getD b.jump.fn.toNat fnz).params))
theorem ju_fn0 {j : Ju} (h : juErr j = 0) (h4 : j.kind = 4) : 0 ≤ j.fn := by
  have h := (juErr_iff j).1 h; unfold juOk juPre at h; grind
set_option maxRecDepth 100000 in
set_option maxHeartbeats 1000000 in
theorem check1_pred (p : Pr) (a : Option Addr) (n cap bp : Nat) (F : Nat → Prop) (W : World) (hp : Sl F W (.slice a n cap) p.funcs) (hb : LtW bp W) (hc : W.cell? ⟨bp, 0, none⟩ = some (.slice a n cap)) :
    PredBk 55 #[.pointer (some ⟨bp, 0, none⟩)] F W (fun b => juErr b.jump = 0) (callB p.funcs) := by
  intro w x u1 u2 hg hw hG h1 h2
  obtain ⟨y, rfl⟩ := ext_of_grow hg
  show Calls Try.prog _ #[x.v u1 u2, .pointer (some ⟨bp, 0, none⟩)] _ _
  obtain ⟨a1, n1, cap1, rfl, Hn1, hm1, hcap1, hcm1, h1⟩ := h1.open
  obtain ⟨a2, n2, cap2, rfl, Hn2, hm2, hcap2, hcm2, h2⟩ := h2.open
  have Hn := Lib.hid hp.len
  have hnm : n ≤ 9223372036854775807 := by obtain ⟨_, _, _, he, _, hq, _⟩ := hp.open; injection he with _ e2; omega
  have HG := Lib.hid hG; clear hG
  have hfn := hw.jump.fn
  by_cases h4 : x.jump.kind = 4
  · have Hf0 := Lib.hid (ju_fn0 HG.out h4)
    have H4 := Lib.hid h4
    obtain ⟨stmts, ⟨kind, oa, fn, next, els, args, dest⟩⟩ := x
    obtain ⟨q, rfl⟩ := Int.eq_ofNat_of_zero_le Hf0.out
    replace h4 : (kind != 4) = false := by have := H4.out; simp; exact this
    by_cases hlt : q < n
    · obtain ⟨b_f, off_f, f, f_locals_a, f_locals_n, f_locals_c, f_blocks_a, f_blocks_n, f_blocks_c, rfl, ⟨Hg_f, hl_f, hw_f, f_locals, f_blocks, c_f0, c_f1, c_f2, c_f3, r_f0⟩⟩ := hp.fn q hlt
      have Hc : Hid (callB p.funcs ⟨stmts, ⟨kind, oa, q, next, els, args, dest⟩⟩ = ((n2 : Int) == f.params)) := Lib.hid (by
        have e1 : kind = 4 := H4.out
        have e2 := Hn.out; have e3 : n2 = args.length := Hn2.out
        unfold callB; simp only [e1, decide_true, Bool.not_true, Bool.false_or, ← e2, ← e3]
        have e4 : p.funcs.getD ((q : Int).toNat) fnz = f := by rw [List.getD_eq_getElem?_getD, show (q : Int).toNat = q from rfl, Hg_f.out]; rfl
        rw [e4]; simp [hlt]; rfl)
      cases hpar : ((n2 : Int) == f.params)
      all_goals
        go_enter Try.func55, Try.ntmps55
        go_wp2_with fail
        (refine wp_region_ext (by kernel_rfl) (by kernel_rfl) ?_; (repeat (any_goals (first | go_big_quiet_step (first | fail) | (refine wpQuiet_step (fun K hK => ?_); go_simp; split <;> (refine hK _ ?_; clear hK K))))); all_goals (refine wpQuiet_nil ?_; intro w1 hb1; obtain ⟨x1, rfl⟩ := ext_of_grow hb1; clear hb1))
        go_wp2_with fail
        go_ret
        exact Ret.bool (by rw [Hc.out, hpar]) (by (repeat (first | (with_reducible exact Grow.refl _) | assumption | refine Grow.ext ?_ _ | refine Grow.alloc ?_ _ | refine Grow.drew ?_ | refine Grow.setCell ?_ (by first | (simp; done) | (simp; omega)) _ | refine Grow.trans ?_ (by assumption))))
    · have Hc : Hid (callB p.funcs ⟨stmts, ⟨kind, oa, q, next, els, args, dest⟩⟩ = false) := Lib.hid (by
        have e2 := Hn.out; have e1 : kind = 4 := H4.out
        unfold callB; simp [e1, ← e2]; intro h; omega)
      go_enter Try.func55, Try.ntmps55
      go_wp2_with fail
      (refine wp_region_ext (by kernel_rfl) (by kernel_rfl) ?_; (repeat (any_goals (first | go_big_quiet_step (first | fail) | (refine wpQuiet_step (fun K hK => ?_); go_simp; split <;> (refine hK _ ?_; clear hK K))))); all_goals (refine wpQuiet_nil ?_; intro w1 hb1; obtain ⟨x1, rfl⟩ := ext_of_grow hb1; clear hb1))
      go_wp2_with fail
      go_ret
      exact Ret.bool (by rw [Hc.out]) (by (repeat (first | (with_reducible exact Grow.refl _) | assumption | refine Grow.ext ?_ _ | refine Grow.alloc ?_ _ | refine Grow.drew ?_ | refine Grow.setCell ?_ (by first | (simp; done) | (simp; omega)) _ | refine Grow.trans ?_ (by assumption))))
  · have H4 := Lib.hid h4
    replace h4 : (x.jump.kind != 4) = true := by simp [h4]
    go_enter Try.func55, Try.ntmps55
    go_wp2_with fail
    (refine wp_region_ext (by kernel_rfl) (by kernel_rfl) ?_; (repeat (any_goals (first | go_big_quiet_step (first | fail) | (refine wpQuiet_step (fun K hK => ?_); go_simp; split <;> (refine hK _ ?_; clear hK K))))); all_goals (refine wpQuiet_nil ?_; intro w1 hb1; obtain ⟨x1, rfl⟩ := ext_of_grow hb1; clear hb1))
    go_wp2_with fail
    go_ret
    exact Ret.bool (by unfold callB; simp [H4.out]) (by (repeat (first | (with_reducible exact Grow.refl _) | assumption | refine Grow.ext ?_ _ | refine Grow.alloc ?_ _ | refine Grow.drew ?_ | refine Grow.setCell ?_ (by first | (simp; done) | (simp; omega)) _ | refine Grow.trans ?_ (by assumption))))
set_option maxHeartbeats 1000000 in
theorem check3_pred (p : Pr) (a : Option Addr) (n cap bp bc : Nat) (F : Nat → Prop) (W : World) (hp : Sl F W (.slice a n cap) p.funcs) (hb : LtW bp W) (hc : W.cell? ⟨bp, 0, none⟩ = some (.slice a n cap)) (hb2 : LtW bc W)
    (hc2 : W.cell? ⟨bc, 0, none⟩ = some (.func (.func 55) #[] #[.pointer (some ⟨bp, 0, none⟩)])) :
    PredFn 60 #[.pointer (some ⟨bc, 0, none⟩)] F W (fun f => ∀ b ∈ f.blocks, juErr b.jump = 0) (fun f => f.blocks.all (callB p.funcs)) := by
  intro w x u1 u2 hg hw hG h1 h2
  have hP := check1_pred p a n cap bp F W hp hb hc
  obtain ⟨y, rfl⟩ := ext_of_grow hg
  show Calls Try.prog _ #[x.v u1 u2, .pointer (some ⟨bc, 0, none⟩)] _ _
  obtain ⟨a1, n1, cap1, rfl, Hn1, hm1, hcap1, hcm1, h1⟩ := h1.open
  obtain ⟨a2, n2, cap2, rfl, Hn2, hm2, hcap2, hcm2, h2⟩ := h2.open
  have HG := Lib.hid hG; clear hG
  go_enter Try.func60, Try.ntmps60
  go_wp2_with (first | (go_at_call 61; ((with_reducible refine (all_Bk (by simp) (hP.grow (by (repeat (first | (with_reducible exact Grow.refl _) | assumption | refine Grow.ext ?_ _ | refine Grow.alloc ?_ _ | refine Grow.drew ?_ | refine Grow.setCell ?_ (by first | (simp; done) | (simp; omega)) _ | refine Grow.trans ?_ (by assumption))))) x.blocks _ (h2.mono (by (repeat (first | (with_reducible exact Grow.refl _) | assumption | refine Grow.ext ?_ _ | refine Grow.alloc ?_ _ | refine Grow.drew ?_ | refine Grow.setCell ?_ (by first | (simp; done) | (simp; omega)) _ | refine Grow.trans ?_ (by assumption))))) HG.out).mono ?_); rintro e w1 ⟨rfl, hb1⟩; obtain ⟨x1, rfl⟩ := ext_of_grow hb1; clear hb1)))
  go_ret
  exact Ret.bool rfl (by (repeat (first | (with_reducible exact Grow.refl _) | assumption | refine Grow.ext ?_ _ | refine Grow.alloc ?_ _ | refine Grow.drew ?_ | refine Grow.setCell ?_ (by first | (simp; done) | (simp; omega)) _ | refine Grow.trans ?_ (by assumption))))
end Go.Proofs.Ytiikhfjdpaofdaa
