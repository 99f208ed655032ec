/- Layer 8: the check of programs. Layer 8: the check of programs, all of it. -/
import Derived.Test.YthackfblfkpddaaL08
import Derived.Laws.EntriesVeiled
namespace Go.Proofs.Ythackfblfkpddaa
open Go.RowKit
set_option linter.unusedSimpArgs false
set_option linter.unusedVariables false

def codeOf (t : Ty) : Int × Int := if ¬ TyOk t then (0, 8) else if t.to = 0 then (t.kind - 1, 0) else (2 * (t.kind - 2) + (t.to - 1), 0)
set_option maxHeartbeats 400000 in
theorem shape_Code (t : Ty) (w : World) (hw : t.wf) :
    Calls Try.prog 51 #[t.v] w (Ret w (.tuple #[.int .i64 (codeOf t).1, .int .i64 (codeOf t).2])) := by
  have h1 := hw.kind; have h2 := hw.to
  by_cases hok : TyOk t
  · have he : (tyErr t != 0) = false := by simp [(tyErr_iff t).2 hok]
    have Hok := Lib.hid hok
    clear hok
    by_cases ht : t.to = 0
    · have Hc : Hid (codeOf t = (t.kind - 1, 0)) := Lib.hid (by unfold codeOf; rw [if_neg (fun h => h Hok.out), if_pos ht])
      have hk : 1 ≤ t.kind ∧ t.kind ≤ 5 := by have := Hok.out; omega
      obtain ⟨hk1, hk2⟩ := hk
      replace ht : (t.to == 0) = true := by simp [ht]
      rw [Hc.out]
      go_enter Try.func51, Try.ntmps51
      go_wp2_with (first | (go_at_call 75; ((with_reducible refine (shape_Check t _).mono ?_); rintro e w1 ⟨rfl, hb1⟩; obtain ⟨x1, rfl⟩ := ext_of_grow hb1; clear hb1)))
      go_ret2
      refine Ret.mk ?_ (by (repeat (first | (with_reducible exact Grow.refl _) | assumption | refine Grow.ext ?_ _ | refine Grow.alloc ?_ _ | refine Grow.drew ?_ | refine Grow.setCell ?_ (by first | (simp; done) | (simp; omega)) _ | refine Grow.trans ?_ (by assumption))))
      first | rfl | (congr 3; omega) | (simp; omega)
    · have Hc : Hid (codeOf t = (2 * (t.kind - 2) + (t.to - 1), 0)) := Lib.hid (by unfold codeOf; rw [if_neg (fun h => h Hok.out), if_neg ht])
      have hk : 3 ≤ t.kind ∧ t.kind ≤ 5 ∧ 1 ≤ t.to ∧ t.to ≤ 2 := by have := Hok.out; omega
      obtain ⟨hk1, hk2, hk3, hk4⟩ := hk
      replace ht : (t.to == 0) = false := by simp [ht]
      rw [Hc.out]
      go_enter Try.func51, Try.ntmps51
      go_wp2_with (first | (go_at_call 75; ((with_reducible refine (shape_Check t _).mono ?_); rintro e w1 ⟨rfl, hb1⟩; obtain ⟨x1, rfl⟩ := ext_of_grow hb1; clear hb1)))
      go_ret2
      refine Ret.mk ?_ (by (repeat (first | (with_reducible exact Grow.refl _) | assumption | refine Grow.ext ?_ _ | refine Grow.alloc ?_ _ | refine Grow.drew ?_ | refine Grow.setCell ?_ (by first | (simp; done) | (simp; omega)) _ | refine Grow.trans ?_ (by assumption))))
      first | rfl | (congr 3; omega) | (simp; omega)
  · have he : (tyErr t != 0) = true := by have := tyErr_iff t; simp; intro h; exact hok (this.1 h)
    have Hc : Hid (codeOf t = (0, 8)) := Lib.hid (by unfold codeOf; rw [if_pos hok])
    have H8 : Hid (tyErr t = 8) := Lib.hid (by unfold tyErr; rw [if_neg hok])
    clear hok
    rw [Hc.out]
    go_enter Try.func51, Try.ntmps51
    go_wp2_with (first | (go_at_call 75; ((with_reducible refine (shape_Check t _).mono ?_); rintro e w1 ⟨rfl, hb1⟩; obtain ⟨x1, rfl⟩ := ext_of_grow hb1; clear hb1)))
    go_ret2
    exact Ret.mk (by rw [H8.out]; rfl) (by (repeat (first | (with_reducible exact Grow.refl _) | assumption | refine Grow.ext ?_ _ | refine Grow.alloc ?_ _ | refine Grow.drew ?_ | refine Grow.setCell ?_ (by first | (simp; done) | (simp; omega)) _ | refine Grow.trans ?_ (by assumption))))
def isInt (t : Ty) : Bool := decide (t.kind = 1 ∧ t.to = 0)
set_option maxHeartbeats 400000 in
theorem check2_pred (F : Nat → Prop) (W : World) : PredTy 50 #[] F W (fun _ => True) isInt := by
  intro w x hg hw _
  show Calls Try.prog _ #[x.v] w _
  cases e1 : ((codeOf x).2 == 0)
  all_goals cases e2 : ((codeOf x).1 == 0)
  all_goals
    go_enter Try.func50, Try.ntmps50
    go_wp2_with (first | (go_at_call 51; ((with_reducible refine (shape_Code x _ hw).mono ?_); rintro e w1 ⟨rfl, hb1⟩; obtain ⟨x1, rfl⟩ := ext_of_grow hb1; clear hb1)))
    go_ret
    refine Ret.bool ?_ (by (repeat (first | (with_reducible exact Grow.refl _) | assumption | refine Grow.ext ?_ _ | refine Grow.alloc ?_ _ | refine Grow.drew ?_ | refine Grow.setCell ?_ (by first | (simp; done) | (simp; omega)) _ | refine Grow.trans ?_ (by assumption))))
    have h1 := hw.kind; have h2 := hw.to
    simp only [beq_iff_eq, beq_eq_false_iff_ne] at e1 e2
    unfold codeOf at e1 e2
    unfold isInt
    clear hg hw
    by_cases z : x.kind = 1 ∧ x.to = 0
    · simp only [z]; grind
    · simp only [z]; grind
abbrev fnz : Fn := ⟨0, false, [], []⟩
def callB (fs : List Fn) (b : Bk) : Bool := !decide (b.jump.kind = 4) || (decide (b.jump.fn < (fs.length : Int)) && decide ((b.jump.args.length : Int) = (fs.getD b.jump.fn.toNat fnz).params))
theorem ju_fn0 {j : Ju} (h : juErr j = 0) (h4 : j.kind = 4) : 0 ≤ j.fn := by
  have h := (juErr_iff j).1 h; unfold juOk juPre at h; grind
set_option maxRecDepth 100000 in
set_option maxHeartbeats 1000000 in
theorem check1_pred (p : Pr) (a : Option Addr) (n cap bp : Nat) (F : Nat → Prop) (W : World) (hp : Sl F W (.slice a n cap) p.funcs) (hb : LtW bp W) (hc : W.cell? ⟨bp, 0, none⟩ = some (.slice a n cap)) :
    PredBk 48 #[.pointer (some ⟨bp, 0, none⟩)] F W (fun b => juErr b.jump = 0) (callB p.funcs) := by
  intro w x u1 u2 hg hw hG h1 h2
  obtain ⟨y, rfl⟩ := ext_of_grow hg
  show Calls Try.prog _ #[x.v u1 u2, .pointer (some ⟨bp, 0, none⟩)] _ _
  obtain ⟨a1, n1, cap1, rfl, Hn1, hm1, hcap1, hcm1, h1⟩ := h1.open
  obtain ⟨a2, n2, cap2, rfl, Hn2, hm2, hcap2, hcm2, h2⟩ := h2.open
  have Hn := Lib.hid hp.len
  have hnm : n ≤ 9223372036854775807 := by obtain ⟨_, _, _, he, _, hq, _⟩ := hp.open; injection he with _ e2; omega
  have HG := Lib.hid hG; clear hG
  have hfn := hw.jump.fn
  by_cases h4 : x.jump.kind = 4
  · have Hf0 := Lib.hid (ju_fn0 HG.out h4)
    have H4 := Lib.hid h4
    obtain ⟨stmts, ⟨kind, oa, fn, next, els, args, dest⟩⟩ := x
    obtain ⟨q, rfl⟩ := Int.eq_ofNat_of_zero_le Hf0.out
    replace h4 : (kind != 4) = false := by have := H4.out; simp; exact this
    by_cases hlt : q < n
    · obtain ⟨b_f, off_f, f, f_locals_a, f_locals_n, f_locals_c, f_blocks_a, f_blocks_n, f_blocks_c, rfl, ⟨Hg_f, hl_f, hw_f, f_locals, f_blocks, c_f0, c_f1, c_f2, c_f3, r_f0⟩⟩ := hp.fn q hlt
      have Hc : Hid (callB p.funcs ⟨stmts, ⟨kind, oa, q, next, els, args, dest⟩⟩ = ((n2 : Int) == f.params)) := Lib.hid (by
        have e1 : kind = 4 := H4.out
        have e2 := Hn.out; have e3 : n2 = args.length := Hn2.out
        unfold callB; simp only [e1, decide_true, Bool.not_true, Bool.false_or, ← e2, ← e3]
        have e4 : p.funcs.getD ((q : Int).toNat) fnz = f := by rw [List.getD_eq_getElem?_getD, show (q : Int).toNat = q from rfl, Hg_f.out]; rfl
        rw [e4]; simp [hlt]; rfl)
      cases hpar : ((n2 : Int) == f.params)
      all_goals
        go_enter Try.func48, Try.ntmps48
        go_wp2_with fail
        (refine wp_region_ext (by kernel_rfl) (by kernel_rfl) ?_; (repeat (any_goals (first | go_big_quiet_step (first | fail) | (refine wpQuiet_step (fun K hK => ?_); go_simp; split <;> (refine hK _ ?_; clear hK K))))); all_goals (refine wpQuiet_nil ?_; intro w1 hb1; obtain ⟨x1, rfl⟩ := ext_of_grow hb1; clear hb1))
        go_wp2_with fail
        go_ret
        exact Ret.bool (by rw [Hc.out, hpar]) (by (repeat (first | (with_reducible exact Grow.refl _) | assumption | refine Grow.ext ?_ _ | refine Grow.alloc ?_ _ | refine Grow.drew ?_ | refine Grow.setCell ?_ (by first | (simp; done) | (simp; omega)) _ | refine Grow.trans ?_ (by assumption))))
    · have Hc : Hid (callB p.funcs ⟨stmts, ⟨kind, oa, q, next, els, args, dest⟩⟩ = false) := Lib.hid (by
        have e2 := Hn.out; have e1 : kind = 4 := H4.out
        unfold callB; simp [e1, ← e2]; intro h; omega)
      go_enter Try.func48, Try.ntmps48
      go_wp2_with fail
      (refine wp_region_ext (by kernel_rfl) (by kernel_rfl) ?_; (repeat (any_goals (first | go_big_quiet_step (first | fail) | (refine wpQuiet_step (fun K hK => ?_); go_simp; split <;> (refine hK _ ?_; clear hK K))))); all_goals (refine wpQuiet_nil ?_; intro w1 hb1; obtain ⟨x1, rfl⟩ := ext_of_grow hb1; clear hb1))
      go_wp2_with fail
      go_ret
      exact Ret.bool (by rw [Hc.out]) (by (repeat (first | (with_reducible exact Grow.refl _) | assumption | refine Grow.ext ?_ _ | refine Grow.alloc ?_ _ | refine Grow.drew ?_ | refine Grow.setCell ?_ (by first | (simp; done) | (simp; omega)) _ | refine Grow.trans ?_ (by assumption))))
  · have H4 := Lib.hid h4
    replace h4 : (x.jump.kind != 4) = true := by simp [h4]
    go_enter Try.func48, Try.ntmps48
    go_wp2_with fail
    (refine wp_region_ext (by kernel_rfl) (by kernel_rfl) ?_; (repeat (any_goals (first | go_big_quiet_step (first | fail) | (refine wpQuiet_step (fun K hK => ?_); go_simp; split <;> (refine hK _ ?_; clear hK K))))); all_goals (refine wpQuiet_nil ?_; intro w1 hb1; obtain ⟨x1, rfl⟩ := ext_of_grow hb1; clear hb1))
    go_wp2_with fail
    go_ret
    exact Ret.bool (by unfold callB; simp [H4.out]) (by (repeat (first | (with_reducible exact Grow.refl _) | assumption | refine Grow.ext ?_ _ | refine Grow.alloc ?_ _ | refine Grow.drew ?_ | refine Grow.setCell ?_ (by first | (simp; done) | (simp; omega)) _ | refine Grow.trans ?_ (by assumption))))
set_option maxHeartbeats 1000000 in
theorem check3_pred (p : Pr) (a : Option Addr) (n cap bp bc : Nat) (F : Nat → Prop) (W : World) (hp : Sl F W (.slice a n cap) p.funcs) (hb : LtW bp W) (hc : W.cell? ⟨bp, 0, none⟩ = some (.slice a n cap)) (hb2 : LtW bc W)
    (hc2 : W.cell? ⟨bc, 0, none⟩ = some (.func (.func 48) #[] #[.pointer (some ⟨bp, 0, none⟩)])) :
    PredFn 53 #[.pointer (some ⟨bc, 0, none⟩)] F W (fun f => ∀ b ∈ f.blocks, juErr b.jump = 0) (fun f => f.blocks.all (callB p.funcs)) := by
  intro w x u1 u2 hg hw hG h1 h2
  have hP := check1_pred p a n cap bp F W hp hb hc
  obtain ⟨y, rfl⟩ := ext_of_grow hg
  show Calls Try.prog _ #[x.v u1 u2, .pointer (some ⟨bc, 0, none⟩)] _ _
  obtain ⟨a1, n1, cap1, rfl, Hn1, hm1, hcap1, hcm1, h1⟩ := h1.open
  obtain ⟨a2, n2, cap2, rfl, Hn2, hm2, hcap2, hcm2, h2⟩ := h2.open
  have HG := Lib.hid hG; clear hG
  go_enter Try.func53, Try.ntmps53
  go_wp2_with (first | (go_at_call 54; ((with_reducible refine (all_Bk (by simp) (hP.grow (by (repeat (first | (with_reducible exact Grow.refl _) | assumption | refine Grow.ext ?_ _ | refine Grow.alloc ?_ _ | refine Grow.drew ?_ | refine Grow.setCell ?_ (by first | (simp; done) | (simp; omega)) _ | refine Grow.trans ?_ (by assumption))))) x.blocks _ (h2.mono (by (repeat (first | (with_reducible exact Grow.refl _) | assumption | refine Grow.ext ?_ _ | refine Grow.alloc ?_ _ | refine Grow.drew ?_ | refine Grow.setCell ?_ (by first | (simp; done) | (simp; omega)) _ | refine Grow.trans ?_ (by assumption))))) HG.out).mono ?_); rintro e w1 ⟨rfl, hb1⟩; obtain ⟨x1, rfl⟩ := ext_of_grow hb1; clear hb1)))
  go_ret
  exact Ret.bool rfl (by (repeat (first | (with_reducible exact Grow.refl _) | assumption | refine Grow.ext ?_ _ | refine Grow.alloc ?_ _ | refine Grow.drew ?_ | refine Grow.setCell ?_ (by first | (simp; done) | (simp; omega)) _ | refine Grow.trans ?_ (by assumption))))
def fnsErr : List Fn → Int
  | [] => 0
  | f :: l => if fnErr f ≠ 0 then fnErr f else fnsErr l
def inputsB (f : Fn) : Bool := ((f.locals.drop 1).take f.params.toNat).all isInt
def callsB (p : Pr) : Bool := p.funcs.all (fun f => f.blocks.all (callB p.funcs))
def prErr (p : Pr) : Int := if 8 < p.funcs.length then 4 else if p.funcs.length = 0 then 8 else if fnsErr p.funcs ≠ 0 then fnsErr p.funcs else if inputsB (p.funcs.getD 0 fnz) && callsB p then 0 else 8
theorem fnsErr_all {l : List Fn} (h : fnsErr l = 0) : ∀ f ∈ l, fnErr f = 0 := by
  induction l with
  | nil => intro f hf; cases hf
  | cons g l ih =>
    unfold fnsErr at h
    by_cases hg : fnErr g = 0
    · rw [if_neg (by simpa using hg)] at h
      intro f hf; rcases List.mem_cons.1 hf with rfl | hf; exact hg; exact ih h f hf
    · rw [if_pos hg] at h; exact absurd h hg
theorem fn_good {f : Fn} (h : fnErr f = 0) : small f = true ∧ madeB f = true ∧ twosOk f = true := by
  unfold fnErr at h
  split at h
  · cases h
  · split at h
    · cases h
    · split at h
      · cases h
      · exact ⟨by simpa using (by assumption : ¬ small f = false), by simpa using (by assumption : ¬ madeB f = false), by simpa using (by assumption : ¬ twosOk f = false)⟩
theorem made_par {f : Fn} (h : madeB f = true) : 0 ≤ f.params ∧ f.params ≤ 8 ∧ f.params < (f.locals.length : Int) := by
  unfold madeB fnHead at h; simp only [Bool.and_eq_true, decide_eq_true_eq] at h; omega
theorem Sl.sub {α : Type} [Rp α] {F : Nat → Prop} {w : World} {b off n cap : Nat} {xs : List α} (h : Sl F w (.slice (some ⟨b, off, none⟩) n cap) xs) (i m : Nat) (hi : i + m ≤ n) :
    Sl F w (.slice (some ⟨b, off + i * Rp.sz α, none⟩) m (cap - i)) ((xs.drop i).take m) := by
  have hn := h.len
  obtain ⟨a', cap', hv, h1, h2, h3, h⟩ := h
  injection hv with e1 e2 e3; subst e1 e3
  refine ⟨some ⟨b, off + i * Rp.sz α, none⟩, cap - i, ?_, ?_, by omega, (fun e => by cases e), fun j hj => ?_⟩
  · congr 1; simp; omega
  · simp; omega
  · have hl : ((xs.drop i).take m).length = m := by simp; omega
    obtain ⟨b', off', hb, hF, hlt, cs, hR, hc⟩ := h (i + j) (by omega)
    simp only [Option.some.injEq, Addr.mk.injEq, and_true] at hb
    obtain ⟨rfl, rfl⟩ := hb
    refine ⟨b, _, rfl, hF, hlt, cs, ?_, ?_⟩
    · rw [List.getElem_take, List.getElem_drop]; exact hR
    · rw [Nat.add_assoc, ← Nat.add_mul]; exact hc
theorem all_calls (p : Pr) (a : Option Addr) (n cap bp bc : Nat) (F : Nat → Prop) (W : World) (hp : Sl F W (.slice a n cap) p.funcs) (hb : LtW bp W) (hc : W.cell? ⟨bp, 0, none⟩ = some (.slice a n cap)) (hb2 : LtW bc W)
    (hc2 : W.cell? ⟨bc, 0, none⟩ = some (.func (.func 48) #[] #[.pointer (some ⟨bp, 0, none⟩)])) (hju : ∀ f ∈ p.funcs, ∀ b ∈ f.blocks, juErr b.jump = 0) :
    Calls Try.prog 52 #[.slice a n cap, .func (.func 53) #[] #[.pointer (some ⟨bc, 0, none⟩)]] W (Ret W (.bool (callsB p))) :=
  all_Fn (by simp) (check3_pred p a n cap bp bc F W hp hb hc hb2 hc2) p.funcs _ hp hju
set_option maxRecDepth 100000 in
set_option maxHeartbeats 2000000 in
theorem program_Check (p : Pr) (pv : Value) (w : World) {F : Nat → Prop} (hp : Sl F w pv p.funcs) :
    Calls Try.prog 26 #[p.v pv] w (Ret w (.int .i64 (prErr p))) := by
  obtain ⟨a, n, cap, rfl, Hn, hm, hcap, hcm, hp⟩ := hp.open
  by_cases hn8 : 8 < n
  · go_enter Try.func26, Try.ntmps26
    go_wp2_with fail
    go_ret
    exact Ret.int (by unfold prErr; rw [← Hn.out, if_pos hn8]) (by (repeat (first | (with_reducible exact Grow.refl _) | assumption | refine Grow.ext ?_ _ | refine Grow.alloc ?_ _ | refine Grow.drew ?_ | refine Grow.setCell ?_ (by first | (simp; done) | (simp; omega)) _ | refine Grow.trans ?_ (by assumption))))
  · by_cases hn0 : n = 0
    · have hn0' : ((n : Int) == 0) = true := by simp [hn0]
      go_enter Try.func26, Try.ntmps26
      go_wp2_with fail
      go_ret
      exact Ret.int (by unfold prErr; rw [← Hn.out, if_neg hn8, if_pos hn0]) (by (repeat (first | (with_reducible exact Grow.refl _) | assumption | refine Grow.ext ?_ _ | refine Grow.alloc ?_ _ | refine Grow.drew ?_ | refine Grow.setCell ?_ (by first | (simp; done) | (simp; omega)) _ | refine Grow.trans ?_ (by assumption))))
    · have hn0' : ((n : Int) == 0) = false := by simp [hn0]
      have Hpr : Hid (prErr p = if fnsErr p.funcs ≠ 0 then fnsErr p.funcs else if inputsB (p.funcs.getD 0 fnz) && callsB p then 0 else 8) := Lib.hid (by unfold prErr; rw [← Hn.out, if_neg hn8, if_neg hn0])
      go_enter Try.func26, Try.ntmps26
      go_wp2_with fail
      go_loopw [20] (fun i wr => ∃ (k : Nat), k ≤ n ∧ i = .int .i64 k ∧ Grow (w.alloc (Obj.cells #[.slice a n cap] 43)) wr ∧ Hid (fnsErr p.funcs = fnsErr (p.funcs.drop k))) (fun i _ => n - (intOf i).toNat)
      case atStart => exact ⟨0, Nat.zero_le _, rfl, (by (repeat (first | (with_reducible exact Grow.refl _) | assumption | refine Grow.ext ?_ _ | refine Grow.alloc ?_ _ | refine Grow.drew ?_ | refine Grow.setCell ?_ (by first | (simp; done) | (simp; omega)) _ | refine Grow.trans ?_ (by assumption)))), rfl⟩
      case round =>
        obtain ⟨k, hk, rfl, hb1, Ha⟩ := hrel
        obtain ⟨y1, rfl⟩ := ext_of_grow hb1
        by_cases hlt : k < n
        · obtain ⟨b_f, off_f, f, f_locals_a, f_locals_n, f_locals_c, f_blocks_a, f_blocks_n, f_blocks_c, rfl, ⟨Hg_f, hl_f, hw_f, f_locals, f_blocks, c_f0, c_f1, c_f2, c_f3, r_f0⟩⟩ := hp.fn k hlt
          have Hd : Hid (fnsErr (p.funcs.drop k) = if fnErr f ≠ 0 then fnErr f else fnsErr (p.funcs.drop (k + 1))) := Lib.hid (by rw [drop_cons Hg_f, fnsErr])
          cases he : (fnErr f != 0)
          · go_wp2_with (first | (go_at_call 45; ((with_reducible refine (fnshape_Check f _ _ _ hw_f (f_locals.mono (by (repeat (first | (with_reducible exact Grow.refl _) | assumption | refine Grow.ext ?_ _ | refine Grow.alloc ?_ _ | refine Grow.drew ?_ | refine Grow.setCell ?_ (by first | (simp; done) | (simp; omega)) _ | refine Grow.trans ?_ (by assumption))))) (f_blocks.mono (by (repeat (first | (with_reducible exact Grow.refl _) | assumption | refine Grow.ext ?_ _ | refine Grow.alloc ?_ _ | refine Grow.drew ?_ | refine Grow.setCell ?_ (by first | (simp; done) | (simp; omega)) _ | refine Grow.trans ?_ (by assumption)))))).mono ?_); rintro e w2 ⟨rfl, hb2⟩; obtain ⟨x2, rfl⟩ := ext_of_grow hb2; clear hb2)))
            go_roundw
            case rel => exact ⟨k + 1, by omega, by go_num, (by (repeat (first | (with_reducible exact Grow.refl _) | assumption | refine Grow.ext ?_ _ | refine Grow.alloc ?_ _ | refine Grow.drew ?_ | refine Grow.setCell ?_ (by first | (simp; done) | (simp; omega)) _ | refine Grow.trans ?_ (by assumption)))), Lib.hid (by rw [Ha.out, Hd.out, if_neg (by simpa using he)])⟩
            case measure => simp [intOf]; omega
          · go_wp2_with (first | (go_at_call 45; ((with_reducible refine (fnshape_Check f _ _ _ hw_f (f_locals.mono (by (repeat (first | (with_reducible exact Grow.refl _) | assumption | refine Grow.ext ?_ _ | refine Grow.alloc ?_ _ | refine Grow.drew ?_ | refine Grow.setCell ?_ (by first | (simp; done) | (simp; omega)) _ | refine Grow.trans ?_ (by assumption))))) (f_blocks.mono (by (repeat (first | (with_reducible exact Grow.refl _) | assumption | refine Grow.ext ?_ _ | refine Grow.alloc ?_ _ | refine Grow.drew ?_ | refine Grow.setCell ?_ (by first | (simp; done) | (simp; omega)) _ | refine Grow.trans ?_ (by assumption)))))).mono ?_); rintro e w2 ⟨rfl, hb2⟩; obtain ⟨x2, rfl⟩ := ext_of_grow hb2; clear hb2)))
            go_ret
            refine Ret.int ?_ (by (repeat (first | (with_reducible exact Grow.refl _) | assumption | refine Grow.ext ?_ _ | refine Grow.alloc ?_ _ | refine Grow.drew ?_ | refine Grow.setCell ?_ (by first | (simp; done) | (simp; omega)) _ | refine Grow.trans ?_ (by assumption))))
            have q : fnErr f ≠ 0 := by simpa using he
            have e : fnsErr p.funcs = fnErr f := by rw [Ha.out, Hd.out, if_pos q]
            rw [Hpr.out, e, if_pos q]
        · have H0 : Hid (fnsErr p.funcs = 0) := Lib.hid (by rw [Ha.out, drop_all Hn (by omega)]; rfl)
          clear Ha
          have Hgood : Hid (∀ f ∈ p.funcs, fnErr f = 0) := Lib.hid (fnsErr_all H0.out)
          obtain ⟨b_g, off_g, g, g_locals_a, g_locals_n, g_locals_c, g_blocks_a, g_blocks_n, g_blocks_c, rfl, ⟨Hg_g, hl_g, hw_g, g_locals, g_blocks, c_g0, c_g1, c_g2, c_g3, r_g0⟩⟩ := hp.fn 0 (by omega)
          simp only [Nat.zero_mul, Nat.add_zero] at c_g0 c_g1 c_g2 c_g3 r_g0
          have Hgg := Lib.hid (fn_good (Hgood.out g (List.mem_of_getElem? Hg_g.out)))
          have Hpar := Lib.hid (made_par Hgg.out.2.1)
          have Hg0 : Hid (p.funcs.getD 0 fnz = g) := Lib.hid (by rw [List.getD_eq_getElem?_getD, Hg_g.out]; rfl)
          have Hlen := Lib.hid g_locals.len
          have hmg : g_locals_n ≤ 9223372036854775807 ∧ g_locals_n ≤ g_locals_c ∧ g_locals_c ≤ 9223372036854775807 := by obtain ⟨_, _, _, he, _, hq, h1, h2, _⟩ := g_locals.open; injection he with _ e2 e3; omega
          obtain ⟨hmg1, hmg2, hmg3⟩ := hmg
          obtain ⟨par, uns, locals, blocks⟩ := g
          obtain ⟨q, rfl⟩ := Int.eq_ofNat_of_zero_le Hpar.out.1
          have hql : q + 1 ≤ g_locals_n := by have h1 : (q : Int) < (locals.length : Int) := Hpar.out.2.2; have h2 : g_locals_n = locals.length := Hlen.out; omega
          have hq8 : q ≤ 8 := by have h1 : (q : Int) ≤ 8 := Hpar.out.2.1; omega
          have Hin : Hid (inputsB ⟨(q : Int), uns, locals, blocks⟩ = ((locals.drop 1).take q).all isInt) := Lib.hid rfl
          have hz : 0 < g_locals_n := by omega
          obtain ⟨b_t0, off_t0, t0, rfl, ⟨Hg_t0, hl_t0, hw_t0, c_t00, c_t01, r_t00⟩⟩ := g_locals.ty 0 hz
          have hsub := Sl.sub g_locals 1 q (by omega)
          have Hju : Hid (∀ f ∈ p.funcs, ∀ b ∈ f.blocks, juErr b.jump = 0) := Lib.hid (fun f hf b hb => (made_all (fn_good (Hgood.out f hf)).2.1 hb).2)
          clear c_t00 c_t01 r_t00
          simp only [sz_ty, Nat.one_mul] at hsub
          have Hl0 : Hid (q = 0 → (locals.drop 1).take q = []) := Lib.hid (fun h => by rw [h]; rfl)
          obtain ⟨L, HL'⟩ : ∃ L, L = (locals.drop 1).take q := ⟨_, rfl⟩
          rw [← HL'] at hsub
          have HL := Lib.hid HL'
          clear HL'
          by_cases hc1 : g_locals_c = 1
          · obtain rfl : q = 0 := by omega
            have HL0 : Hid (L = []) := Lib.hid (by rw [HL.out]; rfl)
            have hsub0 : Sl F w (.slice (some ⟨b_t0, off_t0, none⟩) 0 0) L := by
              rw [HL0.out]; exact ⟨_, 0, rfl, Nat.le_refl _, by omega, (fun e => by cases e), fun i h => by cases h⟩
            subst hc1
            have hi : L.all isInt = true := by rw [HL0.out]; rfl
            cases hcl : callsB p
            all_goals
              go_wp2_with (first | (go_at_call 49; ((with_reducible refine (all_Ty (by simp) (check2_pred F _) L _ (hsub0.mono (by (repeat (first | (with_reducible exact Grow.refl _) | assumption | refine Grow.ext ?_ _ | refine Grow.alloc ?_ _ | refine Grow.drew ?_ | refine Grow.setCell ?_ (by first | (simp; done) | (simp; omega)) _ | refine Grow.trans ?_ (by assumption))))) (fun _ _ => trivial)).mono ?_); rintro e w3 ⟨rfl, hb3⟩; obtain ⟨x3, rfl⟩ := ext_of_grow hb3; clear hb3)) | (go_at_call 52; ((with_reducible refine (all_calls p _ n cap w.heap.size _ F _ (hp.mono (by (repeat (first | (with_reducible exact Grow.refl _) | assumption | refine Grow.ext ?_ _ | refine Grow.alloc ?_ _ | refine Grow.drew ?_ | refine Grow.setCell ?_ (by first | (simp; done) | (simp; omega)) _ | refine Grow.trans ?_ (by assumption))))) inferInstance (by go_simp) inferInstance (by go_simp) Hju.out).mono ?_); rintro e w4 ⟨rfl, hb4⟩; obtain ⟨x4, rfl⟩ := ext_of_grow hb4; clear hb4)))
              go_ret
              exact Ret.int (by rw [Hpr.out, H0.out, Hg0.out, Hin.out, ← HL.out, hi, hcl]; simp) (by (repeat (first | (with_reducible exact Grow.refl _) | assumption | refine Grow.ext ?_ _ | refine Grow.alloc ?_ _ | refine Grow.drew ?_ | refine Grow.setCell ?_ (by first | (simp; done) | (simp; omega)) _ | refine Grow.trans ?_ (by assumption))))
          · have hc1' : ¬ g_locals_c ≤ 1 := by omega
            cases hi : L.all isInt
            · go_wp2_with (first | (go_at_call 49; ((with_reducible refine (all_Ty (by simp) (check2_pred F _) L _ (hsub.mono (by (repeat (first | (with_reducible exact Grow.refl _) | assumption | refine Grow.ext ?_ _ | refine Grow.alloc ?_ _ | refine Grow.drew ?_ | refine Grow.setCell ?_ (by first | (simp; done) | (simp; omega)) _ | refine Grow.trans ?_ (by assumption))))) (fun _ _ => trivial)).mono ?_); rintro e w3 ⟨rfl, hb3⟩; obtain ⟨x3, rfl⟩ := ext_of_grow hb3; clear hb3)))
              go_ret
              exact Ret.int (by rw [Hpr.out, H0.out, Hg0.out, Hin.out, ← HL.out, hi]; simp) (by (repeat (first | (with_reducible exact Grow.refl _) | assumption | refine Grow.ext ?_ _ | refine Grow.alloc ?_ _ | refine Grow.drew ?_ | refine Grow.setCell ?_ (by first | (simp; done) | (simp; omega)) _ | refine Grow.trans ?_ (by assumption))))
            · cases hcl : callsB p
              all_goals
                go_wp2_with (first | (go_at_call 49; ((with_reducible refine (all_Ty (by simp) (check2_pred F _) L _ (hsub.mono (by (repeat (first | (with_reducible exact Grow.refl _) | assumption | refine Grow.ext ?_ _ | refine Grow.alloc ?_ _ | refine Grow.drew ?_ | refine Grow.setCell ?_ (by first | (simp; done) | (simp; omega)) _ | refine Grow.trans ?_ (by assumption))))) (fun _ _ => trivial)).mono ?_); rintro e w3 ⟨rfl, hb3⟩; obtain ⟨x3, rfl⟩ := ext_of_grow hb3; clear hb3)) | (go_at_call 52; ((with_reducible refine (all_calls p _ n cap w.heap.size _ F _ (hp.mono (by (repeat (first | (with_reducible exact Grow.refl _) | assumption | refine Grow.ext ?_ _ | refine Grow.alloc ?_ _ | refine Grow.drew ?_ | refine Grow.setCell ?_ (by first | (simp; done) | (simp; omega)) _ | refine Grow.trans ?_ (by assumption))))) inferInstance (by go_simp) inferInstance (by go_simp) Hju.out).mono ?_); rintro e w4 ⟨rfl, hb4⟩; obtain ⟨x4, rfl⟩ := ext_of_grow hb4; clear hb4)))
                go_ret
                exact Ret.int (by rw [Hpr.out, H0.out, Hg0.out, Hin.out, ← HL.out, hi, hcl]; simp) (by (repeat (first | (with_reducible exact Grow.refl _) | assumption | refine Grow.ext ?_ _ | refine Grow.alloc ?_ _ | refine Grow.drew ?_ | refine Grow.setCell ?_ (by first | (simp; done) | (simp; omega)) _ | refine Grow.trans ?_ (by assumption))))
end Go.Proofs.Ythackfblfkpddaa
