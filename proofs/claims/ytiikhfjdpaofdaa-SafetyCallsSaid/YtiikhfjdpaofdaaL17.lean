/- Layer 17: what is raw. -/
import Derived.Test.YtiikhfjdpaofdaaL08g
namespace Go.Proofs.Ytiikhfjdpaofdaa
open Go.RowKit
set_option linter.unusedSimpArgs false
set_option linter.unusedVariables false

def PredSt (k : Nat) (caps : Array Value) (F : Nat → Prop) (W : World) (G : St → Prop) (p : St → Bool) : Prop :=
  ∀ (w : World) (x : St), Grow W w → x.wf → G x → Calls Try.prog k (#[x.v] ++ caps) w (Ret w (.bool (p x)))
theorem PredSt.at {k : Nat} {caps : Array Value} {F : Nat → Prop} {W : World} {G : St → Prop} {p : St → Bool} (h : PredSt k caps F W G p) (w : World) (x : St) (hg : Grow W w) (hw : x.wf) (hG : G x) : Calls Try.prog k (#[x.v] ++ caps) w (Ret w (.bool (p x))) := h w x  hg hw hG
theorem PredSt.grow {k : Nat} {caps : Array Value} {F : Nat → Prop} {W W' : World} {G : St → Prop} {p : St → Bool} (h : PredSt k caps F W G p) (g : Grow W W') : PredSt k caps F W' G p :=
  fun w x  hg => h w x  (g.trans hg)
set_option maxHeartbeats 1000000 in
theorem index_St {k : Nat} {caps : Array Value} {F : Nat → Prop} {w : World} {G : St → Prop} {p : St → Bool} (hk : (k = 91)) (hP : PredSt k caps F w G p) (l : List St) (v : Value) (hl : Sl F w v l) (hG : ∀ x ∈ l, G x) :
    Calls Try.prog 113 #[v, .func (.func k) #[] caps] w (RetP w fun u _ => ∃ i : Int, u = .int .i64 i ∧ (0 ≤ i ↔ l.any p = true) ∧ I64 i) := by
  obtain ⟨a, n, cap, rfl, Hn, hm, hcap, hcm, hl⟩ := hl.open
  rcases hk with rfl
  all_goals
   go_enter Try.func113, Try.ntmps113
   go_wp2_with fail
   go_loopw [8] (fun i wr => ∃ (q : Nat), q ≤ n ∧ i = .int .i64 q ∧ Grow w wr ∧ Hid ((l.take q).all (fun x => !p x) = true)) (fun i _ => n - (intOf i).toNat)
   case atStart => exact ⟨0, Nat.zero_le _, rfl, (by (repeat (first | (with_reducible exact Grow.refl _) | assumption | refine Grow.ext ?_ _ | refine Grow.alloc ?_ _ | refine Grow.drew ?_ | refine Grow.setCell ?_ (by first | (simp; done) | (simp; omega)) _ | refine Grow.trans ?_ (by assumption)))), rfl⟩
   case round =>
     obtain ⟨q, hq, rfl, hb1, Ha⟩ := hrel
     obtain ⟨y1, rfl⟩ := ext_of_grow hb1
     by_cases hlt : q < n
     · obtain ⟨b_x, off_x, x, rfl, ⟨Hg_x, hl_x, hw_x, c_x0, c_x1, c_x2, c_x3, c_x4, c_x5, c_x6, c_x7, c_x8, c_x9, c_x10, c_x11, c_x12, c_x13, c_x14, c_x15, c_x16, c_x17, c_x18, c_x19, c_x20, c_x21, c_x22, c_x23, c_x24, c_x25, r_x0, r_x1, r_x2, r_x3, r_x4, r_x5, r_x6, r_x7, r_x8, r_x9⟩⟩ := hl.st q hlt
       have Hm := Lib.hid (hG x (List.mem_of_getElem? Hg_x.out))
       cases hp : p x
       · go_wp2_with (first | (go_at_call 91; go_must (with_reducible refine (hP.at _ x  (by (repeat (first | (with_reducible exact Grow.refl _) | assumption | refine Grow.ext ?_ _ | refine Grow.alloc ?_ _ | refine Grow.drew ?_ | refine Grow.setCell ?_ (by first | (simp; done) | (simp; omega)) _ | refine Grow.trans ?_ (by assumption)))) hw_x Hm.out).mono ?_); rintro e w2 ⟨rfl, hb2⟩; obtain ⟨x2, rfl⟩ := ext_of_grow hb2; clear hb2))
         go_roundw
         case rel => exact ⟨q + 1, by omega, by go_num, (by (repeat (first | (with_reducible exact Grow.refl _) | assumption | refine Grow.ext ?_ _ | refine Grow.alloc ?_ _ | refine Grow.drew ?_ | refine Grow.setCell ?_ (by first | (simp; done) | (simp; omega)) _ | refine Grow.trans ?_ (by assumption)))), all_step Hg_x Ha (by simp [hp])⟩
         case measure => simp [intOf]; omega
       · go_wp2_with (first | (go_at_call 91; go_must (with_reducible refine (hP.at _ x  (by (repeat (first | (with_reducible exact Grow.refl _) | assumption | refine Grow.ext ?_ _ | refine Grow.alloc ?_ _ | refine Grow.drew ?_ | refine Grow.setCell ?_ (by first | (simp; done) | (simp; omega)) _ | refine Grow.trans ?_ (by assumption)))) hw_x Hm.out).mono ?_); rintro e w2 ⟨rfl, hb2⟩; obtain ⟨x2, rfl⟩ := ext_of_grow hb2; clear hb2))
         go_ret
         exact RetP.mk ⟨_, rfl, ⟨fun _ => List.any_eq_true.2 ⟨x, List.mem_of_getElem? Hg_x.out, hp⟩, fun _ => by omega⟩, ⟨by omega, by omega⟩⟩ (by (repeat (first | (with_reducible exact Grow.refl _) | assumption | refine Grow.ext ?_ _ | refine Grow.alloc ?_ _ | refine Grow.drew ?_ | refine Grow.setCell ?_ (by first | (simp; done) | (simp; omega)) _ | refine Grow.trans ?_ (by assumption))))
     · go_wp2_with fail
       go_ret
       have Hall := all_end Hn (by omega) Ha
       refine RetP.mk ⟨_, rfl, ⟨fun h => by omega, fun h => ?_⟩, ⟨by omega, by omega⟩⟩ (by (repeat (first | (with_reducible exact Grow.refl _) | assumption | refine Grow.ext ?_ _ | refine Grow.alloc ?_ _ | refine Grow.drew ?_ | refine Grow.setCell ?_ (by first | (simp; done) | (simp; omega)) _ | refine Grow.trans ?_ (by assumption))))
       exfalso
       obtain ⟨x, hx, hp⟩ := List.any_eq_true.1 h
       have := List.all_eq_true.1 Hall x hx
       simp [hp] at this
set_option maxHeartbeats 1000000 in
theorem contains_St {k : Nat} {caps : Array Value} {F : Nat → Prop} {w : World} {G : St → Prop} {p : St → Bool} (hk : (k = 91)) (hP : PredSt k caps F w G p) (l : List St) (v : Value) (hl : Sl F w v l) (hG : ∀ x ∈ l, G x) :
    Calls Try.prog 90 #[v, .func (.func k) #[] caps] w (Ret w (.bool (l.any p))) := by
  obtain ⟨a, n, cap, rfl, Hn, hm, hcap, hcm, hl⟩ := hl.open
  have HG := Lib.hid hG; clear hG
  rcases hk with rfl
  all_goals
   go_enter Try.func90, Try.ntmps90
   go_wp2_with (first | (go_at_call 113; go_must (with_reducible refine (index_St (by simp) hP l _ hl HG.out).mono ?_); rintro e w2 ⟨_, rfl, ⟨i, rfl, hi, hi2⟩, hb2⟩; have Hi := Lib.hid hi; clear hi; obtain ⟨x2, rfl⟩ := ext_of_grow hb2; clear hb2))
  all_goals go_ret
  all_goals (refine Ret.bool ?_ (by (repeat (first | (with_reducible exact Grow.refl _) | assumption | refine Grow.ext ?_ _ | refine Grow.alloc ?_ _ | refine Grow.drew ?_ | refine Grow.setCell ?_ (by first | (simp; done) | (simp; omega)) _ | refine Grow.trans ?_ (by assumption)))))
  all_goals (have hi := Hi.out; rw [Bool.eq_iff_iff]; first | (rw [decide_eq_true_iff]; exact hi) | (simp only [decide_eq_true_eq]; exact hi) | grind)

def PredI (k : Nat) (caps : Array Value) (W : World) (G : Int → Prop) (p : Int → Bool) : Prop :=
  ∀ (w : World) (x : Int), Grow W w → I64 x → G x → Calls Try.prog k (#[.int .i64 x] ++ caps) w (Ret w (.bool (p x)))
theorem PredI.at {k : Nat} {caps : Array Value} {W : World} {G : Int → Prop} {p : Int → Bool} (h : PredI k caps W G p) (w : World) (x : Int) (hg : Grow W w) (hw : I64 x) (hG : G x) : Calls Try.prog k (#[.int .i64 x] ++ caps) w (Ret w (.bool (p x))) := h w x hg hw hG
set_option maxHeartbeats 1000000 in
theorem index_I {caps : Array Value} {F : Nat → Prop} {w : World} {G : Int → Prop} {p : Int → Bool} (hP : PredI 70 caps w G p) (l : List Int) (v : Value) (hl : Sl F w v l) (hG : ∀ x ∈ l, G x) :
    Calls Try.prog 92 #[v, .func (.func 70) #[] caps] w (RetP w fun u _ => ∃ i : Int, u = .int .i64 i ∧ (0 ≤ i ↔ l.any p = true) ∧ I64 i) := by
  obtain ⟨a, n, cap, rfl, Hn, hm, hcap, hcm, hl⟩ := hl.open
  go_enter Try.func92, Try.ntmps92
  go_wp2_with fail
  go_loopw [8] (fun i wr => ∃ (q : Nat), q ≤ n ∧ i = .int .i64 q ∧ Grow w wr ∧ Hid ((l.take q).all (fun x => !p x) = true)) (fun i _ => n - (intOf i).toNat)
  case atStart => exact ⟨0, Nat.zero_le _, rfl, (by (repeat (first | (with_reducible exact Grow.refl _) | assumption | refine Grow.ext ?_ _ | refine Grow.alloc ?_ _ | refine Grow.drew ?_ | refine Grow.setCell ?_ (by first | (simp; done) | (simp; omega)) _ | refine Grow.trans ?_ (by assumption)))), rfl⟩
  case round =>
    obtain ⟨q, hq, rfl, hb1, Ha⟩ := hrel
    obtain ⟨y1, rfl⟩ := ext_of_grow hb1
    by_cases hlt : q < n
    · obtain ⟨b_x, off_x, x, rfl, ⟨Hg_x, hl_x, hw_x, c_x0⟩⟩ := hl.int q hlt
      have Hm := Lib.hid (hG x (List.mem_of_getElem? Hg_x.out))
      cases hp : p x
      · go_wp2_with (first | (go_at_call 70; go_must (with_reducible refine (hP.at _ x (by (repeat (first | (with_reducible exact Grow.refl _) | assumption | refine Grow.ext ?_ _ | refine Grow.alloc ?_ _ | refine Grow.drew ?_ | refine Grow.setCell ?_ (by first | (simp; done) | (simp; omega)) _ | refine Grow.trans ?_ (by assumption)))) hw_x Hm.out).mono ?_); rintro e w2 ⟨rfl, hb2⟩; obtain ⟨x2, rfl⟩ := ext_of_grow hb2; clear hb2))
        go_roundw
        case rel => exact ⟨q + 1, by omega, by go_num, (by (repeat (first | (with_reducible exact Grow.refl _) | assumption | refine Grow.ext ?_ _ | refine Grow.alloc ?_ _ | refine Grow.drew ?_ | refine Grow.setCell ?_ (by first | (simp; done) | (simp; omega)) _ | refine Grow.trans ?_ (by assumption)))), all_step Hg_x Ha (by simp [hp])⟩
        case measure => simp [intOf]; omega
      · go_wp2_with (first | (go_at_call 70; go_must (with_reducible refine (hP.at _ x (by (repeat (first | (with_reducible exact Grow.refl _) | assumption | refine Grow.ext ?_ _ | refine Grow.alloc ?_ _ | refine Grow.drew ?_ | refine Grow.setCell ?_ (by first | (simp; done) | (simp; omega)) _ | refine Grow.trans ?_ (by assumption)))) hw_x Hm.out).mono ?_); rintro e w2 ⟨rfl, hb2⟩; obtain ⟨x2, rfl⟩ := ext_of_grow hb2; clear hb2))
        go_ret
        exact RetP.mk ⟨_, rfl, ⟨fun _ => List.any_eq_true.2 ⟨x, List.mem_of_getElem? Hg_x.out, hp⟩, fun _ => by omega⟩, ⟨by omega, by omega⟩⟩ (by (repeat (first | (with_reducible exact Grow.refl _) | assumption | refine Grow.ext ?_ _ | refine Grow.alloc ?_ _ | refine Grow.drew ?_ | refine Grow.setCell ?_ (by first | (simp; done) | (simp; omega)) _ | refine Grow.trans ?_ (by assumption))))
    · go_wp2_with fail
      go_ret
      have Hall := all_end Hn (by omega) Ha
      refine RetP.mk ⟨_, rfl, ⟨fun h => by omega, fun h => ?_⟩, ⟨by omega, by omega⟩⟩ (by (repeat (first | (with_reducible exact Grow.refl _) | assumption | refine Grow.ext ?_ _ | refine Grow.alloc ?_ _ | refine Grow.drew ?_ | refine Grow.setCell ?_ (by first | (simp; done) | (simp; omega)) _ | refine Grow.trans ?_ (by assumption))))
      exfalso
      obtain ⟨x, hx, hp⟩ := List.any_eq_true.1 h
      have := List.all_eq_true.1 Hall x hx
      simp [hp] at this
set_option maxHeartbeats 1000000 in
theorem contains_I {caps : Array Value} {F : Nat → Prop} {w : World} {G : Int → Prop} {p : Int → Bool} (hP : PredI 70 caps w G p) (l : List Int) (v : Value) (hl : Sl F w v l) (hG : ∀ x ∈ l, G x) :
    Calls Try.prog 69 #[v, .func (.func 70) #[] caps] w (Ret w (.bool (l.any p))) := by
  obtain ⟨a, n, cap, rfl, Hn, hm, hcap, hcm, hl⟩ := hl.open
  have HG := Lib.hid hG; clear hG
  go_enter Try.func69, Try.ntmps69
  go_wp2_with (first | (go_at_call 92; go_must (with_reducible refine (index_I hP l _ hl HG.out).mono ?_); rintro e w2 ⟨_, rfl, ⟨i, rfl, hi, hi2⟩, hb2⟩; have Hi := Lib.hid hi; clear hi; obtain ⟨x2, rfl⟩ := ext_of_grow hb2; clear hb2))
  all_goals go_ret
  all_goals (refine Ret.bool ?_ (by (repeat (first | (with_reducible exact Grow.refl _) | assumption | refine Grow.ext ?_ _ | refine Grow.alloc ?_ _ | refine Grow.drew ?_ | refine Grow.setCell ?_ (by first | (simp; done) | (simp; omega)) _ | refine Grow.trans ?_ (by assumption)))))
  all_goals (have hi := Hi.out; rw [Bool.eq_iff_iff]; first | (rw [decide_eq_true_iff]; exact hi) | (simp only [decide_eq_true_eq]; exact hi) | grind)

def isRaw (t : Ty) : Bool := t.kind == 5
def mkRaw (s : St) : Bool := (s.kind == 1) && (s.r.kind == 5)
set_option maxHeartbeats 400000 in
theorem pointer_pred (F : Nat → Prop) (W : World) : PredTy 88 #[] F W (fun _ => True) isRaw := by
  intro w x hg hw _
  show Calls Try.prog _ #[x.v] w _
  go_enter Try.func88, Try.ntmps88
  go_wp2
  all_goals go_ret
  all_goals (refine Ret.bool ?_ (by (repeat (first | (with_reducible exact Grow.refl _) | assumption | refine Grow.ext ?_ _ | refine Grow.alloc ?_ _ | refine Grow.drew ?_ | refine Grow.setCell ?_ (by first | (simp; done) | (simp; omega)) _ | refine Grow.trans ?_ (by assumption)))))
  all_goals (unfold isRaw; first | rfl | grind)
set_option maxHeartbeats 400000 in
theorem makes_pred (F : Nat → Prop) (W : World) : PredSt 91 #[] F W (fun _ => True) mkRaw := by
  intro w x hg hw _
  show Calls Try.prog _ #[x.v] w _
  clear hg
  cases h1 : (x.kind == 1)
  all_goals cases h2 : (x.r.kind == 5)
  all_goals
    go_enter Try.func91, Try.ntmps91
    go_wp2
    go_ret
    refine Ret.bool ?_ (by (repeat (first | (with_reducible exact Grow.refl _) | assumption | refine Grow.ext ?_ _ | refine Grow.alloc ?_ _ | refine Grow.drew ?_ | refine Grow.setCell ?_ (by first | (simp; done) | (simp; omega)) _ | refine Grow.trans ?_ (by assumption))))
    unfold mkRaw; rw [h1, h2]; rfl
def rawB (fs : List Fn) (b : Bk) : Bool := b.stmts.any mkRaw || (decide (b.jump.kind = 4) && (fs.getD b.jump.fn.toNat fnz).uns)
def rawF (p : Pr) (f : Fn) : Bool := f.locals.any isRaw || f.blocks.any (rawB p.funcs)
set_option maxRecDepth 100000 in
set_option maxHeartbeats 1000000 in
theorem raw1_pred (p : Pr) (a : Option Addr) (n cap bp : Nat) (F : Nat → Prop) (W : World) (hp : Sl F W (.slice a n cap) p.funcs) (hb : LtW bp W) (hc : W.cell? ⟨bp, 0, none⟩ = some (.slice a n cap)) :
    PredBk 89 #[.pointer (some ⟨bp, 0, none⟩)] F W (fun b => juErr b.jump = 0 ∧ callB p.funcs b = true) (rawB p.funcs) := by
  intro w x u1 u2 hg hw hG h1 h2
  obtain ⟨y, rfl⟩ := ext_of_grow hg
  show Calls Try.prog _ #[x.v u1 u2, .pointer (some ⟨bp, 0, none⟩)] _ _
  obtain ⟨a1, n1, cap1, rfl, Hn1, hm1, hcap1, hcm1, h1⟩ := h1.open
  obtain ⟨a2, n2, cap2, rfl, Hn2, hm2, hcap2, hcm2, h2⟩ := h2.open
  have Hn := Lib.hid hp.len
  have hnm : n ≤ 9223372036854775807 := by obtain ⟨_, _, _, he, _, hq, _⟩ := hp.open; injection he with _ e2; omega
  have HG := Lib.hid hG; clear hG
  have hM := makes_pred F W
  cases hmk : x.stmts.any mkRaw
  · by_cases h4 : x.jump.kind = 4
    · have Hf0 := Lib.hid (ju_fn0 HG.out.1 h4)
      have H4 := Lib.hid h4
      have Hlt : Hid (x.jump.fn < (n : Int)) := Lib.hid (by
        have := HG.out.2; unfold callB at this; simp only [h4, decide_true, Bool.not_true, Bool.false_or, Bool.and_eq_true, decide_eq_true_eq] at this
        rw [Hn.out]; exact this.1)
      obtain ⟨stmts, ⟨kind, oa, fn, next, els, args, dest⟩⟩ := x
      obtain ⟨q, rfl⟩ := Int.eq_ofNat_of_zero_le Hf0.out
      have hlt : q < n := by have := Hlt.out; simp at this; omega
      replace h4 : (kind == 4) = true := by have := H4.out; simp; exact this
      obtain ⟨b_f, off_f, f, f_locals_a, f_locals_n, f_locals_c, f_blocks_a, f_blocks_n, f_blocks_c, rfl, ⟨Hg_f, hl_f, hw_f, f_locals, f_blocks, c_f0, c_f1, c_f2, c_f3, r_f0⟩⟩ := hp.fn q hlt
      have Hc : Hid (rawB p.funcs ⟨stmts, ⟨kind, oa, q, next, els, args, dest⟩⟩ = f.uns) := Lib.hid (by
        have e1 : kind = 4 := H4.out
        have e4 : p.funcs.getD ((q : Int).toNat) fnz = f := by rw [List.getD_eq_getElem?_getD, show (q : Int).toNat = q from rfl, Hg_f.out]; rfl
        unfold rawB; rw [hmk, e4]; simp [e1])
      go_enter Try.func89, Try.ntmps89
      go_wp2_with (first | (go_at_call 90; ((with_reducible refine (contains_St (by simp) (hM.grow (by (repeat (first | (with_reducible exact Grow.refl _) | assumption | refine Grow.ext ?_ _ | refine Grow.alloc ?_ _ | refine Grow.drew ?_ | refine Grow.setCell ?_ (by first | (simp; done) | (simp; omega)) _ | refine Grow.trans ?_ (by assumption))))) stmts _ (h1.mono (by (repeat (first | (with_reducible exact Grow.refl _) | assumption | refine Grow.ext ?_ _ | refine Grow.alloc ?_ _ | refine Grow.drew ?_ | refine Grow.setCell ?_ (by first | (simp; done) | (simp; omega)) _ | refine Grow.trans ?_ (by assumption))))) (fun _ _ => trivial)).mono ?_); rintro e w1 ⟨rfl, hb1⟩; obtain ⟨x1, rfl⟩ := ext_of_grow hb1; clear hb1)))
      go_ret
      exact Ret.bool (by rw [Hc.out]) (by (repeat (first | (with_reducible exact Grow.refl _) | assumption | refine Grow.ext ?_ _ | refine Grow.alloc ?_ _ | refine Grow.drew ?_ | refine Grow.setCell ?_ (by first | (simp; done) | (simp; omega)) _ | refine Grow.trans ?_ (by assumption))))
    · have H4 := Lib.hid h4
      replace h4 : (x.jump.kind == 4) = false := by simp [h4]
      go_enter Try.func89, Try.ntmps89
      go_wp2_with (first | (go_at_call 90; ((with_reducible refine (contains_St (by simp) (hM.grow (by (repeat (first | (with_reducible exact Grow.refl _) | assumption | refine Grow.ext ?_ _ | refine Grow.alloc ?_ _ | refine Grow.drew ?_ | refine Grow.setCell ?_ (by first | (simp; done) | (simp; omega)) _ | refine Grow.trans ?_ (by assumption))))) x.stmts _ (h1.mono (by (repeat (first | (with_reducible exact Grow.refl _) | assumption | refine Grow.ext ?_ _ | refine Grow.alloc ?_ _ | refine Grow.drew ?_ | refine Grow.setCell ?_ (by first | (simp; done) | (simp; omega)) _ | refine Grow.trans ?_ (by assumption))))) (fun _ _ => trivial)).mono ?_); rintro e w1 ⟨rfl, hb1⟩; obtain ⟨x1, rfl⟩ := ext_of_grow hb1; clear hb1)))
      go_ret
      exact Ret.bool (by unfold rawB; rw [hmk]; simp [H4.out]) (by (repeat (first | (with_reducible exact Grow.refl _) | assumption | refine Grow.ext ?_ _ | refine Grow.alloc ?_ _ | refine Grow.drew ?_ | refine Grow.setCell ?_ (by first | (simp; done) | (simp; omega)) _ | refine Grow.trans ?_ (by assumption))))
  · go_enter Try.func89, Try.ntmps89
    go_wp2_with (first | (go_at_call 90; ((with_reducible refine (contains_St (by simp) (hM.grow (by (repeat (first | (with_reducible exact Grow.refl _) | assumption | refine Grow.ext ?_ _ | refine Grow.alloc ?_ _ | refine Grow.drew ?_ | refine Grow.setCell ?_ (by first | (simp; done) | (simp; omega)) _ | refine Grow.trans ?_ (by assumption))))) x.stmts _ (h1.mono (by (repeat (first | (with_reducible exact Grow.refl _) | assumption | refine Grow.ext ?_ _ | refine Grow.alloc ?_ _ | refine Grow.drew ?_ | refine Grow.setCell ?_ (by first | (simp; done) | (simp; omega)) _ | refine Grow.trans ?_ (by assumption))))) (fun _ _ => trivial)).mono ?_); rintro e w1 ⟨rfl, hb1⟩; obtain ⟨x1, rfl⟩ := ext_of_grow hb1; clear hb1)))
    go_ret
    exact Ret.bool (by unfold rawB; rw [hmk]; rfl) (by (repeat (first | (with_reducible exact Grow.refl _) | assumption | refine Grow.ext ?_ _ | refine Grow.alloc ?_ _ | refine Grow.drew ?_ | refine Grow.setCell ?_ (by first | (simp; done) | (simp; omega)) _ | refine Grow.trans ?_ (by assumption))))
theorem blocks_ok {p : Pr} (h : prErr p = 0) {f : Fn} (hf : f ∈ p.funcs) : ∀ b ∈ f.blocks, juErr b.jump = 0 ∧ callB p.funcs b = true := fun b hb =>
  ⟨(made_all (fn_good ((pr_ok h).2.2.1 f hf)).2.1 hb).2, List.all_eq_true.1 (List.all_eq_true.1 (pr_ok h).2.2.2.2 f hf) b hb⟩
set_option maxHeartbeats 1000000 in
theorem safety_raw (p : Pr) (f : Fn) (pv v1 v2 : Value) (w : World) {F : Nat → Prop} (hp : Sl F w pv p.funcs) (h1 : Sl F w v1 f.locals) (h2 : Sl F w v2 f.blocks) (hok : ∀ b ∈ f.blocks, juErr b.jump = 0 ∧ callB p.funcs b = true) :
    Calls Try.prog 67 #[p.v pv, f.v v1 v2] w (Ret w (.bool (rawF p f))) := by
  obtain ⟨a, n, cap, rfl, Hn, hm, hcap, hcm, hp⟩ := hp.open
  obtain ⟨a1, n1, cap1, rfl, Hn1, hm1, hcap1, hcm1, h1⟩ := h1.open
  obtain ⟨a2, n2, cap2, rfl, Hn2, hm2, hcap2, hcm2, h2⟩ := h2.open
  have Hok := Lib.hid hok; clear hok
  cases hl : f.locals.any isRaw
  · go_enter Try.func67, Try.ntmps67
    go_wp2_with (first | (go_at_call 76; ((with_reducible refine (contains_Ty (by simp) (pointer_pred F _) f.locals _ (h1.mono (by (repeat (first | (with_reducible exact Grow.refl _) | assumption | refine Grow.ext ?_ _ | refine Grow.alloc ?_ _ | refine Grow.drew ?_ | refine Grow.setCell ?_ (by first | (simp; done) | (simp; omega)) _ | refine Grow.trans ?_ (by assumption))))) (fun _ _ => trivial)).mono ?_); rintro e w1 ⟨rfl, hb1⟩; obtain ⟨x1, rfl⟩ := ext_of_grow hb1; clear hb1)) | (go_at_call 81; ((with_reducible refine (contains_Bk (by simp) (raw1_pred p a n cap w.heap.size F _ (hp.mono (by (repeat (first | (with_reducible exact Grow.refl _) | assumption | refine Grow.ext ?_ _ | refine Grow.alloc ?_ _ | refine Grow.drew ?_ | refine Grow.setCell ?_ (by first | (simp; done) | (simp; omega)) _ | refine Grow.trans ?_ (by assumption))))) inferInstance (by go_simp)) f.blocks _ (h2.mono (by (repeat (first | (with_reducible exact Grow.refl _) | assumption | refine Grow.ext ?_ _ | refine Grow.alloc ?_ _ | refine Grow.drew ?_ | refine Grow.setCell ?_ (by first | (simp; done) | (simp; omega)) _ | refine Grow.trans ?_ (by assumption))))) Hok.out).mono ?_); rintro e w2 ⟨rfl, hb2⟩; obtain ⟨x2, rfl⟩ := ext_of_grow hb2; clear hb2)))
    go_ret
    exact Ret.bool (by unfold rawF; rw [hl]; rfl) (by (repeat (first | (with_reducible exact Grow.refl _) | assumption | refine Grow.ext ?_ _ | refine Grow.alloc ?_ _ | refine Grow.drew ?_ | refine Grow.setCell ?_ (by first | (simp; done) | (simp; omega)) _ | refine Grow.trans ?_ (by assumption))))
  · go_enter Try.func67, Try.ntmps67
    go_wp2_with (first | (go_at_call 76; ((with_reducible refine (contains_Ty (by simp) (pointer_pred F _) f.locals _ (h1.mono (by (repeat (first | (with_reducible exact Grow.refl _) | assumption | refine Grow.ext ?_ _ | refine Grow.alloc ?_ _ | refine Grow.drew ?_ | refine Grow.setCell ?_ (by first | (simp; done) | (simp; omega)) _ | refine Grow.trans ?_ (by assumption))))) (fun _ _ => trivial)).mono ?_); rintro e w1 ⟨rfl, hb1⟩; obtain ⟨x1, rfl⟩ := ext_of_grow hb1; clear hb1)))
    go_ret
    exact Ret.bool (by unfold rawF; rw [hl]; rfl) (by (repeat (first | (with_reducible exact Grow.refl _) | assumption | refine Grow.ext ?_ _ | refine Grow.alloc ?_ _ | refine Grow.drew ?_ | refine Grow.setCell ?_ (by first | (simp; done) | (simp; omega)) _ | refine Grow.trans ?_ (by assumption))))
end Go.Proofs.Ytiikhfjdpaofdaa
