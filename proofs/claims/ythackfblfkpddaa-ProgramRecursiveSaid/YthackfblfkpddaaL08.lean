/- Layer 8: lists that a function says yes to. -/
import Derived.Test.YthackfblfkpddaaL07x
namespace Go.Proofs.Ythackfblfkpddaa
open Go.RowKit
set_option linter.unusedSimpArgs false
set_option linter.unusedVariables false

def PredTy (k : Nat) (caps : Array Value) (F : Nat → Prop) (W : World) (G : Ty → Prop) (p : Ty → Bool) : Prop :=
  ∀ (w : World) (x : Ty), Grow W w → x.wf → G x → Calls Try.prog k (#[x.v] ++ caps) w (Ret w (.bool (p x)))
theorem PredTy.at {k : Nat} {caps : Array Value} {F : Nat → Prop} {W : World} {G : Ty → Prop} {p : Ty → Bool} (h : PredTy k caps F W G p) (w : World) (x : Ty) (hg : Grow W w) (hw : x.wf) (hG : G x) : Calls Try.prog k (#[x.v] ++ caps) w (Ret w (.bool (p x))) := h w x  hg hw hG
theorem PredTy.grow {k : Nat} {caps : Array Value} {F : Nat → Prop} {W W' : World} {G : Ty → Prop} {p : Ty → Bool} (h : PredTy k caps F W G p) (g : Grow W W') : PredTy k caps F W' G p :=
  fun w x  hg => h w x  (g.trans hg)
set_option maxHeartbeats 1000000 in
theorem index_Ty {k : Nat} {caps : Array Value} {F : Nat → Prop} {w : World} {G : Ty → Prop} {p : Ty → Bool} (hk : (k = 74)) (hP : PredTy k caps F w G p) (l : List Ty) (v : Value) (hl : Sl F w v l) (hG : ∀ x ∈ l, G x) :
    Calls Try.prog 97 #[v, .func (.func k) #[] caps] w (RetP w fun u _ => ∃ i : Int, u = .int .i64 i ∧ (0 ≤ i ↔ l.any p = true) ∧ I64 i) := by
  obtain ⟨a, n, cap, rfl, Hn, hm, hcap, hcm, hl⟩ := hl.open
  rcases hk with rfl
  all_goals
   go_enter Try.func97, Try.ntmps97
   go_wp2_with fail
   go_loopw [8] (fun i wr => ∃ (q : Nat), q ≤ n ∧ i = .int .i64 q ∧ Grow w wr ∧ Hid ((l.take q).all (fun x => !p x) = true)) (fun i _ => n - (intOf i).toNat)
   case atStart => exact ⟨0, Nat.zero_le _, rfl, (by (repeat (first | (with_reducible exact Grow.refl _) | assumption | refine Grow.ext ?_ _ | refine Grow.alloc ?_ _ | refine Grow.drew ?_ | refine Grow.setCell ?_ (by first | (simp; done) | (simp; omega)) _ | refine Grow.trans ?_ (by assumption)))), rfl⟩
   case round =>
     obtain ⟨q, hq, rfl, hb1, Ha⟩ := hrel
     obtain ⟨y1, rfl⟩ := ext_of_grow hb1
     by_cases hlt : q < n
     · obtain ⟨b_x, off_x, x, rfl, ⟨Hg_x, hl_x, hw_x, c_x0, c_x1, r_x0⟩⟩ := hl.ty q hlt
       have Hm := Lib.hid (hG x (List.mem_of_getElem? Hg_x.out))
       cases hp : p x
       · go_wp2_with (first | (go_at_call 74; go_must (with_reducible refine (hP.at _ x  (by (repeat (first | (with_reducible exact Grow.refl _) | assumption | refine Grow.ext ?_ _ | refine Grow.alloc ?_ _ | refine Grow.drew ?_ | refine Grow.setCell ?_ (by first | (simp; done) | (simp; omega)) _ | refine Grow.trans ?_ (by assumption)))) hw_x Hm.out).mono ?_); rintro e w2 ⟨rfl, hb2⟩; obtain ⟨x2, rfl⟩ := ext_of_grow hb2; clear hb2))
         go_roundw
         case rel => exact ⟨q + 1, by omega, by go_num, (by (repeat (first | (with_reducible exact Grow.refl _) | assumption | refine Grow.ext ?_ _ | refine Grow.alloc ?_ _ | refine Grow.drew ?_ | refine Grow.setCell ?_ (by first | (simp; done) | (simp; omega)) _ | refine Grow.trans ?_ (by assumption)))), all_step Hg_x Ha (by simp [hp])⟩
         case measure => simp [intOf]; omega
       · go_wp2_with (first | (go_at_call 74; go_must (with_reducible refine (hP.at _ x  (by (repeat (first | (with_reducible exact Grow.refl _) | assumption | refine Grow.ext ?_ _ | refine Grow.alloc ?_ _ | refine Grow.drew ?_ | refine Grow.setCell ?_ (by first | (simp; done) | (simp; omega)) _ | refine Grow.trans ?_ (by assumption)))) hw_x Hm.out).mono ?_); rintro e w2 ⟨rfl, hb2⟩; obtain ⟨x2, rfl⟩ := ext_of_grow hb2; clear hb2))
         go_ret
         exact RetP.mk ⟨_, rfl, ⟨fun _ => List.any_eq_true.2 ⟨x, List.mem_of_getElem? Hg_x.out, hp⟩, fun _ => by omega⟩, ⟨by omega, by omega⟩⟩ (by (repeat (first | (with_reducible exact Grow.refl _) | assumption | refine Grow.ext ?_ _ | refine Grow.alloc ?_ _ | refine Grow.drew ?_ | refine Grow.setCell ?_ (by first | (simp; done) | (simp; omega)) _ | refine Grow.trans ?_ (by assumption))))
     · go_wp2_with fail
       go_ret
       have Hall := all_end Hn (by omega) Ha
       refine RetP.mk ⟨_, rfl, ⟨fun h => by omega, fun h => ?_⟩, ⟨by omega, by omega⟩⟩ (by (repeat (first | (with_reducible exact Grow.refl _) | assumption | refine Grow.ext ?_ _ | refine Grow.alloc ?_ _ | refine Grow.drew ?_ | refine Grow.setCell ?_ (by first | (simp; done) | (simp; omega)) _ | refine Grow.trans ?_ (by assumption))))
       exfalso
       obtain ⟨x, hx, hp⟩ := List.any_eq_true.1 h
       have := List.all_eq_true.1 Hall x hx
       simp [hp] at this
set_option maxHeartbeats 1000000 in
theorem contains_Ty {k : Nat} {caps : Array Value} {F : Nat → Prop} {w : World} {G : Ty → Prop} {p : Ty → Bool} (hk : (k = 74)) (hP : PredTy k caps F w G p) (l : List Ty) (v : Value) (hl : Sl F w v l) (hG : ∀ x ∈ l, G x) :
    Calls Try.prog 73 #[v, .func (.func k) #[] caps] w (Ret w (.bool (l.any p))) := by
  obtain ⟨a, n, cap, rfl, Hn, hm, hcap, hcm, hl⟩ := hl.open
  have HG := Lib.hid hG; clear hG
  rcases hk with rfl
  all_goals
   go_enter Try.func73, Try.ntmps73
   go_wp2_with (first | (go_at_call 97; go_must (with_reducible refine (index_Ty (by simp) hP l _ hl HG.out).mono ?_); rintro e w2 ⟨_, rfl, ⟨i, rfl, hi, hi2⟩, hb2⟩; have Hi := Lib.hid hi; clear hi; obtain ⟨x2, rfl⟩ := ext_of_grow hb2; clear hb2))
  all_goals go_ret
  all_goals (refine Ret.bool ?_ (by (repeat (first | (with_reducible exact Grow.refl _) | assumption | refine Grow.ext ?_ _ | refine Grow.alloc ?_ _ | refine Grow.drew ?_ | refine Grow.setCell ?_ (by first | (simp; done) | (simp; omega)) _ | refine Grow.trans ?_ (by assumption)))))
  all_goals (have hi := Hi.out; rw [Bool.eq_iff_iff]; first | (rw [decide_eq_true_iff]; exact hi) | (simp only [decide_eq_true_eq]; exact hi) | grind)
set_option maxHeartbeats 1000000 in
theorem allf_Ty {k : Nat} {caps : Array Value} {F : Nat → Prop} {W : World} {G : Ty → Prop} {p : Ty → Bool} (hk : (k = 50)) (hP : PredTy k caps F W G p) (b : Nat) (hb : LtW b W) (hc : W.cell? ⟨b, 0, none⟩ = some (.func (.func k) #[] caps)) :
    PredTy 74 #[.pointer (some ⟨b, 0, none⟩)] F W G (fun x => !p x) := by
  intro w x  hg hw hGx
  obtain ⟨y, rfl⟩ := ext_of_grow hg
  have HG := Lib.hid hGx; clear hGx
  rcases hk with rfl
  go_enter Try.func74, Try.ntmps74
  go_wp2_with (first | (go_at_call 50; go_must (with_reducible refine (hP.at _ x  (by (repeat (first | (with_reducible exact Grow.refl _) | assumption | refine Grow.ext ?_ _ | refine Grow.alloc ?_ _ | refine Grow.drew ?_ | refine Grow.setCell ?_ (by first | (simp; done) | (simp; omega)) _ | refine Grow.trans ?_ (by assumption)))) hw HG.out).mono ?_); rintro e w2 ⟨rfl, hb2⟩; obtain ⟨x2, rfl⟩ := ext_of_grow hb2; clear hb2))
  go_ret
  exact Ret.bool rfl (by (repeat (first | (with_reducible exact Grow.refl _) | assumption | refine Grow.ext ?_ _ | refine Grow.alloc ?_ _ | refine Grow.drew ?_ | refine Grow.setCell ?_ (by first | (simp; done) | (simp; omega)) _ | refine Grow.trans ?_ (by assumption))))
set_option maxHeartbeats 1000000 in
theorem all_Ty {k : Nat} {caps : Array Value} {F : Nat → Prop} {w : World} {G : Ty → Prop} {p : Ty → Bool} (hk : (k = 50)) (hP : PredTy k caps F w G p) (l : List Ty) (v : Value) (hl : Sl F w v l) (hG : ∀ x ∈ l, G x) :
    Calls Try.prog 49 #[v, .func (.func k) #[] caps] w (Ret w (.bool (l.all p))) := by
  obtain ⟨a, n, cap, rfl, Hn, hm, hcap, hcm, hl⟩ := hl.open
  have HG := Lib.hid hG; clear hG
  rcases hk with rfl
  go_enter Try.func49, Try.ntmps49
  go_wp2_with (first | (go_at_call 73; go_must (with_reducible refine (contains_Ty (by simp) (allf_Ty (by simp) (hP.grow (by (repeat (first | (with_reducible exact Grow.refl _) | assumption | refine Grow.ext ?_ _ | refine Grow.alloc ?_ _ | refine Grow.drew ?_ | refine Grow.setCell ?_ (by first | (simp; done) | (simp; omega)) _ | refine Grow.trans ?_ (by assumption))))) w.heap.size inferInstance (by go_simp)) l _ (hl.mono (by (repeat (first | (with_reducible exact Grow.refl _) | assumption | refine Grow.ext ?_ _ | refine Grow.alloc ?_ _ | refine Grow.drew ?_ | refine Grow.setCell ?_ (by first | (simp; done) | (simp; omega)) _ | refine Grow.trans ?_ (by assumption))))) HG.out).mono ?_); rintro e w2 ⟨rfl, hb2⟩; obtain ⟨x2, rfl⟩ := ext_of_grow hb2; clear hb2))
  go_ret
  refine Ret.bool ?_ (by (repeat (first | (with_reducible exact Grow.refl _) | assumption | refine Grow.ext ?_ _ | refine Grow.alloc ?_ _ | refine Grow.drew ?_ | refine Grow.setCell ?_ (by first | (simp; done) | (simp; omega)) _ | refine Grow.trans ?_ (by assumption))))
  rw [List.any_eq_not_all_not]; simp

def PredBk (k : Nat) (caps : Array Value) (F : Nat → Prop) (W : World) (G : Bk → Prop) (p : Bk → Bool) : Prop :=
  ∀ (w : World) (x : Bk) (u1 u2 : Value), Grow W w → x.wf → G x → Sl F w u1 x.stmts → Sl F w u2 x.jump.args → Calls Try.prog k (#[x.v u1 u2] ++ caps) w (Ret w (.bool (p x)))
theorem PredBk.at {k : Nat} {caps : Array Value} {F : Nat → Prop} {W : World} {G : Bk → Prop} {p : Bk → Bool} (h : PredBk k caps F W G p) (w : World) (x : Bk) (u1 u2 : Value) (hg : Grow W w) (hw : x.wf) (hG : G x) (h1 : Sl F w u1 x.stmts) (h2 : Sl F w u2 x.jump.args) : Calls Try.prog k (#[x.v u1 u2] ++ caps) w (Ret w (.bool (p x))) := h w x u1 u2 hg hw hG h1 h2
theorem PredBk.grow {k : Nat} {caps : Array Value} {F : Nat → Prop} {W W' : World} {G : Bk → Prop} {p : Bk → Bool} (h : PredBk k caps F W G p) (g : Grow W W') : PredBk k caps F W' G p :=
  fun w x u1 u2 hg => h w x u1 u2 (g.trans hg)
set_option maxHeartbeats 1000000 in
theorem index_Bk {k : Nat} {caps : Array Value} {F : Nat → Prop} {w : World} {G : Bk → Prop} {p : Bk → Bool} (hk : (k = 79)) (hP : PredBk k caps F w G p) (l : List Bk) (v : Value) (hl : Sl F w v l) (hG : ∀ x ∈ l, G x) :
    Calls Try.prog 99 #[v, .func (.func k) #[] caps] w (RetP w fun u _ => ∃ i : Int, u = .int .i64 i ∧ (0 ≤ i ↔ l.any p = true) ∧ I64 i) := by
  obtain ⟨a, n, cap, rfl, Hn, hm, hcap, hcm, hl⟩ := hl.open
  rcases hk with rfl
  all_goals
   go_enter Try.func99, Try.ntmps99
   go_wp2_with fail
   go_loopw [8] (fun i wr => ∃ (q : Nat), q ≤ n ∧ i = .int .i64 q ∧ Grow w wr ∧ Hid ((l.take q).all (fun x => !p x) = true)) (fun i _ => n - (intOf i).toNat)
   case atStart => exact ⟨0, Nat.zero_le _, rfl, (by (repeat (first | (with_reducible exact Grow.refl _) | assumption | refine Grow.ext ?_ _ | refine Grow.alloc ?_ _ | refine Grow.drew ?_ | refine Grow.setCell ?_ (by first | (simp; done) | (simp; omega)) _ | refine Grow.trans ?_ (by assumption)))), rfl⟩
   case round =>
     obtain ⟨q, hq, rfl, hb1, Ha⟩ := hrel
     obtain ⟨y1, rfl⟩ := ext_of_grow hb1
     by_cases hlt : q < n
     · obtain ⟨b_x, off_x, x, x_stmts_a, x_stmts_n, x_stmts_c, x_jump_args_a, x_jump_args_n, x_jump_args_c, rfl, ⟨Hg_x, hl_x, hw_x, x_stmts, x_jump_args, c_x0, c_x1, c_x2, c_x3, c_x4, c_x5, c_x6, c_x7, c_x8, c_x9, c_x10, c_x11, c_x12, c_x13, r_x0, r_x1, r_x2, r_x3, r_x4⟩⟩ := hl.bk q hlt
       have Hm := Lib.hid (hG x (List.mem_of_getElem? Hg_x.out))
       cases hp : p x
       · go_wp2_with (first | (go_at_call 79; go_must (with_reducible refine (hP.at _ x _ _ (by (repeat (first | (with_reducible exact Grow.refl _) | assumption | refine Grow.ext ?_ _ | refine Grow.alloc ?_ _ | refine Grow.drew ?_ | refine Grow.setCell ?_ (by first | (simp; done) | (simp; omega)) _ | refine Grow.trans ?_ (by assumption)))) hw_x Hm.out (x_stmts.mono (by (repeat (first | (with_reducible exact Grow.refl _) | assumption | refine Grow.ext ?_ _ | refine Grow.alloc ?_ _ | refine Grow.drew ?_ | refine Grow.setCell ?_ (by first | (simp; done) | (simp; omega)) _ | refine Grow.trans ?_ (by assumption))))) (x_jump_args.mono (by (repeat (first | (with_reducible exact Grow.refl _) | assumption | refine Grow.ext ?_ _ | refine Grow.alloc ?_ _ | refine Grow.drew ?_ | refine Grow.setCell ?_ (by first | (simp; done) | (simp; omega)) _ | refine Grow.trans ?_ (by assumption)))))).mono ?_); rintro e w2 ⟨rfl, hb2⟩; obtain ⟨x2, rfl⟩ := ext_of_grow hb2; clear hb2))
         go_roundw
         case rel => exact ⟨q + 1, by omega, by go_num, (by (repeat (first | (with_reducible exact Grow.refl _) | assumption | refine Grow.ext ?_ _ | refine Grow.alloc ?_ _ | refine Grow.drew ?_ | refine Grow.setCell ?_ (by first | (simp; done) | (simp; omega)) _ | refine Grow.trans ?_ (by assumption)))), all_step Hg_x Ha (by simp [hp])⟩
         case measure => simp [intOf]; omega
       · go_wp2_with (first | (go_at_call 79; go_must (with_reducible refine (hP.at _ x _ _ (by (repeat (first | (with_reducible exact Grow.refl _) | assumption | refine Grow.ext ?_ _ | refine Grow.alloc ?_ _ | refine Grow.drew ?_ | refine Grow.setCell ?_ (by first | (simp; done) | (simp; omega)) _ | refine Grow.trans ?_ (by assumption)))) hw_x Hm.out (x_stmts.mono (by (repeat (first | (with_reducible exact Grow.refl _) | assumption | refine Grow.ext ?_ _ | refine Grow.alloc ?_ _ | refine Grow.drew ?_ | refine Grow.setCell ?_ (by first | (simp; done) | (simp; omega)) _ | refine Grow.trans ?_ (by assumption))))) (x_jump_args.mono (by (repeat (first | (with_reducible exact Grow.refl _) | assumption | refine Grow.ext ?_ _ | refine Grow.alloc ?_ _ | refine Grow.drew ?_ | refine Grow.setCell ?_ (by first | (simp; done) | (simp; omega)) _ | refine Grow.trans ?_ (by assumption)))))).mono ?_); rintro e w2 ⟨rfl, hb2⟩; obtain ⟨x2, rfl⟩ := ext_of_grow hb2; clear hb2))
         go_ret
         exact RetP.mk ⟨_, rfl, ⟨fun _ => List.any_eq_true.2 ⟨x, List.mem_of_getElem? Hg_x.out, hp⟩, fun _ => by omega⟩, ⟨by omega, by omega⟩⟩ (by (repeat (first | (with_reducible exact Grow.refl _) | assumption | refine Grow.ext ?_ _ | refine Grow.alloc ?_ _ | refine Grow.drew ?_ | refine Grow.setCell ?_ (by first | (simp; done) | (simp; omega)) _ | refine Grow.trans ?_ (by assumption))))
     · go_wp2_with fail
       go_ret
       have Hall := all_end Hn (by omega) Ha
       refine RetP.mk ⟨_, rfl, ⟨fun h => by omega, fun h => ?_⟩, ⟨by omega, by omega⟩⟩ (by (repeat (first | (with_reducible exact Grow.refl _) | assumption | refine Grow.ext ?_ _ | refine Grow.alloc ?_ _ | refine Grow.drew ?_ | refine Grow.setCell ?_ (by first | (simp; done) | (simp; omega)) _ | refine Grow.trans ?_ (by assumption))))
       exfalso
       obtain ⟨x, hx, hp⟩ := List.any_eq_true.1 h
       have := List.all_eq_true.1 Hall x hx
       simp [hp] at this
set_option maxHeartbeats 1000000 in
theorem contains_Bk {k : Nat} {caps : Array Value} {F : Nat → Prop} {w : World} {G : Bk → Prop} {p : Bk → Bool} (hk : (k = 79)) (hP : PredBk k caps F w G p) (l : List Bk) (v : Value) (hl : Sl F w v l) (hG : ∀ x ∈ l, G x) :
    Calls Try.prog 78 #[v, .func (.func k) #[] caps] w (Ret w (.bool (l.any p))) := by
  obtain ⟨a, n, cap, rfl, Hn, hm, hcap, hcm, hl⟩ := hl.open
  have HG := Lib.hid hG; clear hG
  rcases hk with rfl
  all_goals
   go_enter Try.func78, Try.ntmps78
   go_wp2_with (first | (go_at_call 99; go_must (with_reducible refine (index_Bk (by simp) hP l _ hl HG.out).mono ?_); rintro e w2 ⟨_, rfl, ⟨i, rfl, hi, hi2⟩, hb2⟩; have Hi := Lib.hid hi; clear hi; obtain ⟨x2, rfl⟩ := ext_of_grow hb2; clear hb2))
  all_goals go_ret
  all_goals (refine Ret.bool ?_ (by (repeat (first | (with_reducible exact Grow.refl _) | assumption | refine Grow.ext ?_ _ | refine Grow.alloc ?_ _ | refine Grow.drew ?_ | refine Grow.setCell ?_ (by first | (simp; done) | (simp; omega)) _ | refine Grow.trans ?_ (by assumption)))))
  all_goals (have hi := Hi.out; rw [Bool.eq_iff_iff]; first | (rw [decide_eq_true_iff]; exact hi) | (simp only [decide_eq_true_eq]; exact hi) | grind)
set_option maxHeartbeats 1000000 in
theorem allf_Bk {k : Nat} {caps : Array Value} {F : Nat → Prop} {W : World} {G : Bk → Prop} {p : Bk → Bool} (hk : (k = 48)) (hP : PredBk k caps F W G p) (b : Nat) (hb : LtW b W) (hc : W.cell? ⟨b, 0, none⟩ = some (.func (.func k) #[] caps)) :
    PredBk 79 #[.pointer (some ⟨b, 0, none⟩)] F W G (fun x => !p x) := by
  intro w x u1 u2 hg hw hGx h1 h2
  obtain ⟨y, rfl⟩ := ext_of_grow hg
  obtain ⟨a1, n1, cap1, rfl, Hn1, hm1, hcap1, hcm1, h1⟩ := h1.open
  obtain ⟨a2, n2, cap2, rfl, Hn2, hm2, hcap2, hcm2, h2⟩ := h2.open
  have HG := Lib.hid hGx; clear hGx
  rcases hk with rfl
  go_enter Try.func79, Try.ntmps79
  go_wp2_with (first | (go_at_call 48; go_must (with_reducible refine (hP.at _ x _ _ (by (repeat (first | (with_reducible exact Grow.refl _) | assumption | refine Grow.ext ?_ _ | refine Grow.alloc ?_ _ | refine Grow.drew ?_ | refine Grow.setCell ?_ (by first | (simp; done) | (simp; omega)) _ | refine Grow.trans ?_ (by assumption)))) hw HG.out (h1.mono (by (repeat (first | (with_reducible exact Grow.refl _) | assumption | refine Grow.ext ?_ _ | refine Grow.alloc ?_ _ | refine Grow.drew ?_ | refine Grow.setCell ?_ (by first | (simp; done) | (simp; omega)) _ | refine Grow.trans ?_ (by assumption))))) (h2.mono (by (repeat (first | (with_reducible exact Grow.refl _) | assumption | refine Grow.ext ?_ _ | refine Grow.alloc ?_ _ | refine Grow.drew ?_ | refine Grow.setCell ?_ (by first | (simp; done) | (simp; omega)) _ | refine Grow.trans ?_ (by assumption)))))).mono ?_); rintro e w2 ⟨rfl, hb2⟩; obtain ⟨x2, rfl⟩ := ext_of_grow hb2; clear hb2))
  go_ret
  exact Ret.bool rfl (by (repeat (first | (with_reducible exact Grow.refl _) | assumption | refine Grow.ext ?_ _ | refine Grow.alloc ?_ _ | refine Grow.drew ?_ | refine Grow.setCell ?_ (by first | (simp; done) | (simp; omega)) _ | refine Grow.trans ?_ (by assumption))))
set_option maxHeartbeats 1000000 in
theorem all_Bk {k : Nat} {caps : Array Value} {F : Nat → Prop} {w : World} {G : Bk → Prop} {p : Bk → Bool} (hk : (k = 48)) (hP : PredBk k caps F w G p) (l : List Bk) (v : Value) (hl : Sl F w v l) (hG : ∀ x ∈ l, G x) :
    Calls Try.prog 54 #[v, .func (.func k) #[] caps] w (Ret w (.bool (l.all p))) := by
  obtain ⟨a, n, cap, rfl, Hn, hm, hcap, hcm, hl⟩ := hl.open
  have HG := Lib.hid hG; clear hG
  rcases hk with rfl
  go_enter Try.func54, Try.ntmps54
  go_wp2_with (first | (go_at_call 78; go_must (with_reducible refine (contains_Bk (by simp) (allf_Bk (by simp) (hP.grow (by (repeat (first | (with_reducible exact Grow.refl _) | assumption | refine Grow.ext ?_ _ | refine Grow.alloc ?_ _ | refine Grow.drew ?_ | refine Grow.setCell ?_ (by first | (simp; done) | (simp; omega)) _ | refine Grow.trans ?_ (by assumption))))) w.heap.size inferInstance (by go_simp)) l _ (hl.mono (by (repeat (first | (with_reducible exact Grow.refl _) | assumption | refine Grow.ext ?_ _ | refine Grow.alloc ?_ _ | refine Grow.drew ?_ | refine Grow.setCell ?_ (by first | (simp; done) | (simp; omega)) _ | refine Grow.trans ?_ (by assumption))))) HG.out).mono ?_); rintro e w2 ⟨rfl, hb2⟩; obtain ⟨x2, rfl⟩ := ext_of_grow hb2; clear hb2))
  go_ret
  refine Ret.bool ?_ (by (repeat (first | (with_reducible exact Grow.refl _) | assumption | refine Grow.ext ?_ _ | refine Grow.alloc ?_ _ | refine Grow.drew ?_ | refine Grow.setCell ?_ (by first | (simp; done) | (simp; omega)) _ | refine Grow.trans ?_ (by assumption))))
  rw [List.any_eq_not_all_not]; simp

def PredFn (k : Nat) (caps : Array Value) (F : Nat → Prop) (W : World) (G : Fn → Prop) (p : Fn → Bool) : Prop :=
  ∀ (w : World) (x : Fn) (u1 u2 : Value), Grow W w → x.wf → G x → Sl F w u1 x.locals → Sl F w u2 x.blocks → Calls Try.prog k (#[x.v u1 u2] ++ caps) w (Ret w (.bool (p x)))
theorem PredFn.at {k : Nat} {caps : Array Value} {F : Nat → Prop} {W : World} {G : Fn → Prop} {p : Fn → Bool} (h : PredFn k caps F W G p) (w : World) (x : Fn) (u1 u2 : Value) (hg : Grow W w) (hw : x.wf) (hG : G x) (h1 : Sl F w u1 x.locals) (h2 : Sl F w u2 x.blocks) : Calls Try.prog k (#[x.v u1 u2] ++ caps) w (Ret w (.bool (p x))) := h w x u1 u2 hg hw hG h1 h2
theorem PredFn.grow {k : Nat} {caps : Array Value} {F : Nat → Prop} {W W' : World} {G : Fn → Prop} {p : Fn → Bool} (h : PredFn k caps F W G p) (g : Grow W W') : PredFn k caps F W' G p :=
  fun w x u1 u2 hg => h w x u1 u2 (g.trans hg)
set_option maxHeartbeats 1000000 in
theorem index_Fn {k : Nat} {caps : Array Value} {F : Nat → Prop} {w : World} {G : Fn → Prop} {p : Fn → Bool} (hk : (k = 77)) (hP : PredFn k caps F w G p) (l : List Fn) (v : Value) (hl : Sl F w v l) (hG : ∀ x ∈ l, G x) :
    Calls Try.prog 98 #[v, .func (.func k) #[] caps] w (RetP w fun u _ => ∃ i : Int, u = .int .i64 i ∧ (0 ≤ i ↔ l.any p = true) ∧ I64 i) := by
  obtain ⟨a, n, cap, rfl, Hn, hm, hcap, hcm, hl⟩ := hl.open
  rcases hk with rfl
  all_goals
   go_enter Try.func98, Try.ntmps98
   go_wp2_with fail
   go_loopw [8] (fun i wr => ∃ (q : Nat), q ≤ n ∧ i = .int .i64 q ∧ Grow w wr ∧ Hid ((l.take q).all (fun x => !p x) = true)) (fun i _ => n - (intOf i).toNat)
   case atStart => exact ⟨0, Nat.zero_le _, rfl, (by (repeat (first | (with_reducible exact Grow.refl _) | assumption | refine Grow.ext ?_ _ | refine Grow.alloc ?_ _ | refine Grow.drew ?_ | refine Grow.setCell ?_ (by first | (simp; done) | (simp; omega)) _ | refine Grow.trans ?_ (by assumption)))), rfl⟩
   case round =>
     obtain ⟨q, hq, rfl, hb1, Ha⟩ := hrel
     obtain ⟨y1, rfl⟩ := ext_of_grow hb1
     by_cases hlt : q < n
     · obtain ⟨b_x, off_x, x, x_locals_a, x_locals_n, x_locals_c, x_blocks_a, x_blocks_n, x_blocks_c, rfl, ⟨Hg_x, hl_x, hw_x, x_locals, x_blocks, c_x0, c_x1, c_x2, c_x3, r_x0⟩⟩ := hl.fn q hlt
       have Hm := Lib.hid (hG x (List.mem_of_getElem? Hg_x.out))
       cases hp : p x
       · go_wp2_with (first | (go_at_call 77; go_must (with_reducible refine (hP.at _ x _ _ (by (repeat (first | (with_reducible exact Grow.refl _) | assumption | refine Grow.ext ?_ _ | refine Grow.alloc ?_ _ | refine Grow.drew ?_ | refine Grow.setCell ?_ (by first | (simp; done) | (simp; omega)) _ | refine Grow.trans ?_ (by assumption)))) hw_x Hm.out (x_locals.mono (by (repeat (first | (with_reducible exact Grow.refl _) | assumption | refine Grow.ext ?_ _ | refine Grow.alloc ?_ _ | refine Grow.drew ?_ | refine Grow.setCell ?_ (by first | (simp; done) | (simp; omega)) _ | refine Grow.trans ?_ (by assumption))))) (x_blocks.mono (by (repeat (first | (with_reducible exact Grow.refl _) | assumption | refine Grow.ext ?_ _ | refine Grow.alloc ?_ _ | refine Grow.drew ?_ | refine Grow.setCell ?_ (by first | (simp; done) | (simp; omega)) _ | refine Grow.trans ?_ (by assumption)))))).mono ?_); rintro e w2 ⟨rfl, hb2⟩; obtain ⟨x2, rfl⟩ := ext_of_grow hb2; clear hb2))
         go_roundw
         case rel => exact ⟨q + 1, by omega, by go_num, (by (repeat (first | (with_reducible exact Grow.refl _) | assumption | refine Grow.ext ?_ _ | refine Grow.alloc ?_ _ | refine Grow.drew ?_ | refine Grow.setCell ?_ (by first | (simp; done) | (simp; omega)) _ | refine Grow.trans ?_ (by assumption)))), all_step Hg_x Ha (by simp [hp])⟩
         case measure => simp [intOf]; omega
       · go_wp2_with (first | (go_at_call 77; go_must (with_reducible refine (hP.at _ x _ _ (by (repeat (first | (with_reducible exact Grow.refl _) | assumption | refine Grow.ext ?_ _ | refine Grow.alloc ?_ _ | refine Grow.drew ?_ | refine Grow.setCell ?_ (by first | (simp; done) | (simp; omega)) _ | refine Grow.trans ?_ (by assumption)))) hw_x Hm.out (x_locals.mono (by (repeat (first | (with_reducible exact Grow.refl _) | assumption | refine Grow.ext ?_ _ | refine Grow.alloc ?_ _ | refine Grow.drew ?_ | refine Grow.setCell ?_ (by first | (simp; done) | (simp; omega)) _ | refine Grow.trans ?_ (by assumption))))) (x_blocks.mono (by (repeat (first | (with_reducible exact Grow.refl _) | assumption | refine Grow.ext ?_ _ | refine Grow.alloc ?_ _ | refine Grow.drew ?_ | refine Grow.setCell ?_ (by first | (simp; done) | (simp; omega)) _ | refine Grow.trans ?_ (by assumption)))))).mono ?_); rintro e w2 ⟨rfl, hb2⟩; obtain ⟨x2, rfl⟩ := ext_of_grow hb2; clear hb2))
         go_ret
         exact RetP.mk ⟨_, rfl, ⟨fun _ => List.any_eq_true.2 ⟨x, List.mem_of_getElem? Hg_x.out, hp⟩, fun _ => by omega⟩, ⟨by omega, by omega⟩⟩ (by (repeat (first | (with_reducible exact Grow.refl _) | assumption | refine Grow.ext ?_ _ | refine Grow.alloc ?_ _ | refine Grow.drew ?_ | refine Grow.setCell ?_ (by first | (simp; done) | (simp; omega)) _ | refine Grow.trans ?_ (by assumption))))
     · go_wp2_with fail
       go_ret
       have Hall := all_end Hn (by omega) Ha
       refine RetP.mk ⟨_, rfl, ⟨fun h => by omega, fun h => ?_⟩, ⟨by omega, by omega⟩⟩ (by (repeat (first | (with_reducible exact Grow.refl _) | assumption | refine Grow.ext ?_ _ | refine Grow.alloc ?_ _ | refine Grow.drew ?_ | refine Grow.setCell ?_ (by first | (simp; done) | (simp; omega)) _ | refine Grow.trans ?_ (by assumption))))
       exfalso
       obtain ⟨x, hx, hp⟩ := List.any_eq_true.1 h
       have := List.all_eq_true.1 Hall x hx
       simp [hp] at this
set_option maxHeartbeats 1000000 in
theorem contains_Fn {k : Nat} {caps : Array Value} {F : Nat → Prop} {w : World} {G : Fn → Prop} {p : Fn → Bool} (hk : (k = 77)) (hP : PredFn k caps F w G p) (l : List Fn) (v : Value) (hl : Sl F w v l) (hG : ∀ x ∈ l, G x) :
    Calls Try.prog 76 #[v, .func (.func k) #[] caps] w (Ret w (.bool (l.any p))) := by
  obtain ⟨a, n, cap, rfl, Hn, hm, hcap, hcm, hl⟩ := hl.open
  have HG := Lib.hid hG; clear hG
  rcases hk with rfl
  all_goals
   go_enter Try.func76, Try.ntmps76
   go_wp2_with (first | (go_at_call 98; go_must (with_reducible refine (index_Fn (by simp) hP l _ hl HG.out).mono ?_); rintro e w2 ⟨_, rfl, ⟨i, rfl, hi, hi2⟩, hb2⟩; have Hi := Lib.hid hi; clear hi; obtain ⟨x2, rfl⟩ := ext_of_grow hb2; clear hb2))
  all_goals go_ret
  all_goals (refine Ret.bool ?_ (by (repeat (first | (with_reducible exact Grow.refl _) | assumption | refine Grow.ext ?_ _ | refine Grow.alloc ?_ _ | refine Grow.drew ?_ | refine Grow.setCell ?_ (by first | (simp; done) | (simp; omega)) _ | refine Grow.trans ?_ (by assumption)))))
  all_goals (have hi := Hi.out; rw [Bool.eq_iff_iff]; first | (rw [decide_eq_true_iff]; exact hi) | (simp only [decide_eq_true_eq]; exact hi) | grind)
set_option maxHeartbeats 1000000 in
theorem allf_Fn {k : Nat} {caps : Array Value} {F : Nat → Prop} {W : World} {G : Fn → Prop} {p : Fn → Bool} (hk : (k = 53)) (hP : PredFn k caps F W G p) (b : Nat) (hb : LtW b W) (hc : W.cell? ⟨b, 0, none⟩ = some (.func (.func k) #[] caps)) :
    PredFn 77 #[.pointer (some ⟨b, 0, none⟩)] F W G (fun x => !p x) := by
  intro w x u1 u2 hg hw hGx h1 h2
  obtain ⟨y, rfl⟩ := ext_of_grow hg
  obtain ⟨a1, n1, cap1, rfl, Hn1, hm1, hcap1, hcm1, h1⟩ := h1.open
  obtain ⟨a2, n2, cap2, rfl, Hn2, hm2, hcap2, hcm2, h2⟩ := h2.open
  have HG := Lib.hid hGx; clear hGx
  rcases hk with rfl
  go_enter Try.func77, Try.ntmps77
  go_wp2_with (first | (go_at_call 53; go_must (with_reducible refine (hP.at _ x _ _ (by (repeat (first | (with_reducible exact Grow.refl _) | assumption | refine Grow.ext ?_ _ | refine Grow.alloc ?_ _ | refine Grow.drew ?_ | refine Grow.setCell ?_ (by first | (simp; done) | (simp; omega)) _ | refine Grow.trans ?_ (by assumption)))) hw HG.out (h1.mono (by (repeat (first | (with_reducible exact Grow.refl _) | assumption | refine Grow.ext ?_ _ | refine Grow.alloc ?_ _ | refine Grow.drew ?_ | refine Grow.setCell ?_ (by first | (simp; done) | (simp; omega)) _ | refine Grow.trans ?_ (by assumption))))) (h2.mono (by (repeat (first | (with_reducible exact Grow.refl _) | assumption | refine Grow.ext ?_ _ | refine Grow.alloc ?_ _ | refine Grow.drew ?_ | refine Grow.setCell ?_ (by first | (simp; done) | (simp; omega)) _ | refine Grow.trans ?_ (by assumption)))))).mono ?_); rintro e w2 ⟨rfl, hb2⟩; obtain ⟨x2, rfl⟩ := ext_of_grow hb2; clear hb2))
  go_ret
  exact Ret.bool rfl (by (repeat (first | (with_reducible exact Grow.refl _) | assumption | refine Grow.ext ?_ _ | refine Grow.alloc ?_ _ | refine Grow.drew ?_ | refine Grow.setCell ?_ (by first | (simp; done) | (simp; omega)) _ | refine Grow.trans ?_ (by assumption))))
set_option maxHeartbeats 1000000 in
theorem all_Fn {k : Nat} {caps : Array Value} {F : Nat → Prop} {w : World} {G : Fn → Prop} {p : Fn → Bool} (hk : (k = 53)) (hP : PredFn k caps F w G p) (l : List Fn) (v : Value) (hl : Sl F w v l) (hG : ∀ x ∈ l, G x) :
    Calls Try.prog 52 #[v, .func (.func k) #[] caps] w (Ret w (.bool (l.all p))) := by
  obtain ⟨a, n, cap, rfl, Hn, hm, hcap, hcm, hl⟩ := hl.open
  have HG := Lib.hid hG; clear hG
  rcases hk with rfl
  go_enter Try.func52, Try.ntmps52
  go_wp2_with (first | (go_at_call 76; go_must (with_reducible refine (contains_Fn (by simp) (allf_Fn (by simp) (hP.grow (by (repeat (first | (with_reducible exact Grow.refl _) | assumption | refine Grow.ext ?_ _ | refine Grow.alloc ?_ _ | refine Grow.drew ?_ | refine Grow.setCell ?_ (by first | (simp; done) | (simp; omega)) _ | refine Grow.trans ?_ (by assumption))))) w.heap.size inferInstance (by go_simp)) l _ (hl.mono (by (repeat (first | (with_reducible exact Grow.refl _) | assumption | refine Grow.ext ?_ _ | refine Grow.alloc ?_ _ | refine Grow.drew ?_ | refine Grow.setCell ?_ (by first | (simp; done) | (simp; omega)) _ | refine Grow.trans ?_ (by assumption))))) HG.out).mono ?_); rintro e w2 ⟨rfl, hb2⟩; obtain ⟨x2, rfl⟩ := ext_of_grow hb2; clear hb2))
  go_ret
  refine Ret.bool ?_ (by (repeat (first | (with_reducible exact Grow.refl _) | assumption | refine Grow.ext ?_ _ | refine Grow.alloc ?_ _ | refine Grow.drew ?_ | refine Grow.setCell ?_ (by first | (simp; done) | (simp; omega)) _ | refine Grow.trans ?_ (by assumption))))
  rw [List.any_eq_not_all_not]; simp
end Go.Proofs.Ythackfblfkpddaa
