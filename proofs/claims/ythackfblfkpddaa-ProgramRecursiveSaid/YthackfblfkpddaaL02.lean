/- Layers 2, 3, 13: types, places, and types of places. -/
import Derived.Test.YthackfblfkpddaaTypes
namespace Go.Proofs.Ythackfblfkpddaa
open Go.RowKit
set_option linter.unusedSimpArgs false
set_option linter.unusedVariables false

abbrev TyOk (t : Ty) : Prop := ((t.kind = 1 ∨ t.kind = 2) ∧ t.to = 0) ∨ ((3 ≤ t.kind ∧ t.kind ≤ 5) ∧ (t.to = 1 ∨ t.to = 2))
def tyErr (t : Ty) : Int := if TyOk t then 0 else 8
abbrev PlOk (p : Pl) : Prop := 0 ≤ p.loc ∧ p.loc < 16 ∧ p.field ≤ 2
def plErr (p : Pl) : Int := if PlOk p then 0 else 8
def LocOk (ts : List Ty) : Bool := decide (1 ≤ ts.length) && decide (ts.length ≤ 16) && ts.all (fun t => decide (TyOk t))
theorem tyErr_iff (t : Ty) : tyErr t = 0 ↔ TyOk t := by unfold tyErr; split <;> simp_all
theorem plErr_iff (t : Pl) : plErr t = 0 ↔ PlOk t := by unfold plErr; split <;> simp_all [PlOk]
theorem tyErr_or (t : Ty) : tyErr t = 0 ∨ tyErr t = 8 := by unfold tyErr; split <;> simp
theorem plErr_or (t : Pl) : plErr t = 0 ∨ plErr t = 8 := by unfold plErr; split <;> simp

theorem all_step {α : Type} {p : α → Bool} {xs : List α} {k : Nat} {x : α} (hg : Hid (xs[k]? = some x)) (h : (xs.take k).all p = true) (hx : p x = true) : (xs.take (k + 1)).all p = true := by
  rw [List.take_add_one, hg.out]; simp only [Option.toList_some, List.all_append, h, List.all_cons, hx, List.all_nil, Bool.and_self]
theorem all_not {α : Type} {p : α → Bool} {xs : List α} {k : Nat} {x : α} (hg : Hid (xs[k]? = some x)) (hx : p x = false) : xs.all p = false := by
  rw [List.all_eq_false]; exact ⟨x, List.mem_of_getElem? hg.out, by simp [hx]⟩
theorem all_end {α : Type} {p : α → Bool} {xs : List α} {n k : Nat} (hn : Hid (n = xs.length)) (hk : n ≤ k) (h : (xs.take k).all p = true) : xs.all p = true := by
  rw [List.take_of_length_le (by rw [← hn.out]; exact hk)] at h; exact h

set_option maxHeartbeats 400000 in
theorem shape_Check (t : Ty) (w : World) :
    Calls Try.prog 75 #[t.v] w (Ret w (.int .i64 (tyErr t))) := by
  obtain ⟨k, t⟩ := t
  go_enter Try.func75, Try.ntmps75
  go_wp2
  all_goals (go_ret; refine Ret.int ?_ (by (repeat (first | (with_reducible exact Grow.refl _) | assumption | refine Grow.ext ?_ _ | refine Grow.alloc ?_ _ | refine Grow.drew ?_ | refine Grow.setCell ?_ (by first | (simp; done) | (simp; omega)) _ | refine Grow.trans ?_ (by assumption)))))
  all_goals (unfold tyErr TyOk; (try simp only [beq_iff_eq, beq_eq_false_iff_ne, ne_eq] at *); first | (rw [if_pos (by omega)]; done) | (rw [if_neg (by omega)]; done))

set_option maxHeartbeats 400000 in
theorem place_Check (p : Pl) (w : World) :
    Calls Try.prog 59 #[p.v] w (Ret w (.int .i64 (plErr p))) := by
  obtain ⟨l, d, f⟩ := p
  go_enter Try.func59, Try.ntmps59
  go_wp2
  all_goals (go_ret; refine Ret.int ?_ (by (repeat (first | (with_reducible exact Grow.refl _) | assumption | refine Grow.ext ?_ _ | refine Grow.alloc ?_ _ | refine Grow.drew ?_ | refine Grow.setCell ?_ (by first | (simp; done) | (simp; omega)) _ | refine Grow.trans ?_ (by assumption)))))
  all_goals (unfold plErr PlOk; (try simp only [beq_iff_eq, beq_eq_false_iff_ne, ne_eq] at *); first | (rw [if_pos (by omega)]; done) | (rw [if_neg (by omega)]; done))

def targetOf (t : Ty) : Ty × Int := if ¬ TyOk t then (⟨0, 0⟩, 8) else if t.to = 0 then (⟨0, 0⟩, 6) else (⟨t.to, 0⟩, 0)


set_option maxHeartbeats 400000 in
theorem shape_Target (t : Ty) (w : World) :
    Calls Try.prog 81 #[t.v] w (Ret w (.tuple #[(targetOf t).1.v, .int .i64 (targetOf t).2])) := by
  go_enter Try.func81, Try.ntmps81
  go_wp2_with (first | (go_at_call 75; ((with_reducible refine (shape_Check t _).mono ?_); rintro e w1 ⟨rfl, hb1⟩; obtain ⟨x1, rfl⟩ := ext_of_grow hb1; clear hb1)))
  all_goals ((try simp only [Exit.inBlock, Exit.then]); refine post_of (by simp only [results, Try.results81]; go_simp; rfl) rfl (by (repeat (first | (with_reducible exact Grow.refl _) | assumption | refine Grow.ext ?_ _ | refine Grow.alloc ?_ _ | refine Grow.drew ?_ | refine Grow.setCell ?_ (by first | (simp; done) | (simp; omega)) _ | refine Grow.trans ?_ (by assumption)))) ?_)
  all_goals (have h0 := tyErr_or t; have h1 := tyErr_iff t; grind [targetOf])

def plaErr (ts : List Ty) (p : Pl) : Int := if ¬ LocOk ts ∨ ¬ PlOk p then 8 else if ts.length ≤ p.loc then 6 else 0

theorem locOk_len {ts : List Ty} {n : Nat} (h : Hid (n = ts.length)) (hn : n < 1 ∨ 16 < n) : LocOk ts = false := by
  unfold LocOk; rw [← h.out]; rcases hn with hn | hn <;> simp <;> omega
theorem locOk_all {ts : List Ty} {n : Nat} (h : Hid (n = ts.length)) (h1 : ¬ n < 1) (h2 : ¬ 16 < n) : LocOk ts = ts.all (fun t => decide (TyOk t)) := by
  unfold LocOk; rw [← h.out]; simp; omega

set_option maxHeartbeats 400000 in
theorem placing_check (v : Value) (ts : List Ty) (p : Pl) (w : World) {F : Nat → Prop} (hv : Sl F w v ts) :
    Calls Try.prog 80 #[v, p.v] w (Ret w (.int .i64 (plaErr ts p))) := by
  obtain ⟨a, n, cap, rfl, Hn, hm, hcap, hcm, hv⟩ := hv.open
  by_cases h1 : n < 1
  · go_enter Try.func80, Try.ntmps80
    go_wp2
    go_ret
    exact Ret.int (by unfold plaErr; rw [locOk_len Hn (by omega)]; simp) (by (repeat (first | (with_reducible exact Grow.refl _) | assumption | refine Grow.ext ?_ _ | refine Grow.alloc ?_ _ | refine Grow.drew ?_ | refine Grow.setCell ?_ (by first | (simp; done) | (simp; omega)) _ | refine Grow.trans ?_ (by assumption))))
  by_cases h2 : 16 < n
  · go_enter Try.func80, Try.ntmps80
    go_wp2
    go_ret
    exact Ret.int (by unfold plaErr; rw [locOk_len Hn (by omega)]; simp) (by (repeat (first | (with_reducible exact Grow.refl _) | assumption | refine Grow.ext ?_ _ | refine Grow.alloc ?_ _ | refine Grow.drew ?_ | refine Grow.setCell ?_ (by first | (simp; done) | (simp; omega)) _ | refine Grow.trans ?_ (by assumption))))
  have hl := locOk_all Hn h1 h2
  have Hl := Lib.hid hl; clear hl
  go_enter Try.func80, Try.ntmps80
  go_wp2
  go_loopw [19] (fun i wr => ∃ k : Nat, k ≤ n ∧ i = .int .i64 k ∧ Grow (w.alloc (Obj.cells #[Value.int IntKind.i64 p.loc, Value.bool p.deref, Value.int IntKind.u8 p.field] 26)) wr ∧ Hid ((ts.take k).all (fun t => decide (TyOk t)) = true)) (fun i _ => n - (intOf i).toNat)
  case atStart => exact ⟨0, Nat.zero_le _, rfl, (by (repeat (first | (with_reducible exact Grow.refl _) | assumption | refine Grow.ext ?_ _ | refine Grow.alloc ?_ _ | refine Grow.drew ?_ | refine Grow.setCell ?_ (by first | (simp; done) | (simp; omega)) _ | refine Grow.trans ?_ (by assumption)))), by rfl⟩
  case round =>
    obtain ⟨k, hk, rfl, hb1, ht⟩ := hrel
    (obtain ⟨x1, rfl⟩ := ext_of_grow hb1; clear hb1)
    by_cases hlt : k < n
    · obtain ⟨b_x, off_x, x, rfl, ⟨Hg_x, hl_x, hw_x, c_x0, c_x1, r_x0⟩⟩ := hv.ty k hlt
      go_wp2_with (first | (go_at_call 75; ((with_reducible refine (shape_Check x _).mono ?_); rintro e w2 ⟨rfl, hb2⟩; obtain ⟨x2, rfl⟩ := ext_of_grow hb2; clear hb2)))
      · go_ret
        refine Ret.int ?_ (by (repeat (first | (with_reducible exact Grow.refl _) | assumption | refine Grow.ext ?_ _ | refine Grow.alloc ?_ _ | refine Grow.drew ?_ | refine Grow.setCell ?_ (by first | (simp; done) | (simp; omega)) _ | refine Grow.trans ?_ (by assumption))))
        have h0 := tyErr_or x; have h3 := tyErr_iff x
        unfold plaErr; rw [Hl.out, all_not Hg_x (by grind)]; grind
      · go_roundw
        case rel => exact ⟨k + 1, by omega, by go_num, (by (repeat (first | (with_reducible exact Grow.refl _) | assumption | refine Grow.ext ?_ _ | refine Grow.alloc ?_ _ | refine Grow.drew ?_ | refine Grow.setCell ?_ (by first | (simp; done) | (simp; omega)) _ | refine Grow.trans ?_ (by assumption)))), all_step Hg_x ht (by have h3 := tyErr_iff x; grind)⟩
        case measure => simp [intOf]; omega
    · have Ha : Hid (LocOk ts = true) := by rw [Hid, Hl.out]; exact all_end Hn (by omega) ht
      go_wp2_with (first | (go_at_call 59; ((with_reducible refine (place_Check p _).mono ?_); rintro e w2 ⟨rfl, hb2⟩; obtain ⟨x2, rfl⟩ := ext_of_grow hb2; clear hb2)))
      all_goals go_ret
      all_goals (refine Ret.int ?_ (by (repeat (first | (with_reducible exact Grow.refl _) | assumption | refine Grow.ext ?_ _ | refine Grow.alloc ?_ _ | refine Grow.drew ?_ | refine Grow.setCell ?_ (by first | (simp; done) | (simp; omega)) _ | refine Grow.trans ?_ (by assumption)))))
      all_goals (have h0 := plErr_or p; have h3 := plErr_iff p; have h4 := Ha.out; have h5 := Hn.out; unfold plaErr; rw [← h5]; grind)
end Go.Proofs.Ythackfblfkpddaa
