/- Layer 6: jumps. Layer 6: the reference of jumps. -/
import Derived.Test.YthackfblfkpddaaL05
import Derived.Test.YthackfblfkpddaaEq
import Derived.Deep.DeepCutAuto
namespace Go.Proofs.Ythackfblfkpddaa
open Go.RowKit
set_option linter.unusedSimpArgs false
set_option linter.unusedVariables false

def blk (n : Int) : Bool := decide (0 ≤ n) && decide (n < 24)
def argsOk (l : List Opd) : Bool := l.all (fun o => decide (opdErr o = 0))
def juPre (j : Ju) : Bool :=
  if j.kind = 1 then decide (j.fn = 0) && decide (j.args.length = 0) && plZ j.dest && opdZ j.a && blk j.next && decide (j.els = 0)
  else if j.kind = 2 then decide (j.fn = 0) && decide (j.args.length = 0) && plZ j.dest && decide (opdErr j.a = 0) && blk j.next && blk j.els
  else if j.kind = 3 ∨ j.kind = 5 then decide (j.fn = 0) && decide (j.args.length = 0) && plZ j.dest && opdZ j.a && decide (j.next = 0) && decide (j.els = 0)
  else if j.kind = 4 then opdZ j.a && decide (0 ≤ j.fn) && decide (j.fn < 8) && decide (j.args.length ≤ 8) && decide (plErr j.dest = 0) && blk j.next && decide (j.els = 0)
  else false
def juOk (j : Ju) : Bool := juPre j && argsOk j.args
def juErr (j : Ju) : Int := if juOk j = true then 0 else 8
theorem juErr_iff (t : Ju) : juErr t = 0 ↔ juOk t = true := by unfold juErr; split <;> simp_all
theorem juErr_or (t : Ju) : juErr t = 0 ∨ juErr t = 8 := by unfold juErr; split <;> simp

set_option maxHeartbeats 400000 in
theorem jump_Check1 (n : Int) (w : World) : Calls Try.prog 64 #[.int .i64 n] w (Ret w (.bool (blk n))) := by
  go_enter Try.func64, Try.ntmps64
  go_wp2
  all_goals go_ret
  all_goals (refine Ret.bool ?_ (by (repeat (first | (with_reducible exact Grow.refl _) | assumption | refine Grow.ext ?_ _ | refine Grow.alloc ?_ _ | refine Grow.drew ?_ | refine Grow.setCell ?_ (by first | (simp; done) | (simp; omega)) _ | refine Grow.trans ?_ (by assumption)))))
  all_goals (go_light; unfold blk; grind)
set_option maxHeartbeats 400000 in
theorem ref06_block (n : Int) (w : World) : Calls Try.prog 112 #[.int .i64 n] w (Ret w (.bool (blk n))) := by
  go_enter Try.func112, Try.ntmps112
  go_wp2
  all_goals go_ret
  all_goals (refine Ret.bool ?_ (by (repeat (first | (with_reducible exact Grow.refl _) | assumption | refine Grow.ext ?_ _ | refine Grow.alloc ?_ _ | refine Grow.drew ?_ | refine Grow.setCell ?_ (by first | (simp; done) | (simp; omega)) _ | refine Grow.trans ?_ (by assumption)))))
  all_goals (go_light; unfold blk; grind)

theorem kind_cases (k : Int) : ((k == 1) = true ∧ (k == 2) = false ∧ (k == 3) = false ∧ (k == 4) = false ∧ (k == 5) = false) ∨ ((k == 1) = false ∧ (k == 2) = true ∧ (k == 3) = false ∧ (k == 4) = false ∧ (k == 5) = false)
    ∨ ((k == 1) = false ∧ (k == 2) = false ∧ (k == 3) = true ∧ (k == 4) = false ∧ (k == 5) = false) ∨ ((k == 1) = false ∧ (k == 2) = false ∧ (k == 3) = false ∧ (k == 4) = true ∧ (k == 5) = false)
    ∨ ((k == 1) = false ∧ (k == 2) = false ∧ (k == 3) = false ∧ (k == 4) = false ∧ (k == 5) = true) ∨ ((k == 1) = false ∧ (k == 2) = false ∧ (k == 3) = false ∧ (k == 4) = false ∧ (k == 5) = false) := by
  simp only [beq_iff_eq, beq_eq_false_iff_ne]; omega

theorem juOk_stop {j : Ju} {x : Opd} {k : Nat} (h : Hid (j.args[k]? = some x)) (hx : opdErr x ≠ 0) : juErr j = 8 := by
  unfold juErr juOk argsOk
  have hm := List.mem_of_getElem? h.out
  rw [if_neg]
  simp only [Bool.and_eq_true, List.all_eq_true]
  intro ⟨_, q⟩
  exact hx (by simpa using q x hm)
theorem juOk_done {j : Ju} (h : juPre j = true) (ha : argsOk j.args = true) : juErr j = 0 := by
  unfold juErr juOk; rw [h, ha]; rfl

set_option maxRecDepth 100000 in
set_option maxHeartbeats 2000000 in
theorem jump_Check (j : Ju) (av : Value) (w : World) {F : Nat → Prop} (hj : j.wf) (hav : Sl F w av j.args) :
    Calls Try.prog 36 #[j.v av] w (Ret w (.int .i64 (juErr j))) := by
  obtain ⟨a, n, cap, rfl, Hn, hm, hcap, hcm, hav⟩ := hav.open
  have Hk := Lib.hid (kind_cases j.kind)
  rcases kind_cases j.kind with ⟨h1, h2, h3, h4, h5⟩ | ⟨h1, h2, h3, h4, h5⟩ | ⟨h1, h2, h3, h4, h5⟩ | ⟨h1, h2, h3, h4, h5⟩ | ⟨h1, h2, h3, h4, h5⟩ | ⟨h1, h2, h3, h4, h5⟩
  all_goals (try (have h4' : (j.kind == 4) = true := h4; rcases Bool.eq_false_or_eq_true (plErr j.dest != 0) with hd | hd))
  all_goals
    go_enter Try.func36, Try.ntmps36
    go_wp2_with fail
    (refine wp_region_ext (by kernel_rfl) (by kernel_rfl) ?_; (repeat (any_goals (first | go_big_quiet_step (first | fail) | (refine wpQuiet_step (fun K hK => ?_); go_simp; split <;> (refine hK _ ?_; clear hK K))))); all_goals (refine wpQuiet_nil ?_; intro w1 hb1; obtain ⟨x1, rfl⟩ := ext_of_grow hb1; clear hb1))
    go_wp2_with (first | (go_at_call 64; ((with_reducible refine (jump_Check1 _ _).mono ?_); rintro e w2 ⟨rfl, hb2⟩; obtain ⟨x2, rfl⟩ := ext_of_grow hb2; clear hb2)) | (go_at_call 58; ((with_reducible refine (value_CheckOperand j.a _).mono ?_); rintro e w4 ⟨rfl, hb4⟩; obtain ⟨x4, rfl⟩ := ext_of_grow hb4; clear hb4)) | (go_at_call 59; ((with_reducible refine (place_Check j.dest _).mono ?_); rintro e w5 ⟨rfl, hb5⟩; obtain ⟨x5, rfl⟩ := ext_of_grow hb5; clear hb5)))
  all_goals (try (first | (exfalso; go_light; have b0 : blk 0 = true := (by decide); clear hj; grind) | (go_ret; refine Ret.int ?_ (by (repeat (first | (with_reducible exact Grow.refl _) | assumption | refine Grow.ext ?_ _ | refine Grow.alloc ?_ _ | refine Grow.drew ?_ | refine Grow.setCell ?_ (by first | (simp; done) | (simp; omega)) _ | refine Grow.trans ?_ (by assumption)))); go_light; have q := Hn.out; have q1 := plErr_or j.dest; have q2 := opdErr_or j.a; clear hj; unfold juErr juOk juPre opdZ plZ OpdZ PlZ; grind)))
  all_goals
    have Hp : Hid (juPre j = true) := by
      go_light; have q := Hn.out; have q1 := plErr_or j.dest; have q2 := opdErr_or j.a; clear hj; unfold juPre opdZ plZ OpdZ PlZ; grind
  rotate_left 3
  · go_loopw [118] (fun i wr => ∃ (k : Nat), k ≤ n ∧ i = .int .i64 k ∧ Grow w wr ∧ Hid ((j.args.take k).all (fun o => decide (opdErr o = 0)) = true)) (fun i _ => n - (intOf i).toNat)
    case atStart => exact ⟨0, Nat.zero_le _, rfl, (by (repeat (first | (with_reducible exact Grow.refl _) | assumption | refine Grow.ext ?_ _ | refine Grow.alloc ?_ _ | refine Grow.drew ?_ | refine Grow.setCell ?_ (by first | (simp; done) | (simp; omega)) _ | refine Grow.trans ?_ (by assumption)))), rfl⟩
    case round =>
      obtain ⟨k, hk, rfl, hb1, Ha⟩ := hrel
      (obtain ⟨x1, rfl⟩ := ext_of_grow hb1; clear hb1)
      by_cases hlt : k < n
      · obtain ⟨b_y, off_y, y, rfl, ⟨Hg_y, hl_y, hw_y, c_y0, c_y1, c_y2, c_y3, c_y4, r_y0, r_y1⟩⟩ := hav.opd k hlt
        go_wp2_with (first | (go_at_call 58; ((with_reducible refine (value_CheckOperand y _).mono ?_); rintro e w2 ⟨rfl, hb2⟩; obtain ⟨x2, rfl⟩ := ext_of_grow hb2; clear hb2)))
        · go_ret
          refine Ret.int ?_ (by (repeat (first | (with_reducible exact Grow.refl _) | assumption | refine Grow.ext ?_ _ | refine Grow.alloc ?_ _ | refine Grow.drew ?_ | refine Grow.setCell ?_ (by first | (simp; done) | (simp; omega)) _ | refine Grow.trans ?_ (by assumption))))
          have q : opdErr y ≠ 0 := by go_light; grind
          rw [juOk_stop Hg_y q]
          have := opdErr_or y; grind
        · go_roundw
          case rel => exact ⟨k + 1, by omega, by go_num, (by (repeat (first | (with_reducible exact Grow.refl _) | assumption | refine Grow.ext ?_ _ | refine Grow.alloc ?_ _ | refine Grow.drew ?_ | refine Grow.setCell ?_ (by first | (simp; done) | (simp; omega)) _ | refine Grow.trans ?_ (by assumption)))), all_step Hg_y Ha (by clear c_y0 c_y1 c_y2 c_y3 c_y4 r_y0 r_y1; go_light; grind)⟩
          case measure => simp [intOf]; omega
      · go_wp2_with fail
        go_ret
        exact Ret.int (juOk_done Hp.out (all_end Hn (by omega) Ha)).symm (by (repeat (first | (with_reducible exact Grow.refl _) | assumption | refine Grow.ext ?_ _ | refine Grow.alloc ?_ _ | refine Grow.drew ?_ | refine Grow.setCell ?_ (by first | (simp; done) | (simp; omega)) _ | refine Grow.trans ?_ (by assumption))))
  all_goals
    obtain rfl : n = 0 := by first | assumption | omega
    have Hz : Hid (argsOk j.args = true) := by
      have q : 0 = j.args.length := Hn.out
      show _ = _
      rw [List.length_eq_zero_iff.1 q.symm]; rfl
    go_loopw [118] (fun i wr => i = .int .i64 0 ∧ Grow w wr) (fun _ _ => 0)
    case atStart => exact ⟨rfl, (by (repeat (first | (with_reducible exact Grow.refl _) | assumption | refine Grow.ext ?_ _ | refine Grow.alloc ?_ _ | refine Grow.drew ?_ | refine Grow.setCell ?_ (by first | (simp; done) | (simp; omega)) _ | refine Grow.trans ?_ (by assumption))))⟩
    case round =>
      obtain ⟨rfl, hb1⟩ := hrel
      (obtain ⟨x1, rfl⟩ := ext_of_grow hb1; clear hb1)
      go_wp2_with fail
      go_ret
      exact Ret.int (juOk_done Hp.out Hz.out).symm (by (repeat (first | (with_reducible exact Grow.refl _) | assumption | refine Grow.ext ?_ _ | refine Grow.alloc ?_ _ | refine Grow.drew ?_ | refine Grow.setCell ?_ (by first | (simp; done) | (simp; omega)) _ | refine Grow.trans ?_ (by assumption))))
theorem eqlz_Opd (w : World) (o : Opd) : (binOp .eql 28 (.agg #[.int .u8 o.kind, .int .i64 o.n, .int .i64 o.pl.loc, .bool o.pl.deref, .int .u8 o.pl.field]) (.agg #[.int .u8 0, .int .i64 0, .int .i64 0, .bool false, .int .u8 0])).run Try.prog w = .ok (.bool (opdZ o)) w := by
  rw [eql_Opd]; congr 2
  rw [Bool.eq_iff_iff]; unfold opdZ OpdZ PlZ; simp
theorem eqlz_Pl (w : World) (o : Pl) : (binOp .eql 26 (.agg #[.int .i64 o.loc, .bool o.deref, .int .u8 o.field]) (.agg #[.int .i64 0, .bool false, .int .u8 0])).run Try.prog w = .ok (.bool (plZ o)) w := by
  rw [eql_Pl]; congr 2
  rw [Bool.eq_iff_iff]; unfold plZ PlZ; simp
attribute [-go_sem] eql_Opd eql_Pl
attribute [local go_sem 2000] eqlz_Opd eqlz_Pl
theorem juOk_args {j : Ju} {x : Opd} {k : Nat} (h : Hid (j.args[k]? = some x)) (hx : opdErr x ≠ 0) : juOk j = false := by
  have := juOk_stop h hx; unfold juErr at this; cases q : juOk j
  · rfl
  · rw [q] at this; simp at this

theorem juPre4 {j : Ju} (h4 : (j.kind == 4) = true) (hz : opdZ j.a = true) (hf : 0 ≤ j.fn) (hf8 : j.fn < 8) (hl : j.args.length ≤ 8) (hd : plErr j.dest = 0) (hb : blk j.next = true) (he : j.els = 0) : juPre j = true := by
  unfold juPre; simp at h4; simp [h4, hz, hf, hf8, hl, hd, hb, he]

set_option maxRecDepth 100000 in
set_option maxHeartbeats 2000000 in
theorem ref06_Valid (j : Ju) (av : Value) (w : World) {F : Nat → Prop} (hj : j.wf) (hav : Sl F w av j.args) :
    Calls Try.prog 103 #[j.v av] w (Ret w (.bool (juOk j))) := by
  obtain ⟨a, n, cap, rfl, Hn, hm, hcap, hcm, hav⟩ := hav.open
  have Hk := Lib.hid (kind_cases j.kind)
  rcases kind_cases j.kind with ⟨h1, h2, h3, h4, h5⟩ | ⟨h1, h2, h3, h4, h5⟩ | ⟨h1, h2, h3, h4, h5⟩ | ⟨h1, h2, h3, h4, h5⟩ | ⟨h1, h2, h3, h4, h5⟩ | ⟨h1, h2, h3, h4, h5⟩
  all_goals (try (have h4' : (j.kind == 4) = true := h4; rcases Bool.eq_false_or_eq_true (opdZ j.a) with hz | hz))
  all_goals
    go_enter Try.func103, Try.ntmps103
    go_wp2_with fail
    (refine wp_region_ext (by kernel_rfl) (by kernel_rfl) ?_; (repeat (any_goals (first | go_big_quiet_step (first | fail) | (refine wpQuiet_step (fun K hK => ?_); go_simp; split <;> (refine hK _ ?_; clear hK K))))); all_goals (refine wpQuiet_nil ?_; intro w1 hb1; obtain ⟨x1, rfl⟩ := ext_of_grow hb1; clear hb1))
    go_upto_region 14 with (first | (go_at_call 112; ((with_reducible refine (ref06_block _ _).mono ?_); rintro e w2 ⟨rfl, hb2⟩; obtain ⟨x2, rfl⟩ := ext_of_grow hb2; clear hb2)) | (go_at_call 111; ((with_reducible refine (ref04_CheckOperand j.a _).mono ?_); rintro e w4 ⟨rfl, hb4⟩; obtain ⟨x4, rfl⟩ := ext_of_grow hb4; clear hb4)) | (go_at_call 109; ((with_reducible refine (ref03_Check j.dest _).mono ?_); rintro e w5 ⟨rfl, hb5⟩; obtain ⟨x5, rfl⟩ := ext_of_grow hb5; clear hb5)))
  all_goals (try (first | (exfalso; go_light; clear hj; grind) | (go_ret; refine Ret.bool ?_ (by (repeat (first | (with_reducible exact Grow.refl _) | assumption | refine Grow.ext ?_ _ | refine Grow.alloc ?_ _ | refine Grow.drew ?_ | refine Grow.setCell ?_ (by first | (simp; done) | (simp; omega)) _ | refine Grow.trans ?_ (by assumption)))); go_light; have q := Hn.out; have q1 := plErr_or j.dest; have q2 := opdErr_or j.a; have q3 : j.args.length = 0 → argsOk j.args = true := (by intro h; rw [List.length_eq_zero_iff.1 h]; rfl); clear hj; unfold juOk juPre; grind)))
  all_goals
    have Hp : Hid (juPre j = true) := by
      have q := Hn.out; go_light; clear hj Hk; exact juPre4 h4 hz (by grind) (by grind) (by grind) (by grind) (by grind) (by grind)
  · have hn0 : n = 0 := by assumption
    subst hn0
    go_cut [6] (fun i wc => i = .int .i64 0 ∧ Grow (w.alloc (Obj.cells #[.int .u8 j.kind, .int .u8 j.a.kind, .int .i64 j.a.n, .int .i64 j.a.pl.loc, .bool j.a.pl.deref, .int .u8 j.a.pl.field, .int .i64 j.fn, .int .i64 j.next, .int .i64 j.els, .slice a 0 cap, .int .i64 j.dest.loc, .bool j.dest.deref, .int .u8 j.dest.field] 46)) wc)
    case first =>
      go_wp2_with fail
      go_meet
      case rel => exact ⟨rfl, by first | (rw [show j.fn = 0 from (by assumption)]; exact (by (repeat (first | (with_reducible exact Grow.refl _) | assumption | refine Grow.ext ?_ _ | refine Grow.alloc ?_ _ | refine Grow.drew ?_ | refine Grow.setCell ?_ (by first | (simp; done) | (simp; omega)) _ | refine Grow.trans ?_ (by assumption))))) | exact (by (repeat (first | (with_reducible exact Grow.refl _) | assumption | refine Grow.ext ?_ _ | refine Grow.alloc ?_ _ | refine Grow.drew ?_ | refine Grow.setCell ?_ (by first | (simp; done) | (simp; omega)) _ | refine Grow.trans ?_ (by assumption))))⟩
    case rest =>
      obtain ⟨rfl, hb0⟩ := hcut
      go_wp2_with fail
      go_loopw [6] (fun i wr => i = .int .i64 0 ∧ Grow (w.alloc (Obj.cells #[.int .u8 j.kind, .int .u8 j.a.kind, .int .i64 j.a.n, .int .i64 j.a.pl.loc, .bool j.a.pl.deref, .int .u8 j.a.pl.field, .int .i64 j.fn, .int .i64 j.next, .int .i64 j.els, .slice a 0 cap, .int .i64 j.dest.loc, .bool j.dest.deref, .int .u8 j.dest.field] 46)) wr) (fun i _ => 0)
      case atStart => exact ⟨rfl, hb0⟩
      case round =>
        obtain ⟨rfl, hb1⟩ := hrel
        (obtain ⟨x1, rfl⟩ := ext_of_grow hb1; clear hb1)
        go_wp2_with fail
        go_ret
        refine Ret.bool ?_ (by (repeat (first | (with_reducible exact Grow.refl _) | assumption | refine Grow.ext ?_ _ | refine Grow.alloc ?_ _ | refine Grow.drew ?_ | refine Grow.setCell ?_ (by first | (simp; done) | (simp; omega)) _ | refine Grow.trans ?_ (by assumption))))
        unfold juOk; rw [Hp.out, show argsOk j.args = true from (by rw [List.length_eq_zero_iff.1 (show j.args.length = 0 from Hn.out.symm)]; rfl)]; rfl
  all_goals
    go_cut [6] (fun i wc => i = .int .i64 0 ∧ Grow (w.alloc (Obj.cells #[.int .u8 j.kind, .int .u8 j.a.kind, .int .i64 j.a.n, .int .i64 j.a.pl.loc, .bool j.a.pl.deref, .int .u8 j.a.pl.field, .int .i64 j.fn, .int .i64 j.next, .int .i64 j.els, .slice a n cap, .int .i64 j.dest.loc, .bool j.dest.deref, .int .u8 j.dest.field] 46)) wc)
    case first =>
      go_wp2_with fail
      go_meet
      case rel => exact ⟨rfl, by first | (rw [show j.fn = 0 from (by assumption)]; exact (by (repeat (first | (with_reducible exact Grow.refl _) | assumption | refine Grow.ext ?_ _ | refine Grow.alloc ?_ _ | refine Grow.drew ?_ | refine Grow.setCell ?_ (by first | (simp; done) | (simp; omega)) _ | refine Grow.trans ?_ (by assumption))))) | exact (by (repeat (first | (with_reducible exact Grow.refl _) | assumption | refine Grow.ext ?_ _ | refine Grow.alloc ?_ _ | refine Grow.drew ?_ | refine Grow.setCell ?_ (by first | (simp; done) | (simp; omega)) _ | refine Grow.trans ?_ (by assumption))))⟩
    case rest =>
      obtain ⟨rfl, hb0⟩ := hcut
      go_wp2_with fail
      go_loopw [6] (fun i wr => ∃ (k : Nat), k ≤ n ∧ i = .int .i64 k ∧ Grow (w.alloc (Obj.cells #[.int .u8 j.kind, .int .u8 j.a.kind, .int .i64 j.a.n, .int .i64 j.a.pl.loc, .bool j.a.pl.deref, .int .u8 j.a.pl.field, .int .i64 j.fn, .int .i64 j.next, .int .i64 j.els, .slice a n cap, .int .i64 j.dest.loc, .bool j.dest.deref, .int .u8 j.dest.field] 46)) wr ∧ Hid ((j.args.take k).all (fun o => decide (opdErr o = 0)) = true)) (fun i _ => n - (intOf i).toNat)
      case atStart => exact ⟨0, Nat.zero_le _, rfl, hb0, rfl⟩
      case round =>
        obtain ⟨k, hk, rfl, hb1, Ha⟩ := hrel
        (obtain ⟨x1, rfl⟩ := ext_of_grow hb1; clear hb1)
        by_cases hlt : k < n
        · obtain ⟨b_y, off_y, y, rfl, ⟨Hg_y, hl_y, hw_y, c_y0, c_y1, c_y2, c_y3, c_y4, r_y0, r_y1⟩⟩ := hav.opd k hlt
          cases hy : (opdErr y != 0)
          · go_wp2_with (first | (go_at_call 111; ((with_reducible refine (ref04_CheckOperand y _).mono ?_); rintro e w2 ⟨rfl, hb2⟩; obtain ⟨x2, rfl⟩ := ext_of_grow hb2; clear hb2)))
            go_roundw
            case rel => exact ⟨k + 1, by omega, by go_num, (by first | (rw [show j.fn = 0 from (by assumption)]; exact (by (repeat (first | (with_reducible exact Grow.refl _) | assumption | refine Grow.ext ?_ _ | refine Grow.alloc ?_ _ | refine Grow.drew ?_ | refine Grow.setCell ?_ (by first | (simp; done) | (simp; omega)) _ | refine Grow.trans ?_ (by assumption))))) | exact (by (repeat (first | (with_reducible exact Grow.refl _) | assumption | refine Grow.ext ?_ _ | refine Grow.alloc ?_ _ | refine Grow.drew ?_ | refine Grow.setCell ?_ (by first | (simp; done) | (simp; omega)) _ | refine Grow.trans ?_ (by assumption))))), all_step Hg_y Ha (by simpa using hy)⟩
            case measure => simp [intOf]; omega
          · go_wp2_with (first | (go_at_call 111; ((with_reducible refine (ref04_CheckOperand y _).mono ?_); rintro e w2 ⟨rfl, hb2⟩; obtain ⟨x2, rfl⟩ := ext_of_grow hb2; clear hb2)))
            go_ret
            refine Ret.bool ?_ (by (repeat (first | (with_reducible exact Grow.refl _) | assumption | refine Grow.ext ?_ _ | refine Grow.alloc ?_ _ | refine Grow.drew ?_ | refine Grow.setCell ?_ (by first | (simp; done) | (simp; omega)) _ | refine Grow.trans ?_ (by assumption))))
            rw [juOk_args Hg_y (by simpa using hy)]
        · go_wp2_with fail
          go_ret
          refine Ret.bool ?_ (by (repeat (first | (with_reducible exact Grow.refl _) | assumption | refine Grow.ext ?_ _ | refine Grow.alloc ?_ _ | refine Grow.drew ?_ | refine Grow.setCell ?_ (by first | (simp; done) | (simp; omega)) _ | refine Grow.trans ?_ (by assumption))))
          unfold juOk; rw [Hp.out, show argsOk j.args = true from all_end Hn (by omega) Ha]; rfl

set_option maxHeartbeats 400000 in
theorem ref06_Great (j : Ju) (av : Value) (w : World) {F : Nat → Prop} (hav : Sl F w av j.args) :
    Calls Try.prog 65 #[j.v av] w (Ret w (.bool (decide (12 < j.args.length)))) := by
  obtain ⟨a, n, cap, rfl, Hn, hm, hcap, hcm, hav⟩ := hav.open
  go_enter Try.func65, Try.ntmps65
  go_wp2_with fail
  all_goals go_ret
  all_goals (refine Ret.bool ?_ (by (repeat (first | (with_reducible exact Grow.refl _) | assumption | refine Grow.ext ?_ _ | refine Grow.alloc ?_ _ | refine Grow.drew ?_ | refine Grow.setCell ?_ (by first | (simp; done) | (simp; omega)) _ | refine Grow.trans ?_ (by assumption)))))
  all_goals (go_light; have q := Hn.out; rw [← q]; grind)
end Go.Proofs.Ythackfblfkpddaa
