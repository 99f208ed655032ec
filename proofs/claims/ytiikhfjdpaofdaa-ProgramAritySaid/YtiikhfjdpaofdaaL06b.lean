/- Layer 6: the reference of jumps. -/
import Derived.Test.YtiikhfjdpaofdaaL06
import Derived.Deep.DeepCutAuto
namespace Go.Proofs.Ytiikhfjdpaofdaa
open Go.RowKit
set_option linter.unusedSimpArgs false
set_option linter.unusedVariables false

theorem eqlz_Opd (w : World) (o : Opd) : (binOp .eql 63 (.agg #[.int .u8 o.kind, .int .i64 o.n, .int .i64 o.pl.loc, .bool o.pl.deref, .int .u8 o.pl.field]) (.agg #[.int .u8 0, .int .i64 0, .int .i64 0, .bool false, .int .u8 0])).run Try.prog w = .ok (.bool (opdZ o)) w := by
  rw [eql_Opd]; congr 2
  rw [Bool.eq_iff_iff]; unfold opdZ OpdZ PlZ; simp
theorem eqlz_Pl (w : World) (o : Pl) : (binOp .eql 61 (.agg #[.int .i64 o.loc, .bool o.deref, .int .u8 o.field]) (.agg #[.int .i64 0, .bool false, .int .u8 0])).run Try.prog w = .ok (.bool (plZ o)) w := by
  rw [eql_Pl]; congr 2
  rw [Bool.eq_iff_iff]; unfold plZ PlZ; simp
attribute [-go_sem] eql_Opd eql_Pl
attribute [local go_sem 2000] eqlz_Opd eqlz_Pl
theorem juOk_args {j : Ju} {x : Opd} {k : Nat} (h : Hid (j.args[k]? = some x)) (hx : opdErr x ≠ 0) : juOk j = false := by
  have := juOk_stop h hx; unfold juErr at this; cases q : juOk j
  · rfl
  · rw [q] at this; simp at this

theorem juPre4 {j : Ju} (h4 : (j.kind == 4) = true) (hz : opdZ j.a = true) (hf : 0 ≤ j.fn) (hf8 : j.fn < 8) (hl : j.args.length ≤ 8) (hd : plErr j.dest = 0) (hb : blk j.next = true) (he : j.els = 0) : juPre j = true := by
  unfold juPre; simp at h4; simp [h4, hz, hf, hf8, hl, hd, hb, he]

set_option maxRecDepth 100000 in
set_option maxHeartbeats 2000000 in
theorem ref06_Valid (j : Ju) (av : Value) (w : World) {F : Nat → Prop} (hj : j.wf) (hav : Sl F w av j.args) :
    Calls Try.prog 123 #[j.v av] w (Ret w (.bool (juOk j))) := by
  obtain ⟨a, n, cap, rfl, Hn, hm, hcap, hcm, hav⟩ := hav.open
  have Hk := Lib.hid (kind_cases j.kind)
  rcases kind_cases j.kind with ⟨h1, h2, h3, h4, h5⟩ | ⟨h1, h2, h3, h4, h5⟩ | ⟨h1, h2, h3, h4, h5⟩ | ⟨h1, h2, h3, h4, h5⟩ | ⟨h1, h2, h3, h4, h5⟩ | ⟨h1, h2, h3, h4, h5⟩
  all_goals (try (have h4' : (j.kind == 4) = true := h4; rcases Bool.eq_false_or_eq_true (opdZ j.a) with hz | hz))
  all_goals
    go_enter Try.func123, Try.ntmps123
    go_wp2_with fail
    (refine wp_region_ext (by kernel_rfl) (by kernel_rfl) ?_; (repeat (any_goals (first | go_big_quiet_step (first | fail) | (refine wpQuiet_step (fun K hK => ?_); go_simp; split <;> (refine hK _ ?_; clear hK K))))); all_goals (refine wpQuiet_nil ?_; intro w1 hb1; obtain ⟨x1, rfl⟩ := ext_of_grow hb1; clear hb1))
    go_upto_region 14 with (first | (go_at_call 133; ((with_reducible refine (ref06_block _ _).mono ?_); rintro e w2 ⟨rfl, hb2⟩; obtain ⟨x2, rfl⟩ := ext_of_grow hb2; clear hb2)) | (go_at_call 132; ((with_reducible refine (ref04_CheckOperand j.a _).mono ?_); rintro e w4 ⟨rfl, hb4⟩; obtain ⟨x4, rfl⟩ := ext_of_grow hb4; clear hb4)) | (go_at_call 130; ((with_reducible refine (ref03_Check j.dest _).mono ?_); rintro e w5 ⟨rfl, hb5⟩; obtain ⟨x5, rfl⟩ := ext_of_grow hb5; clear hb5)))
  all_goals (try (first | (exfalso; go_light; clear hj; grind) | (go_ret; refine Ret.bool ?_ (by (repeat (first | (with_reducible exact Grow.refl _) | assumption | refine Grow.ext ?_ _ | refine Grow.alloc ?_ _ | refine Grow.drew ?_ | refine Grow.setCell ?_ (by first | (simp; done) | (simp; omega)) _ | refine Grow.trans ?_ (by assumption)))); go_light; have q := Hn.out; have q1 := plErr_or j.dest; have q2 := opdErr_or j.a; have q3 : j.args.length = 0 → argsOk j.args = true := (by intro h; rw [List.length_eq_zero_iff.1 h]; rfl); clear hj; unfold juOk juPre; grind)))
  all_goals
    have Hp : Hid (juPre j = true) := by
      have q := Hn.out; go_light; clear hj Hk; exact juPre4 h4 hz (by grind) (by grind) (by grind) (by grind) (by grind) (by grind)
  · have hn0 : n = 0 := by assumption
    subst hn0
    go_cut [6] (fun i wc => i = .int .i64 0 ∧ Grow (w.alloc (Obj.cells #[.int .u8 j.kind, .int .u8 j.a.kind, .int .i64 j.a.n, .int .i64 j.a.pl.loc, .bool j.a.pl.deref, .int .u8 j.a.pl.field, .int .i64 j.fn, .int .i64 j.next, .int .i64 j.els, .slice a 0 cap, .int .i64 j.dest.loc, .bool j.dest.deref, .int .u8 j.dest.field] 66)) wc)
    case first =>
      go_wp2_with fail
      go_meet
      case rel => exact ⟨rfl, by first | (rw [show j.fn = 0 from (by assumption)]; exact (by (repeat (first | (with_reducible exact Grow.refl _) | assumption | refine Grow.ext ?_ _ | refine Grow.alloc ?_ _ | refine Grow.drew ?_ | refine Grow.setCell ?_ (by first | (simp; done) | (simp; omega)) _ | refine Grow.trans ?_ (by assumption))))) | exact (by (repeat (first | (with_reducible exact Grow.refl _) | assumption | refine Grow.ext ?_ _ | refine Grow.alloc ?_ _ | refine Grow.drew ?_ | refine Grow.setCell ?_ (by first | (simp; done) | (simp; omega)) _ | refine Grow.trans ?_ (by assumption))))⟩
    case rest =>
      obtain ⟨rfl, hb0⟩ := hcut
      go_wp2_with fail
      go_loopw [6] (fun i wr => i = .int .i64 0 ∧ Grow (w.alloc (Obj.cells #[.int .u8 j.kind, .int .u8 j.a.kind, .int .i64 j.a.n, .int .i64 j.a.pl.loc, .bool j.a.pl.deref, .int .u8 j.a.pl.field, .int .i64 j.fn, .int .i64 j.next, .int .i64 j.els, .slice a 0 cap, .int .i64 j.dest.loc, .bool j.dest.deref, .int .u8 j.dest.field] 66)) wr) (fun i _ => 0)
      case atStart => exact ⟨rfl, hb0⟩
      case round =>
        obtain ⟨rfl, hb1⟩ := hrel
        (obtain ⟨x1, rfl⟩ := ext_of_grow hb1; clear hb1)
        go_wp2_with fail
        go_ret
        refine Ret.bool ?_ (by (repeat (first | (with_reducible exact Grow.refl _) | assumption | refine Grow.ext ?_ _ | refine Grow.alloc ?_ _ | refine Grow.drew ?_ | refine Grow.setCell ?_ (by first | (simp; done) | (simp; omega)) _ | refine Grow.trans ?_ (by assumption))))
        unfold juOk; rw [Hp.out, show argsOk j.args = true from (by rw [List.length_eq_zero_iff.1 (show j.args.length = 0 from Hn.out.symm)]; rfl)]; rfl
  all_goals
    go_cut [6] (fun i wc => i = .int .i64 0 ∧ Grow (w.alloc (Obj.cells #[.int .u8 j.kind, .int .u8 j.a.kind, .int .i64 j.a.n, .int .i64 j.a.pl.loc, .bool j.a.pl.deref, .int .u8 j.a.pl.field, .int .i64 j.fn, .int .i64 j.next, .int .i64 j.els, .slice a n cap, .int .i64 j.dest.loc, .bool j.dest.deref, .int .u8 j.dest.field] 66)) wc)
    case first =>
      go_wp2_with fail
      go_meet
      case rel => exact ⟨rfl, by first | (rw [show j.fn = 0 from (by assumption)]; exact (by (repeat (first | (with_reducible exact Grow.refl _) | assumption | refine Grow.ext ?_ _ | refine Grow.alloc ?_ _ | refine Grow.drew ?_ | refine Grow.setCell ?_ (by first | (simp; done) | (simp; omega)) _ | refine Grow.trans ?_ (by assumption))))) | exact (by (repeat (first | (with_reducible exact Grow.refl _) | assumption | refine Grow.ext ?_ _ | refine Grow.alloc ?_ _ | refine Grow.drew ?_ | refine Grow.setCell ?_ (by first | (simp; done) | (simp; omega)) _ | refine Grow.trans ?_ (by assumption))))⟩
    case rest =>
      obtain ⟨rfl, hb0⟩ := hcut
      go_wp2_with fail
      go_loopw [6] (fun i wr => ∃ (k : Nat), k ≤ n ∧ i = .int .i64 k ∧ Grow (w.alloc (Obj.cells #[.int .u8 j.kind, .int .u8 j.a.kind, .int .i64 j.a.n, .int .i64 j.a.pl.loc, .bool j.a.pl.deref, .int .u8 j.a.pl.field, .int .i64 j.fn, .int .i64 j.next, .int .i64 j.els, .slice a n cap, .int .i64 j.dest.loc, .bool j.dest.deref, .int .u8 j.dest.field] 66)) wr ∧ Hid ((j.args.take k).all (fun o => decide (opdErr o = 0)) = true)) (fun i _ => n - (intOf i).toNat)
      case atStart => exact ⟨0, Nat.zero_le _, rfl, hb0, rfl⟩
      case round =>
        obtain ⟨k, hk, rfl, hb1, Ha⟩ := hrel
        (obtain ⟨x1, rfl⟩ := ext_of_grow hb1; clear hb1)
        by_cases hlt : k < n
        · obtain ⟨b_y, off_y, y, rfl, ⟨Hg_y, hl_y, hw_y, c_y0, c_y1, c_y2, c_y3, c_y4, r_y0, r_y1⟩⟩ := hav.opd k hlt
          cases hy : (opdErr y != 0)
          · go_wp2_with (first | (go_at_call 132; ((with_reducible refine (ref04_CheckOperand y _).mono ?_); rintro e w2 ⟨rfl, hb2⟩; obtain ⟨x2, rfl⟩ := ext_of_grow hb2; clear hb2)))
            go_roundw
            case rel => exact ⟨k + 1, by omega, by go_num, (by first | (rw [show j.fn = 0 from (by assumption)]; exact (by (repeat (first | (with_reducible exact Grow.refl _) | assumption | refine Grow.ext ?_ _ | refine Grow.alloc ?_ _ | refine Grow.drew ?_ | refine Grow.setCell ?_ (by first | (simp; done) | (simp; omega)) _ | refine Grow.trans ?_ (by assumption))))) | exact (by (repeat (first | (with_reducible exact Grow.refl _) | assumption | refine Grow.ext ?_ _ | refine Grow.alloc ?_ _ | refine Grow.drew ?_ | refine Grow.setCell ?_ (by first | (simp; done) | (simp; omega)) _ | refine Grow.trans ?_ (by assumption))))), all_step Hg_y Ha (by simpa using hy)⟩
            case measure => simp [intOf]; omega
          · go_wp2_with (first | (go_at_call 132; ((with_reducible refine (ref04_CheckOperand y _).mono ?_); rintro e w2 ⟨rfl, hb2⟩; obtain ⟨x2, rfl⟩ := ext_of_grow hb2; clear hb2)))
            go_ret
            refine Ret.bool ?_ (by (repeat (first | (with_reducible exact Grow.refl _) | assumption | refine Grow.ext ?_ _ | refine Grow.alloc ?_ _ | refine Grow.drew ?_ | refine Grow.setCell ?_ (by first | (simp; done) | (simp; omega)) _ | refine Grow.trans ?_ (by assumption))))
            rw [juOk_args Hg_y (by simpa using hy)]
        · go_wp2_with fail
          go_ret
          refine Ret.bool ?_ (by (repeat (first | (with_reducible exact Grow.refl _) | assumption | refine Grow.ext ?_ _ | refine Grow.alloc ?_ _ | refine Grow.drew ?_ | refine Grow.setCell ?_ (by first | (simp; done) | (simp; omega)) _ | refine Grow.trans ?_ (by assumption))))
          unfold juOk; rw [Hp.out, show argsOk j.args = true from all_end Hn (by omega) Ha]; rfl

set_option maxHeartbeats 400000 in
theorem ref06_Great (j : Ju) (av : Value) (w : World) {F : Nat → Prop} (hav : Sl F w av j.args) :
    Calls Try.prog 72 #[j.v av] w (Ret w (.bool (decide (12 < j.args.length)))) := by
  obtain ⟨a, n, cap, rfl, Hn, hm, hcap, hcm, hav⟩ := hav.open
  go_enter Try.func72, Try.ntmps72
  go_wp2_with fail
  all_goals go_ret
  all_goals (refine Ret.bool ?_ (by (repeat (first | (with_reducible exact Grow.refl _) | assumption | refine Grow.ext ?_ _ | refine Grow.alloc ?_ _ | refine Grow.drew ?_ | refine Grow.setCell ?_ (by first | (simp; done) | (simp; omega)) _ | refine Grow.trans ?_ (by assumption)))))
  all_goals (go_light; have q := Hn.out; rw [← q]; grind)
end Go.Proofs.Ytiikhfjdpaofdaa
