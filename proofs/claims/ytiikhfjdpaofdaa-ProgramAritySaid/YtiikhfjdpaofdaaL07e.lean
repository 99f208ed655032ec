/- Layer 7: sizes of functions, and their heads. -/
import Derived.Test.YtiikhfjdpaofdaaL06c
namespace Go.Proofs.Ytiikhfjdpaofdaa
open Go.RowKit
set_option linter.unusedSimpArgs false
set_option linter.unusedVariables false

def smallBk (b : Bk) : Bool := decide (b.stmts.length ≤ 24)
def small (f : Fn) : Bool := decide (f.locals.length ≤ 16) && decide (f.blocks.length ≤ 24) && f.blocks.all smallBk
theorem small_stop {f : Fn} {b : Bk} {k : Nat} (h : Hid (f.blocks[k]? = some b)) (hb : smallBk b = false) : small f = false := by
  unfold small; rw [all_not h hb]; simp
set_option maxHeartbeats 1000000 in
theorem fnshape_large (f : Fn) (v1 v2 : Value) (w : World) {F F' : Nat → Prop} (h1 : Sl F w v1 f.locals) (h2 : Sl F' w v2 f.blocks) :
    Calls Try.prog 73 #[f.v v1 v2] w (Ret w (.bool (!small f))) := by
  obtain ⟨a, n, cap, rfl, Hn, hm, hcap, hcm, h1⟩ := h1.open
  obtain ⟨a2, n2, cap2, rfl, Hn2, hm2, hcap2, hcm2, h2⟩ := h2.open
  by_cases hs : n ≤ 16 ∧ n2 ≤ 24
  · obtain ⟨hs1, hs2⟩ := hs
    go_enter Try.func73, Try.ntmps73
    go_wp2_with fail
    go_loopw [18] (fun i wr => ∃ (k : Nat), k ≤ n2 ∧ i = .int .i64 k ∧ Grow (w.alloc (Obj.cells #[.int .i64 f.params, .bool f.uns, .slice a n cap, .slice a2 n2 cap2] 49)) wr ∧ Hid ((f.blocks.take k).all smallBk = true)) (fun i _ => n2 - (intOf i).toNat)
    case atStart => exact ⟨0, Nat.zero_le _, rfl, (by (repeat (first | (with_reducible exact Grow.refl _) | assumption | refine Grow.ext ?_ _ | refine Grow.alloc ?_ _ | refine Grow.drew ?_ | refine Grow.setCell ?_ (by first | (simp; done) | (simp; omega)) _ | refine Grow.trans ?_ (by assumption)))), rfl⟩
    case round =>
      obtain ⟨k, hk, rfl, hb1, Ha⟩ := hrel
      (obtain ⟨x1, rfl⟩ := ext_of_grow hb1; clear hb1)
      by_cases hlt : k < n2
      · obtain ⟨b_b, off_b, b, b_stmts_a, b_stmts_n, b_stmts_c, b_jump_args_a, b_jump_args_n, b_jump_args_c, rfl, ⟨Hg_b, hl_b, hw_b, b_stmts, b_jump_args, c_b0, c_b1, c_b2, c_b3, c_b4, c_b5, c_b6, c_b7, c_b8, c_b9, c_b10, c_b11, c_b12, c_b13, r_b0, r_b1, r_b2, r_b3, r_b4⟩⟩ := h2.bk k hlt
        have Hl1 := Lib.hid b_stmts.len
        by_cases hc : b_stmts_n ≤ 24
        all_goals go_wp2_with fail
        all_goals
          first
          | (go_roundw
             case rel => exact ⟨k + 1, by omega, by go_num, (by (repeat (first | (with_reducible exact Grow.refl _) | assumption | refine Grow.ext ?_ _ | refine Grow.alloc ?_ _ | refine Grow.drew ?_ | refine Grow.setCell ?_ (by first | (simp; done) | (simp; omega)) _ | refine Grow.trans ?_ (by assumption)))), all_step Hg_b Ha (by have q := Hl1.out; unfold smallBk; simp; omega)⟩
             case measure => simp [intOf]; omega)
          | (go_ret
             refine Ret.bool ?_ (by (repeat (first | (with_reducible exact Grow.refl _) | assumption | refine Grow.ext ?_ _ | refine Grow.alloc ?_ _ | refine Grow.drew ?_ | refine Grow.setCell ?_ (by first | (simp; done) | (simp; omega)) _ | refine Grow.trans ?_ (by assumption))))
             rw [small_stop Hg_b (by have q := Hl1.out; unfold smallBk; simp; omega)]; rfl)
      · go_wp2_with fail
        go_ret
        refine Ret.bool ?_ (by (repeat (first | (with_reducible exact Grow.refl _) | assumption | refine Grow.ext ?_ _ | refine Grow.alloc ?_ _ | refine Grow.drew ?_ | refine Grow.setCell ?_ (by first | (simp; done) | (simp; omega)) _ | refine Grow.trans ?_ (by assumption))))
        have q1 := Hn.out; have q2 := Hn2.out
        unfold small; rw [all_end Hn2 (by omega) Ha, ← q1, ← q2]; simp; omega
  · go_enter Try.func73, Try.ntmps73
    go_wp2_with fail
    all_goals (first
      | (go_ret; refine Ret.bool ?_ (by (repeat (first | (with_reducible exact Grow.refl _) | assumption | refine Grow.ext ?_ _ | refine Grow.alloc ?_ _ | refine Grow.drew ?_ | refine Grow.setCell ?_ (by first | (simp; done) | (simp; omega)) _ | refine Grow.trans ?_ (by assumption)))); have q1 := Hn.out; have q2 := Hn2.out; unfold small; rw [← q1, ← q2]; simp; omega)
      | (exfalso; omega))
set_option maxHeartbeats 1000000 in
theorem ref07_many (f : Fn) (v1 v2 : Value) (w : World) {F F' : Nat → Prop} (h1 : Sl F w v1 f.locals) (h2 : Sl F' w v2 f.blocks) :
    Calls Try.prog 83 #[f.v v1 v2] w (Ret w (.bool (!small f))) := by
  obtain ⟨a, n, cap, rfl, Hn, hm, hcap, hcm, h1⟩ := h1.open
  obtain ⟨a2, n2, cap2, rfl, Hn2, hm2, hcap2, hcm2, h2⟩ := h2.open
  by_cases hs : n ≤ 16 ∧ n2 ≤ 24
  · obtain ⟨hs1, hs2⟩ := hs
    go_enter Try.func83, Try.ntmps83
    go_wp2_with fail
    go_loopw [3] (fun i wr => ∃ (k : Nat), k ≤ n2 ∧ i = .int .i64 k ∧ Grow (w.alloc (Obj.cells #[.int .i64 f.params, .bool f.uns, .slice a n cap, .slice a2 n2 cap2] 49)) wr ∧ Hid ((f.blocks.take k).all smallBk = true)) (fun i _ => n2 - (intOf i).toNat)
    case atStart => exact ⟨0, Nat.zero_le _, rfl, (by (repeat (first | (with_reducible exact Grow.refl _) | assumption | refine Grow.ext ?_ _ | refine Grow.alloc ?_ _ | refine Grow.drew ?_ | refine Grow.setCell ?_ (by first | (simp; done) | (simp; omega)) _ | refine Grow.trans ?_ (by assumption)))), rfl⟩
    case round =>
      obtain ⟨k, hk, rfl, hb1, Ha⟩ := hrel
      (obtain ⟨x1, rfl⟩ := ext_of_grow hb1; clear hb1)
      by_cases hlt : k < n2
      · obtain ⟨b_b, off_b, b, b_stmts_a, b_stmts_n, b_stmts_c, b_jump_args_a, b_jump_args_n, b_jump_args_c, rfl, ⟨Hg_b, hl_b, hw_b, b_stmts, b_jump_args, c_b0, c_b1, c_b2, c_b3, c_b4, c_b5, c_b6, c_b7, c_b8, c_b9, c_b10, c_b11, c_b12, c_b13, r_b0, r_b1, r_b2, r_b3, r_b4⟩⟩ := h2.bk k hlt
        have Hl1 := Lib.hid b_stmts.len
        by_cases hc : b_stmts_n ≤ 24
        all_goals go_wp2_with fail
        all_goals
          first
          | (go_roundw
             case rel => exact ⟨k + 1, by omega, by go_num, (by (repeat (first | (with_reducible exact Grow.refl _) | assumption | refine Grow.ext ?_ _ | refine Grow.alloc ?_ _ | refine Grow.drew ?_ | refine Grow.setCell ?_ (by first | (simp; done) | (simp; omega)) _ | refine Grow.trans ?_ (by assumption)))), all_step Hg_b Ha (by have q := Hl1.out; unfold smallBk; simp; omega)⟩
             case measure => simp [intOf]; omega)
          | (go_ret
             refine Ret.bool ?_ (by (repeat (first | (with_reducible exact Grow.refl _) | assumption | refine Grow.ext ?_ _ | refine Grow.alloc ?_ _ | refine Grow.drew ?_ | refine Grow.setCell ?_ (by first | (simp; done) | (simp; omega)) _ | refine Grow.trans ?_ (by assumption))))
             rw [small_stop Hg_b (by have q := Hl1.out; unfold smallBk; simp; omega)]; rfl)
      · go_wp2_with fail
        go_ret
        refine Ret.bool ?_ (by (repeat (first | (with_reducible exact Grow.refl _) | assumption | refine Grow.ext ?_ _ | refine Grow.alloc ?_ _ | refine Grow.drew ?_ | refine Grow.setCell ?_ (by first | (simp; done) | (simp; omega)) _ | refine Grow.trans ?_ (by assumption))))
        have q1 := Hn.out; have q2 := Hn2.out
        unfold small; rw [all_end Hn2 (by omega) Ha, ← q1, ← q2]; simp; omega
  · go_enter Try.func83, Try.ntmps83
    go_wp2_with fail
    all_goals (first
      | (go_ret; refine Ret.bool ?_ (by (repeat (first | (with_reducible exact Grow.refl _) | assumption | refine Grow.ext ?_ _ | refine Grow.alloc ?_ _ | refine Grow.drew ?_ | refine Grow.setCell ?_ (by first | (simp; done) | (simp; omega)) _ | refine Grow.trans ?_ (by assumption)))); have q1 := Hn.out; have q2 := Hn2.out; unfold small; rw [← q1, ← q2]; simp; omega)
      | (exfalso; omega))

def fnHead (f : Fn) : Bool := decide (1 ≤ f.locals.length) && decide (0 ≤ f.params) && decide (f.params ≤ 8) && decide (f.params < (f.locals.length : Int)) && f.locals.all (fun t => decide (TyOk t)) && decide ((f.locals.getD 0 ⟨0, 0⟩).to = 0)
set_option maxHeartbeats 1000000 in
theorem fnshape_head (f : Fn) (v1 v2 : Value) (w : World) {F F' : Nat → Prop} (hf : f.wf) (h1 : Sl F w v1 f.locals) (h2 : Sl F' w v2 f.blocks) :
    Calls Try.prog 93 #[f.v v1 v2] w (Ret w (.bool (fnHead f))) := by
  obtain ⟨a, n, cap, rfl, Hn, hm, hcap, hcm, h1⟩ := h1.open
  obtain ⟨a2, n2, cap2, rfl, Hn2, hm2, hcap2, hcm2, h2⟩ := h2.open
  have hw := hf.params
  by_cases hs : 1 ≤ n ∧ 0 ≤ f.params ∧ f.params ≤ 8 ∧ f.params < n
  · obtain ⟨hs1, hs2, hs3, hs4⟩ := hs
    have hn0 : ((n : Int) == 0) = false := by simp; omega
    go_enter Try.func93, Try.ntmps93
    go_wp2_with fail
    go_loopw [32] (fun i wr => ∃ (k : Nat), k ≤ n ∧ i = .int .i64 k ∧ Grow (w.alloc (Obj.cells #[.int .i64 f.params, .bool f.uns, .slice a n cap, .slice a2 n2 cap2] 49)) wr ∧ Hid ((f.locals.take k).all (fun t => decide (TyOk t)) = true)) (fun i _ => n - (intOf i).toNat)
    case atStart => exact ⟨0, Nat.zero_le _, rfl, (by (repeat (first | (with_reducible exact Grow.refl _) | assumption | refine Grow.ext ?_ _ | refine Grow.alloc ?_ _ | refine Grow.drew ?_ | refine Grow.setCell ?_ (by first | (simp; done) | (simp; omega)) _ | refine Grow.trans ?_ (by assumption)))), rfl⟩
    case round =>
      obtain ⟨k, hk, rfl, hb1, Ha⟩ := hrel
      (obtain ⟨x1, rfl⟩ := ext_of_grow hb1; clear hb1)
      by_cases hlt : k < n
      · obtain ⟨b_t, off_t, t, rfl, ⟨Hg_t, hl_t, hw_t, c_t0, c_t1, r_t0⟩⟩ := h1.ty k hlt
        cases hg : (tyErr t != 0)
        · go_wp2_with (first | (go_at_call 78; ((with_reducible refine (shape_Check t _).mono ?_); rintro e w2 ⟨rfl, hb2⟩; obtain ⟨x2, rfl⟩ := ext_of_grow hb2; clear hb2)))
          go_roundw
          case rel => exact ⟨k + 1, by omega, by go_num, (by (repeat (first | (with_reducible exact Grow.refl _) | assumption | refine Grow.ext ?_ _ | refine Grow.alloc ?_ _ | refine Grow.drew ?_ | refine Grow.setCell ?_ (by first | (simp; done) | (simp; omega)) _ | refine Grow.trans ?_ (by assumption)))), all_step Hg_t Ha (by simpa [tyErr_iff] using hg)⟩
          case measure => simp [intOf]; omega
        · go_wp2_with (first | (go_at_call 78; ((with_reducible refine (shape_Check t _).mono ?_); rintro e w2 ⟨rfl, hb2⟩; obtain ⟨x2, rfl⟩ := ext_of_grow hb2; clear hb2)))
          go_ret
          refine Ret.bool ?_ (by (repeat (first | (with_reducible exact Grow.refl _) | assumption | refine Grow.ext ?_ _ | refine Grow.alloc ?_ _ | refine Grow.drew ?_ | refine Grow.setCell ?_ (by first | (simp; done) | (simp; omega)) _ | refine Grow.trans ?_ (by assumption))))
          have q : (f.locals.all fun t => decide (TyOk t)) = false := all_not Hg_t (by simpa [tyErr_iff] using hg)
          unfold fnHead; rw [q]; simp
      · have Hall := Lib.hid (all_end Hn (by omega) Ha)
        obtain ⟨b_t0, off_t0, t0, rfl, ⟨Hg_t0, hl_t0, hw_t0, c_t00, c_t01, r_t00⟩⟩ := h1.ty 0 (by omega)
        simp only [Nat.zero_mul, Nat.add_zero] at c_t00 c_t01 r_t00
        have Hok : Hid (TyOk t0) := by
          refine Lib.hid ?_; exact of_decide_eq_true (List.all_eq_true.1 Hall.out t0 (List.mem_of_getElem? Hg_t0.out))
        have Ht : Hid (f.locals.getD 0 ⟨0, 0⟩ = t0) := by show _ = _; rw [List.getD_eq_getElem?_getD, Hg_t0.out]; rfl
        have Htg : Hid (((targetOf t0).2 == 6) = decide (t0.to = 0)) := by
          show _ = _
          have q := Hok.out
          unfold targetOf; rw [if_neg (fun h => h q)]; by_cases h : t0.to = 0 <;> simp [h]
        go_wp2_with (first | (go_at_call 114; ((with_reducible refine (shape_Target t0 _).mono ?_); rintro e w2 ⟨rfl, hb2⟩; obtain ⟨x2, rfl⟩ := ext_of_grow hb2; clear hb2)))
        go_ret
        refine Ret.bool ?_ (by (repeat (first | (with_reducible exact Grow.refl _) | assumption | refine Grow.ext ?_ _ | refine Grow.alloc ?_ _ | refine Grow.drew ?_ | refine Grow.setCell ?_ (by first | (simp; done) | (simp; omega)) _ | refine Grow.trans ?_ (by assumption))))
        have q := Hn.out
        rw [Htg.out]; unfold fnHead; rw [Hall.out, Ht.out, ← q]; simp; omega
  · have Hs := Lib.hid hs
    go_enter Try.func93, Try.ntmps93
    go_wp2_with fail
    all_goals (first
      | (exfalso; omega)
      | (go_ret; refine Ret.bool ?_ (by (repeat (first | (with_reducible exact Grow.refl _) | assumption | refine Grow.ext ?_ _ | refine Grow.alloc ?_ _ | refine Grow.drew ?_ | refine Grow.setCell ?_ (by first | (simp; done) | (simp; omega)) _ | refine Grow.trans ?_ (by assumption)))); have q := Hn.out; have q1 := Hs.out; unfold fnHead; rw [← q]; go_light; simp; omega))
end Go.Proofs.Ytiikhfjdpaofdaa
