/- Layer 8, the reference: great programs. -/
import Derived.Test.YthackfblfkpddaaL06
namespace Go.Proofs.Ythackfblfkpddaa
open Go.RowKit
set_option linter.unusedSimpArgs false
set_option linter.unusedVariables false

def bigBk (b : Bk) : Bool := decide (30 < b.stmts.length) || decide (12 < b.jump.args.length)
def bigFn (f : Fn) : Bool := decide (30 < f.locals.length) || decide (30 < f.blocks.length) || !(f.blocks.all (fun b => !bigBk b))
def bigPr (n : Nat) (p : Pr) : Bool := decide (n < p.funcs.length) || !(p.funcs.all (fun f => !bigFn f))
theorem any_at {α : Type} {xs : List α} {p : α → Bool} {k : Nat} {x : α} (h : Hid (xs[k]? = some x)) (hx : p x = true) : (!(xs.all (fun f => !p f))) = true := by
  have hm := List.mem_of_getElem? h.out
  simp only [Bool.not_eq_true', List.all_eq_false]
  exact ⟨x, hm, by simp [hx]⟩

set_option maxHeartbeats 1000000 in
theorem ref07_Great (f : Fn) (v1 v2 : Value) (w : World) {F F' : Nat → Prop} (h1 : Sl F w v1 f.locals) (h2 : Sl F' w v2 f.blocks) :
    Calls Try.prog 40 #[f.v v1 v2] w (Ret w (.bool (bigFn f))) := by
  obtain ⟨a, n, cap, rfl, Hn, hm, hcap, hcm, h1⟩ := h1.open
  obtain ⟨a2, n2, cap2, rfl, Hn2, hm2, hcap2, hcm2, h2⟩ := h2.open
  by_cases hs : n ≤ 30 ∧ n2 ≤ 30
  · obtain ⟨hs1, hs2⟩ := hs
    go_enter Try.func40, Try.ntmps40
    go_wp2_with fail
    go_loopw [3] (fun i wr => ∃ (k : Nat), k ≤ n2 ∧ i = .int .i64 k ∧ Grow (w.alloc (Obj.cells #[.int .i64 f.params, .bool f.uns, .slice a n cap, .slice a2 n2 cap2] 50)) wr ∧ Hid ((f.blocks.take k).all (fun b => !bigBk b) = true)) (fun i _ => n2 - (intOf i).toNat)
    case atStart => exact ⟨0, Nat.zero_le _, rfl, (by (repeat (first | (with_reducible exact Grow.refl _) | assumption | refine Grow.ext ?_ _ | refine Grow.alloc ?_ _ | refine Grow.drew ?_ | refine Grow.setCell ?_ (by first | (simp; done) | (simp; omega)) _ | refine Grow.trans ?_ (by assumption)))), rfl⟩
    case round =>
      obtain ⟨k, hk, rfl, hb1, Ha⟩ := hrel
      (obtain ⟨x1, rfl⟩ := ext_of_grow hb1; clear hb1)
      by_cases hlt : k < n2
      · obtain ⟨b_b, off_b, b, b_stmts_a, b_stmts_n, b_stmts_c, b_jump_args_a, b_jump_args_n, b_jump_args_c, rfl, ⟨Hg_b, hl_b, hw_b, b_stmts, b_jump_args, c_b0, c_b1, c_b2, c_b3, c_b4, c_b5, c_b6, c_b7, c_b8, c_b9, c_b10, c_b11, c_b12, c_b13, r_b0, r_b1, r_b2, r_b3, r_b4⟩⟩ := h2.bk k hlt
        have Hl1 := Lib.hid b_stmts.len
        cases hg : decide (12 < b.jump.args.length)
        all_goals
          go_wp2_with (first | (go_at_call 65; ((with_reducible refine (ref06_Great b.jump _ _ (b_jump_args.mono (by (repeat (first | (with_reducible exact Grow.refl _) | assumption | refine Grow.ext ?_ _ | refine Grow.alloc ?_ _ | refine Grow.drew ?_ | refine Grow.setCell ?_ (by first | (simp; done) | (simp; omega)) _ | refine Grow.trans ?_ (by assumption)))))).mono ?_); rintro e w2 ⟨rfl, hb2⟩; obtain ⟨x2, rfl⟩ := ext_of_grow hb2; clear hb2)))
        all_goals
          first
          | (go_roundw
             case rel => exact ⟨k + 1, by omega, by go_num, (by (repeat (first | (with_reducible exact Grow.refl _) | assumption | refine Grow.ext ?_ _ | refine Grow.alloc ?_ _ | refine Grow.drew ?_ | refine Grow.setCell ?_ (by first | (simp; done) | (simp; omega)) _ | refine Grow.trans ?_ (by assumption)))), all_step Hg_b Ha (by go_light; have q := Hl1.out; unfold bigBk; grind)⟩
             case measure => simp [intOf]; omega)
          | (go_ret
             refine Ret.bool ?_ (by (repeat (first | (with_reducible exact Grow.refl _) | assumption | refine Grow.ext ?_ _ | refine Grow.alloc ?_ _ | refine Grow.drew ?_ | refine Grow.setCell ?_ (by first | (simp; done) | (simp; omega)) _ | refine Grow.trans ?_ (by assumption))))
             have hf : bigBk b = true := by go_light; have q := Hl1.out; unfold bigBk; grind
             unfold bigFn; rw [any_at Hg_b hf]; simp)
      · go_wp2_with fail
        go_ret
        refine Ret.bool ?_ (by (repeat (first | (with_reducible exact Grow.refl _) | assumption | refine Grow.ext ?_ _ | refine Grow.alloc ?_ _ | refine Grow.drew ?_ | refine Grow.setCell ?_ (by first | (simp; done) | (simp; omega)) _ | refine Grow.trans ?_ (by assumption))))
        have q1 := Hn.out; have q2 := Hn2.out
        unfold bigFn; rw [all_end Hn2 (by omega) Ha, ← q1, ← q2]; simp; omega
  · go_enter Try.func40, Try.ntmps40
    go_wp2_with fail
    all_goals (first
      | (go_ret; refine Ret.bool ?_ (by (repeat (first | (with_reducible exact Grow.refl _) | assumption | refine Grow.ext ?_ _ | refine Grow.alloc ?_ _ | refine Grow.drew ?_ | refine Grow.setCell ?_ (by first | (simp; done) | (simp; omega)) _ | refine Grow.trans ?_ (by assumption)))); have q1 := Hn.out; have q2 := Hn2.out; unfold bigFn; rw [← q1, ← q2]; simp; omega)
      | (exfalso; omega))
set_option maxHeartbeats 1000000 in
theorem ref08_Great (p : Pr) (pv : Value) (w : World) {F : Nat → Prop} (hp : Sl F w pv p.funcs) :
    Calls Try.prog 14 #[p.v pv] w (Ret w (.bool (bigPr 12 p))) := by
  obtain ⟨a, n, cap, rfl, Hn, hm, hcap, hcm, hp⟩ := hp.open
  by_cases hs : n ≤ 12
  · go_enter Try.func14, Try.ntmps14
    go_wp2_with fail
    go_loopw [3] (fun i wr => ∃ (k : Nat), k ≤ n ∧ i = .int .i64 k ∧ Grow (w.alloc (Obj.cells #[.slice a n cap] 43)) wr ∧ Hid ((p.funcs.take k).all (fun b => !bigFn b) = true)) (fun i _ => n - (intOf i).toNat)
    case atStart => exact ⟨0, Nat.zero_le _, rfl, (by (repeat (first | (with_reducible exact Grow.refl _) | assumption | refine Grow.ext ?_ _ | refine Grow.alloc ?_ _ | refine Grow.drew ?_ | refine Grow.setCell ?_ (by first | (simp; done) | (simp; omega)) _ | refine Grow.trans ?_ (by assumption)))), rfl⟩
    case round =>
      obtain ⟨k, hk, rfl, hb1, Ha⟩ := hrel
      (obtain ⟨x1, rfl⟩ := ext_of_grow hb1; clear hb1)
      by_cases hlt : k < n
      · obtain ⟨b_f, off_f, f, f_locals_a, f_locals_n, f_locals_c, f_blocks_a, f_blocks_n, f_blocks_c, rfl, ⟨Hg_f, hl_f, hw_f, f_locals, f_blocks, c_f0, c_f1, c_f2, c_f3, r_f0⟩⟩ := hp.fn k hlt
        cases hg : bigFn f
        · go_wp2_with (first | (go_at_call 40; ((with_reducible refine (ref07_Great f _ _ _ (f_locals.mono (by (repeat (first | (with_reducible exact Grow.refl _) | assumption | refine Grow.ext ?_ _ | refine Grow.alloc ?_ _ | refine Grow.drew ?_ | refine Grow.setCell ?_ (by first | (simp; done) | (simp; omega)) _ | refine Grow.trans ?_ (by assumption))))) (f_blocks.mono (by (repeat (first | (with_reducible exact Grow.refl _) | assumption | refine Grow.ext ?_ _ | refine Grow.alloc ?_ _ | refine Grow.drew ?_ | refine Grow.setCell ?_ (by first | (simp; done) | (simp; omega)) _ | refine Grow.trans ?_ (by assumption)))))).mono ?_); rintro e w2 ⟨rfl, hb2⟩; obtain ⟨x2, rfl⟩ := ext_of_grow hb2; clear hb2)))
          go_roundw
          case rel => exact ⟨k + 1, by omega, by go_num, (by (repeat (first | (with_reducible exact Grow.refl _) | assumption | refine Grow.ext ?_ _ | refine Grow.alloc ?_ _ | refine Grow.drew ?_ | refine Grow.setCell ?_ (by first | (simp; done) | (simp; omega)) _ | refine Grow.trans ?_ (by assumption)))), all_step Hg_f Ha (by simp [hg])⟩
          case measure => simp [intOf]; omega
        · go_wp2_with (first | (go_at_call 40; ((with_reducible refine (ref07_Great f _ _ _ (f_locals.mono (by (repeat (first | (with_reducible exact Grow.refl _) | assumption | refine Grow.ext ?_ _ | refine Grow.alloc ?_ _ | refine Grow.drew ?_ | refine Grow.setCell ?_ (by first | (simp; done) | (simp; omega)) _ | refine Grow.trans ?_ (by assumption))))) (f_blocks.mono (by (repeat (first | (with_reducible exact Grow.refl _) | assumption | refine Grow.ext ?_ _ | refine Grow.alloc ?_ _ | refine Grow.drew ?_ | refine Grow.setCell ?_ (by first | (simp; done) | (simp; omega)) _ | refine Grow.trans ?_ (by assumption)))))).mono ?_); rintro e w2 ⟨rfl, hb2⟩; obtain ⟨x2, rfl⟩ := ext_of_grow hb2; clear hb2)))
          go_ret
          refine Ret.bool ?_ (by (repeat (first | (with_reducible exact Grow.refl _) | assumption | refine Grow.ext ?_ _ | refine Grow.alloc ?_ _ | refine Grow.drew ?_ | refine Grow.setCell ?_ (by first | (simp; done) | (simp; omega)) _ | refine Grow.trans ?_ (by assumption))))
          unfold bigPr; rw [any_at Hg_f hg]; simp
      · go_wp2_with fail
        go_ret
        refine Ret.bool ?_ (by (repeat (first | (with_reducible exact Grow.refl _) | assumption | refine Grow.ext ?_ _ | refine Grow.alloc ?_ _ | refine Grow.drew ?_ | refine Grow.setCell ?_ (by first | (simp; done) | (simp; omega)) _ | refine Grow.trans ?_ (by assumption))))
        have q1 := Hn.out
        unfold bigPr; rw [all_end Hn (by omega) Ha, ← q1]; simp; omega
  · go_enter Try.func14, Try.ntmps14
    go_wp2_with fail
    all_goals (first
      | (go_ret; refine Ret.bool ?_ (by (repeat (first | (with_reducible exact Grow.refl _) | assumption | refine Grow.ext ?_ _ | refine Grow.alloc ?_ _ | refine Grow.drew ?_ | refine Grow.setCell ?_ (by first | (simp; done) | (simp; omega)) _ | refine Grow.trans ?_ (by assumption)))); have q1 := Hn.out; unfold bigPr; rw [← q1]; simp; omega)
      | (exfalso; omega))
end Go.Proofs.Ythackfblfkpddaa
