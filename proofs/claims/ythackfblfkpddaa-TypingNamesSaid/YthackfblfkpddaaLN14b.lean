/- Layer 14: the examples of calls. -/
import Derived.Test.YthackfblfkpddaaLN14
import Derived.Test.YthackfblfkpddaaL14k
namespace Go.Proofs.Ythackfblfkpddaa
open Go.RowKit
set_option linter.unusedSimpArgs false
set_option linter.unusedVariables false

set_option maxRecDepth 100000 in
set_option maxHeartbeats 4000000 in
theorem law14_called (av : Value) (args : List Opd) (dest : Pl) (w : World) {F : Nat → Prop} (ha : Sl F w av args) (hwf : (callJ args dest).wf) :
    Calls Try.prog 10 #[av, dest.v] w (Ret w (.int .i64 (jumpErr ⟨[twoF0 args dest, twoF1 2]⟩ 0 (callJ args dest)))) := by
  obtain ⟨r, Hr⟩ : ∃ r, Hid (jumpErr ⟨[twoF0 args dest, twoF1 2]⟩ 0 (callJ args dest) = r) := ⟨_, Lib.hid rfl⟩
  rw [Hr.out]
  have HJ := Lib.hid (fun pv jv w' F F' hp hjv => by have h := typing_Jump ⟨[twoF0 args dest, twoF1 2]⟩ pv jv 0 (callJ args dest) w' (F := F) (F'' := F') hp hjv hwf i0; rw [Hr.out] at h; exact h)
  clear Hr
  go_enter Try.func10, Try.ntmps10
  go_upto_region 2 with (first
    | (go_at_call 11; ((with_reducible refine (law14_two _ args dest _ (ha.mono (by (repeat (first | (with_reducible exact Grow.refl _) | assumption | refine Grow.ext ?_ _ | refine Grow.alloc ?_ _ | refine Grow.drew ?_ | refine Grow.setCell ?_ (by first | (simp; done) | (simp; omega)) _ | refine Grow.trans ?_ (by assumption))))) hwf).mono ?_); rintro e w1 ⟨_, rfl, ⟨b, B, rfl, -, hpr⟩, hg1⟩; have hsl : Sl (fun _ => True) _ (.slice (some ⟨b, 0, none⟩) 2 2) _ := hpr.sl (by simp); obtain ⟨x1, rfl⟩ := ext_of_grow hg1; clear hg1)))
  (obtain ⟨b_f, off_f, f, f_locals_a, f_locals_n, f_locals_c, f_blocks_a, f_blocks_n, f_blocks_c, he_f, ⟨Hg_f, hl_f, hw_f, f_locals, f_blocks, c_f0, c_f1, c_f2, c_f3, r_f0⟩⟩ := hsl.fn 0 (by omega); simp only [Option.some.injEq, Addr.mk.injEq, and_true] at he_f; obtain ⟨rfl, rfl⟩ := he_f)
  have ef := Hg_f.out
  simp only [List.getElem?_cons_zero, Option.some.injEq] at ef
  subst ef
  obtain ⟨b_q, off_q, q, q_stmts_a, q_stmts_n, q_stmts_c, q_jump_args_a, q_jump_args_n, q_jump_args_c, rfl, ⟨Hg_q, hl_q, hw_q, q_stmts, q_jump_args, c_q0, c_q1, c_q2, c_q3, c_q4, c_q5, c_q6, c_q7, c_q8, c_q9, c_q10, c_q11, c_q12, c_q13, r_q0, r_q1, r_q2, r_q3, r_q4⟩⟩ := f_blocks.bk 0 (by have := f_blocks.len; simp at this; omega)
  have eq := Hg_q.out
  simp only [List.getElem?_cons_zero, Option.some.injEq] at eq
  subst eq
  obtain rfl : f_blocks_n = 2 := by have := f_blocks.len; simpa using this
  clear Hg_f Hg_q
  (refine wp_region_ext (by kernel_rfl) (by kernel_rfl) ?_; (repeat (any_goals (first | go_big_quiet_step (first | (go_at_call 12; refine ext_call (HJ.out _ _ _ _ _ (hsl.mono (by (repeat (first | (with_reducible exact Grow.refl _) | assumption | refine Grow.ext ?_ _ | refine Grow.alloc ?_ _ | refine Grow.drew ?_ | refine Grow.setCell ?_ (by first | (simp; done) | (simp; omega)) _ | refine Grow.trans ?_ (by assumption))))) (q_jump_args.mono (by (repeat (first | (with_reducible exact Grow.refl _) | assumption | refine Grow.ext ?_ _ | refine Grow.alloc ?_ _ | refine Grow.drew ?_ | refine Grow.setCell ?_ (by first | (simp; done) | (simp; omega)) _ | refine Grow.trans ?_ (by assumption)))))))) | (refine wpQuiet_step (fun K hK => ?_); go_simp; split <;> (refine hK _ ?_; clear hK K))))); all_goals (refine wpQuiet_nil ?_; intro w2 hb2; obtain ⟨x2, rfl⟩ := ext_of_grow hb2; clear hb2))
  all_goals
    go_wp2_with fail
    go_ret
    exact Ret.mk rfl (by (repeat (first | (with_reducible exact Grow.refl _) | assumption | refine Grow.ext ?_ _ | refine Grow.alloc ?_ _ | refine Grow.drew ?_ | refine Grow.setCell ?_ (by first | (simp; done) | (simp; omega)) _ | refine Grow.trans ?_ (by assumption))))
end Go.Proofs.Ythackfblfkpddaa
