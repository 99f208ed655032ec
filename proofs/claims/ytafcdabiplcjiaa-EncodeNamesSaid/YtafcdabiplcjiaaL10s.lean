/- Layer 10: a string's bytes: string to []byte. Layer 10: the chapter's examples, in plain. Layer 10: the law's examples. -/
import Derived.Test.YtafcdabiplcjiaaL10l
import Derived.Test.YtafcdabiplcjiaaL09k
import Derived.Test.YtafcdabiplcjiaaLG08
import Derived.Lib.ConvBytes
import Derived.Lib.SlBytesConst
namespace Go.Proofs.Ytafcdabiplcjiaa
open Go.RowKit
set_option linter.unusedSimpArgs false
set_option linter.unusedVariables false

theorem conv_bytes (l : List Nat) (hl : ∀ x ∈ l, x < 256) (hn : l.length ≤ 5000) (w : World) :
    ∃ v w', (convert 9 27 (.string (strB l))).run Try.prog w = .ok v w' ∧ Grow w w' ∧ Sl (Fresh w) w' v l := by
  have hsz : (strB l).size = l.length := by simp [strB, ByteArray.size]
  refine ⟨_, _, Lib.run_convert_string_bytes w 9 27 5 (strB l) Try.underlying9 Try.underlying27 Try.underlying5, ?_, ?_⟩
  · exact ⟨rfl, rfl, rfl, by rw [Lib.bytesWorld_size]; omega, fun k hk => Lib.bytesWorld_at_old w _ _ k hk⟩
  · rw [hsz]
    refine ⟨_, _, rfl, grownCap_ge w _ 0 _, grownCap_le_maxLen w _ 0 _ (by unfold maxLen; omega), (fun h => by cases h), fun i hi => ⟨w.heap.size, 0, rfl, Or.inr (Nat.le_refl _), by rw [Lib.bytesWorld_size]; omega, [.int .u8 (l[i] : Nat)], ⟨rfl, hl _ (List.getElem_mem hi)⟩, ?_⟩⟩
    intro j hj
    obtain rfl : j = 0 := by simpa using hj
    have q := Lib.bytesWorld_cell w 5 (strB l) i (by rw [hsz]; exact hi)
    simp only [sz_nat, Nat.mul_one, Nat.zero_add, Nat.add_zero]
    rw [q]
    have hm := hl _ (List.getElem_mem hi)
    simp [strB, List.getD_eq_getElem?_getD, hi]
    omega
theorem dec_one : (decPr [1, 0, 0, 1, 0, 1, 0, 3] = (⟨[⟨0, false, [⟨1, 0⟩], [⟨[], ⟨3, ⟨0, 0, ⟨0, false, 0⟩⟩, 0, 0, 0, [], ⟨0, false, 0⟩⟩⟩]⟩]⟩, 0)) ∧ decPr [1, 0, 0, 1, 0, 1, 0] = (⟨[]⟩, 24) ∧ decPr [1, 0, 0, 1, 0, 1, 0, 3, 0] = (⟨[]⟩, 38) ∧ decPr [1, 0, 0, 1, 0, 1, 0, 6] = (⟨[]⟩, 16) := by decide +kernel
/-- A string as bytes, as a step. -/
theorem wpList_convB {ops : Array Oper} {rest : List Oper} {o : Oper} {a : Act} {w : World} {Q : Exit → Act → World → Prop} {x : Operand} (hgd : o.guard = none)
    (ho : o.op = .convert 9 27 x) {l : List Nat} (hx : a.eval x = .string (strB l)) (hl : ∀ x ∈ l, x < 256) (hn : l.length ≤ 5000)
    (h : ∀ v x', Sl (Fresh w) (ext w x') v l → wpList Try.prog ops Q rest (a.put o.dst v) (ext w x')) : wpList Try.prog ops Q (o :: rest) a w := by
  obtain ⟨v, w', hr, hg, hs⟩ := conv_bytes l hl hn w
  obtain ⟨x', rfl⟩ := ext_of_grow hg
  refine wpList_plain hgd fun _ hK => ?_
  unfold Oper.wp execOp
  simp only [ho, hx, hr, Sem.run_bind, Sem.run_pure, Result.andThen_ok]
  exact hK _ _ (h v x' hs)
/-- Literal bytes in a block of their own. -/
theorem sl_lit {w : World} {g n cap : Nat} {T : TypeId} {fr : Nat × Nat} {l : List Nat} (hn : n = l.length) (hg : w.heap[g]? = some (.cells (l.map fun n : Nat => (Value.int .u8 (n : Int))).toArray T fr)) (hb : ∀ x ∈ l, x < 256) (hc : l.length ≤ cap) (hm : cap ≤ 9223372036854775807) : Sl (fun _ => True) w (.slice (some ⟨g, 0, none⟩) n cap) l := by
  subst hn
  refine ⟨_, cap, rfl, hc, hm, (fun h => by cases h), fun i hi => ⟨g, 0, rfl, trivial, (Array.getElem?_eq_some_iff.1 hg).1, [.int .u8 (l[i] : Nat)], ⟨rfl, hb _ (List.getElem_mem hi)⟩, fun j hj => ?_⟩⟩
  obtain rfl : j = 0 := by simpa using hj
  simp [World.cell?, hg, hi, sz_nat]
set_option maxRecDepth 100000 in
set_option maxHeartbeats 2000000 in
theorem law10_fails (l : List Nat) (want : Int) (hl : ∀ x ∈ l, x < 256) (hn : l.length ≤ 5000) (h : decPr l = (⟨[]⟩, want)) (w : World) :
    Calls Try.prog 27 #[.string (strB l), .int .i64 want] w (Ret w (.bool true)) := by
  have Hh := Lib.hid h
  clear h
  obtain ⟨v0, w0, hr0, hg0, hs1⟩ := conv_bytes l hl hn w
  obtain ⟨x0, rfl⟩ := ext_of_grow hg0
  obtain ⟨a1, n1, c1, rfl, Hn1, hm1, hcap1, hcm1, hs1⟩ := hs1.open
  clear hg0
  go_enter Try.func27, Try.ntmps27
  go_wp2_with (first
    | (go_at_call 29; ((with_reducible refine (decode_Program _ l _ (hs1.mono (by (repeat (first | (with_reducible exact Grow.refl _) | assumption | refine Grow.ext ?_ _ | refine Grow.alloc ?_ _ | refine Grow.drew ?_ | refine Grow.setCell ?_ (by first | (simp; done) | (simp; omega)) _ | refine Grow.trans ?_ (by assumption)))))).mono ?_); rintro e w2 ⟨_, rfl, ⟨v2, rfl, ho2⟩, hg2⟩; rw [Hh.out]; rw [Hh.out] at ho2; obtain ⟨a2, n2, c2, rfl, Hn2, hn2, ho2⟩ := ho2.open; obtain rfl : n2 = 0 := Hn2.out; obtain ⟨x2, rfl⟩ := ext_of_grow hg2; clear hg2)))
  go_ret
  exact Ret.bool rfl (by (repeat (first | (with_reducible exact Grow.refl _) | assumption | refine Grow.ext ?_ _ | refine Grow.alloc ?_ _ | refine Grow.drew ?_ | refine Grow.setCell ?_ (by first | (simp; done) | (simp; omega)) _ | refine Grow.trans ?_ (by assumption))))
set_option maxRecDepth 100000 in
set_option maxHeartbeats 4000000 in
theorem law10_alive (w : World) : Calls Try.prog 30 #[] w (Ret w (.bool true)) := by
  have Hd := Lib.hid dec_one
  have e1 : strB [1, 0, 0, 1, 0, 1, 0] = ⟨#[1, 0, 0, 1, 0, 1, 0]⟩ := by kernel_rfl
  have e2 : strB [1, 0, 0, 1, 0, 1, 0, 3, 0] = ⟨#[1, 0, 0, 1, 0, 1, 0, 3, 0]⟩ := by kernel_rfl
  have e3 : strB [1, 0, 0, 1, 0, 1, 0, 6] = ⟨#[1, 0, 0, 1, 0, 1, 0, 6]⟩ := by kernel_rfl
  have H1 : Hid (∀ w, Calls Try.prog 27 #[.string ⟨#[1, 0, 0, 1, 0, 1, 0]⟩, .int .i64 24] w (Ret w (.bool true))) := Lib.hid (fun w => by rw [← e1]; exact law10_fails _ _ (by decide) (by decide) Hd.out.2.1 w)
  have H2 : Hid (∀ w, Calls Try.prog 27 #[.string ⟨#[1, 0, 0, 1, 0, 1, 0, 3, 0]⟩, .int .i64 38] w (Ret w (.bool true))) := Lib.hid (fun w => by rw [← e2]; exact law10_fails _ _ (by decide) (by decide) Hd.out.2.2.1 w)
  have H3 : Hid (∀ w, Calls Try.prog 27 #[.string ⟨#[1, 0, 0, 1, 0, 1, 0, 6]⟩, .int .i64 16] w (Ret w (.bool true))) := Lib.hid (fun w => by rw [← e3]; exact law10_fails _ _ (by decide) (by decide) Hd.out.2.2.2 w)
  have Hp : Hid (decPr [1, 0, 0, 1, 0, 1, 0, 3] = (⟨[⟨0, false, [⟨1, 0⟩], [⟨[], ⟨3, ⟨0, 0, ⟨0, false, 0⟩⟩, 0, 0, 0, [], ⟨0, false, 0⟩⟩⟩]⟩]⟩, 0)) := Lib.hid Hd.out.1
  clear e1 e2 e3 Hd
  have es : (ByteArray.mk #[1, 0, 0, 1, 0, 1, 0, 3]).extract 0 7 = ⟨#[1, 0, 0, 1, 0, 1, 0]⟩ := by kernel_rfl
  have ea : (ByteArray.mk #[1, 0, 0, 1, 0, 1, 0]) ++ (ByteArray.mk #[6]) = ⟨#[1, 0, 0, 1, 0, 1, 0, 6]⟩ := by kernel_rfl
  have kc := fun (w : World) (C : Array Value) (n c : Nat) => Lib.run_convert_bytes_const (P := Try.prog) w 27 5 C n c Try.underlying27 Try.underlying5
  go_enter Try.func30, Try.ntmps30
  go_upto_region 2 with (first
    | (go_at_call 29; (refine (decode_Program _ [1, 0, 0, 1, 0, 1, 0, 3] _ (sl_lit (by rfl) (by simp only [hp_at, hp_ext, hp_alloc, hp_drew]; rfl) (by decide) (by decide) (by decide))).mono ?_); rintro e w2 ⟨_, rfl, ⟨v2, rfl, ho2⟩, hg2⟩; rw [Hp.out] at ho2 ⊢; obtain ⟨a2, n2, c2, rfl, Hn2, hn2, ho2⟩ := ho2.open; obtain rfl : n2 = 1 := Hn2.out; obtain ⟨x2, rfl⟩ := ext_of_grow hg2; clear hg2))
  have hs2 := ho2.sl
  clear ho2 Hn2 hn2 Hp
  obtain ⟨b_f, off_f, f, f_locals_a, f_locals_n, f_locals_c, f_blocks_a, f_blocks_n, f_blocks_c, rfl, ⟨Hg_f, hl_f, hw_f, f_locals, f_blocks, c_f0, c_f1, c_f2, c_f3, r_f0⟩⟩ := hs2.fn 0 (by omega)
  obtain rfl : f = ⟨0, false, [⟨1, 0⟩], [⟨[], ⟨3, ⟨0, 0, ⟨0, false, 0⟩⟩, 0, 0, 0, [], ⟨0, false, 0⟩⟩⟩]⟩ := by have := Hg_f.out; simp at this; exact this.symm
  obtain rfl : f_blocks_n = 1 := f_blocks.len
  obtain ⟨b_g, off_g, g, g_stmts_a, g_stmts_n, g_stmts_c, g_jump_args_a, g_jump_args_n, g_jump_args_c, rfl, ⟨Hg_g, hl_g, hw_g, g_stmts, g_jump_args, c_g0, c_g1, c_g2, c_g3, c_g4, c_g5, c_g6, c_g7, c_g8, c_g9, c_g10, c_g11, c_g12, c_g13, r_g0, r_g1, r_g2, r_g3, r_g4⟩⟩ := f_blocks.bk 0 (by omega)
  obtain rfl : g = ⟨[], ⟨3, ⟨0, 0, ⟨0, false, 0⟩⟩, 0, 0, 0, [], ⟨0, false, 0⟩⟩⟩ := by have := Hg_g.out; simp at this; exact this.symm
  clear Hg_f Hg_g
  go_wp2_with (first | (go_at_call 27; ((with_reducible refine (H1.out _).mono ?_); rintro e w3 ⟨rfl, hb3⟩; obtain ⟨x3, rfl⟩ := ext_of_grow hb3; clear hb3)) | (go_at_call 27; ((with_reducible refine (H2.out _).mono ?_); rintro e w4 ⟨rfl, hb4⟩; obtain ⟨x4, rfl⟩ := ext_of_grow hb4; clear hb4)) | (go_at_call 27; ((with_reducible refine (H3.out _).mono ?_); rintro e w5 ⟨rfl, hb5⟩; obtain ⟨x5, rfl⟩ := ext_of_grow hb5; clear hb5)))
  go_ret
  exact Ret.bool rfl (by (repeat (first | (with_reducible exact Grow.refl _) | assumption | refine Grow.ext ?_ _ | refine Grow.alloc ?_ _ | refine Grow.drew ?_ | refine Grow.setCell ?_ (by first | (simp; done) | (simp; omega)) _ | refine Grow.trans ?_ (by assumption))))
end Go.Proofs.Ytafcdabiplcjiaa
