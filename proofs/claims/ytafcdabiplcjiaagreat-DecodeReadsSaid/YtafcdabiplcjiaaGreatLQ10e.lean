/- Layer 10: the reference's reader: programs. Printed by gen10u.py. Layer 10: the reference's Func, Great. -/
import Derived.Test.YtafcdabiplcjiaaGreatLQ10d
import Derived.Test.YtafcdabiplcjiaaGreatL08d
namespace Go.Proofs.YtafcdabiplcjiaaGreat
open Go.RowKit
set_option linter.unusedSimpArgs false
set_option linter.unusedVariables false

set_option maxRecDepth 100000 in
set_option maxHeartbeats 8000000 in
theorem ref10_Program (v : Value) (b : List Nat) (w : World) {F : Nat → Prop} (hs : Sl F w v b) :
    Calls Tryz.prog 20 #[v] w (RetP w (PrP w (decPr b))) := by
  obtain ⟨a, n, cap, rfl, Hn, hm, hcap, hcm, hs⟩ := hs.open
  have Hb : Hid (∀ x ∈ b, x < 256) := Lib.hid hs.bytes
  by_cases hbig : 4000 < n
  · have Hr : Hid (decPr b = (⟨[]⟩, 4)) := Lib.hid (by unfold decPr; rw [if_pos (by rw [← Hn.out]; exact hbig)])
    rw [Hr.out]
    go_enter Tryz.func20, Tryz.ntmps20
    go_wp2_with fail
    (try simp only [Exit.inBlock, Exit.then])
    exact postP_of (by simp only [results, Tryz.results20]; go_simp <;> rfl) rfl (by (repeat (first | (with_reducible exact Grow.refl _) | assumption | refine Grow.ext ?_ _ | refine Grow.alloc ?_ _ | refine Grow.drew ?_ | refine Grow.setCell ?_ (by first | (simp; done) | (simp; omega)) _ | refine Grow.trans ?_ (by assumption)))) ⟨_, rfl, Own.nil _ _ _ _⟩
  · have h := RdW.new (T := 90) (hs.mono (w' := w.alloc (.cells #[.slice none 0 0] 24)) (by (repeat (first | (with_reducible exact Grow.refl _) | assumption | refine Grow.ext ?_ _ | refine Grow.alloc ?_ _ | refine Grow.drew ?_ | refine Grow.setCell ?_ (by first | (simp; done) | (simp; omega)) _ | refine Grow.trans ?_ (by assumption))))) (w.heap.size + 1) (by simp)
    obtain ⟨q0, Hq0⟩ : ∃ q, Hid (q = rdNum b 1 8 ⟨0, 0⟩) := ⟨_, Lib.hid rfl⟩
    have hz0 : q0.2.at' ≤ b.length := by rw [Hq0.out]; exact rdNum_at Hb.out (Nat.zero_le _)
    have hq0 : 1 ≤ q0.1 ∧ q0.1 ≤ 8 := by rw [Hq0.out]; exact rdNum_le (by omega)
    have Hc0 : Hid (Calls Tryz.prog 38 #[.pointer (some ⟨w.heap.size + 1, 0, none⟩), .int .i64 1, .int .i64 8] (((w.alloc (.cells #[.slice none 0 0] 24)).alloc (.cells #[.slice a n cap, .int .i64 0, .int .i64 0] 90)).alloc (.cells #[.slice none 0 0] 24)) (fun e w' => e = .returned (.int .i64 q0.1) ∧ ∃ y, w' = ext (((w.alloc (.cells #[.slice none 0 0] 24)).alloc (.cells #[.slice a n cap, .int .i64 q0.2.at', .int .i64 q0.2.e] 90)).alloc (.cells #[.slice none 0 0] 24)) y)) := Lib.hid (by rw [Hq0.out]; exact ref10_num (h.alloc (.cells #[.slice none 0 0] 24)) ⟨0, 0⟩ (Nat.zero_le _) 1 8 (by omega) (by omega))
    obtain ⟨q5, Hq5⟩ : ∃ q, Hid (q = rqL (rqFn b) q0.1 q0.2) := ⟨_, Lib.hid rfl⟩
    have Hd : Hid (decPr b = if q5.2.e ≠ 0 then (⟨[]⟩, q5.2.e) else if q5.2.at' < n then (⟨[]⟩, 38) else if prErr ⟨q5.1⟩ ≠ 0 then (⟨[]⟩, prErr ⟨q5.1⟩) else (⟨q5.1⟩, 0)) := Lib.hid (by
      have e : rqPr b = q5 := by rw [Hq5.out, Hq0.out]; rfl
      have hsim := pr_sim b
      rw [e] at hsim
      unfold decPr; rw [if_neg (by rw [← Hn.out]; exact hbig), ← Hn.out]
      by_cases he : (rdPr b).2.e = 0
      · rw [← hsim.2 he]
      · rw [if_pos he, if_pos (by rw [hsim.1]; exact he), hsim.1])
    clear Hq0
    obtain ⟨u0, s0⟩ := q0
    obtain ⟨l5, s5⟩ := q5
    simp only at hq0 hz0 Hq5
    dsimp only at Hd
    go_enter Tryz.func20, Tryz.ntmps20
    go_wp2_with (first | (go_at_call 38; ((with_reducible refine (Hc0.out).mono ?_); rintro e w1 ⟨rfl, x0, rfl⟩; (try dsimp only []))))
    go_loopw [7] (fun iv wr => ∃ (k : Nat) (xs : List Fn) (tv : Value) (s' : RS) (x : Ext), iv = .int .i64 k ∧ k ≤ u0 ∧ wr = ext (((w.alloc (.cells #[.slice none 0 0] 24)).alloc (.cells #[.slice a n cap, .int .i64 s'.at', .int .i64 s'.e] 90)).alloc (.cells #[tv] 24)) x ∧ s'.at' ≤ b.length ∧ Own (fun _ => False) (w.heap.size + 1 + 1 + 1) 50 wr tv xs ∧ Hid (xs.length = k) ∧ Hid (rqL (rqFn b) u0 s0 = (xs ++ (rqL (rqFn b) (u0 - k) s').1, (rqL (rqFn b) (u0 - k) s').2))) (fun iv _ => u0 - (intOf iv).toNat)
    case atStart => exact ⟨0, [], .slice none 0 0, s0, x0, rfl, Nat.zero_le _, rfl, hz0, Own.nil _ _ _ _, rfl, Lib.hid (by simp)⟩
    case round =>
      obtain ⟨k, xs, tv, s', x, rfl, hkn, rfl, hz, hown, Hl, Hr⟩ := hrel
      obtain ⟨a2, m2, cap2, rfl, Hm2, hm2, hown⟩ := hown.open
      by_cases hlt : k < u0
      · obtain ⟨q6, Hq6⟩ : ∃ q, Hid (q = rqFn b s') := ⟨_, Lib.hid rfl⟩
        have Hc6 : Hid (∀ W2, RdW 90 (w.heap.size + 1) (.slice a n cap) b W2 → Calls Tryz.prog 39 #[.pointer (some ⟨w.heap.size + 1, 0, none⟩)] (W2 s') (RdnF W2 s' q6)) := Lib.hid (fun W2 h2 => by rw [Hq6.out]; exact ref10_function h2 s' hz)
        have hz6 : q6.2.at' ≤ b.length := by rw [Hq6.out]; exact rqFn_at Hb.out hz
        have hwy : q6.1.wf := by rw [Hq6.out]; exact rqFn_wf Hb.out
        have Hs := Lib.hid (rqL_step hlt Hr.out)
        rw [← Hq6.out] at Hs
        have hxl : xs.length < 1000 := by rw [Hl.out]; omega
        obtain ⟨⟨fp, fu, fl, fb⟩, s6⟩ := q6
        simp only at hz6 hwy Hs
        clear Hr Hq6 Hq5 Hc0 Hd
        have hC : ∀ (s : RS) (v : Value) w', Grow (((w.alloc (.cells #[.slice none 0 0] 24)).alloc (.cells #[.slice a n cap, .int .i64 s.at', .int .i64 s.e] 90)).alloc (.cells #[v] 24)) w' → ∃ q : QX, w' = ext (((w.alloc (.cells #[.slice none 0 0] 24)).alloc (.cells #[.slice a n cap, .int .i64 q.s.at', .int .i64 q.s.e] 90)).alloc (.cells #[q.v] 24)) q.x := fun s v w' g => by obtain ⟨x, hx⟩ := ext_of_grow g; exact ⟨⟨s, v, x⟩, hx⟩
        go_wp2_with fail
        refine wp_region_J (fun w' => ∃ q : QX, w' = ext (((w.alloc (.cells #[.slice none 0 0] 24)).alloc (.cells #[.slice a n cap, .int .i64 q.s.at', .int .i64 q.s.e] 90)).alloc (.cells #[q.v] 24)) q.x) 8 (by kernel_rfl) (by rfl) ?_
        ((refine J_quiet 0 rfl (by decide +kernel) (by first | exact Or.inl rfl | exact Or.inr rfl) (hC _ _ _ (by (repeat (first | (with_reducible exact Grow.refl _) | assumption | refine Grow.ext ?_ _ | refine Grow.alloc ?_ _ | refine Grow.drew ?_ | refine Grow.setCell ?_ (by first | (simp; done) | (simp; omega)) _ | refine Grow.trans ?_ (by assumption))))) ?_; (first | go_big_quiet_step (fail) | (refine wpQuiet_step (fun K hK => ?_); go_simp; split <;> (refine hK _ ?_; clear hK K))); refine wpQuiet_nil ?_); (refine J_quiet 2 rfl (by decide +kernel) (by first | exact Or.inl rfl | exact Or.inr rfl) (hC _ _ _ (by (repeat (first | (with_reducible exact Grow.refl _) | assumption | refine Grow.ext ?_ _ | refine Grow.alloc ?_ _ | refine Grow.drew ?_ | refine Grow.setCell ?_ (by first | (simp; done) | (simp; omega)) _ | refine Grow.trans ?_ (by assumption))))) ?_; (first | go_big_quiet_step (fail) | (refine wpQuiet_step (fun K hK => ?_); go_simp; split <;> (refine hK _ ?_; clear hK K))); refine wpQuiet_nil ?_); (repeat (any_goals (first | (refine J_quiet 6 rfl (by decide +kernel) (by first | exact Or.inl rfl | exact Or.inr rfl) (hC _ _ _ (by (repeat (first | (with_reducible exact Grow.refl _) | assumption | refine Grow.ext ?_ _ | refine Grow.alloc ?_ _ | refine Grow.drew ?_ | refine Grow.setCell ?_ (by first | (simp; done) | (simp; omega)) _ | refine Grow.trans ?_ (by assumption))))) ?_; (first | go_big_quiet_step (fail) | (refine wpQuiet_step (fun K hK => ?_); go_simp; split <;> (refine hK _ ?_; clear hK K))); refine wpQuiet_nil ?_) | (refine J_any [1,3] (by decide +kernel) ?_; (refine ⟨?_, ?_⟩ <;> (refine ⟨_, rfl, fun K hK => ?_⟩; go_wp2_with (first | (go_at_call 39; ((with_reducible refine (Hc6.out _ (((h.alloc _).ext _).drew)).mono ?_); rintro e w1 ⟨_, _, x1, rfl, rfl, h1, h2⟩; (try dsimp only []); (try dsimp only [] at h1 h2); obtain ⟨sa, sn, sc, rfl, _, _, _, _, h1⟩ := h1.open; obtain ⟨ja, jn, jc, rfl, _, _, _, _, h2⟩ := h2.open)) | (at_builtin; go_must (refine wpList_app1 (α := Fn) slTv_Fn rfl rfl rfl (hown.state0 (h.alloc _) s6 (by simp only [alloc_size, size_ext, drew_size]; omega)) (by (repeat (first | (with_reducible exact Grow.refl _) | assumption | refine Grow.ext ?_ _ | refine Grow.alloc ?_ _ | refine Grow.drew ?_ | refine Grow.setCell ?_ (by first | (simp; done) | (simp; omega)) _ | refine Grow.trans ?_ (by assumption)))) (by simp only [alloc_size, size_ext, drew_size]; omega) (by simp only [alloc_size, size_ext, drew_size]; omega) rfl (y := ⟨fp, fu, fl, fb⟩) (Gy := (fun k => w.heap.size + 1 + 1 + 1 + x.k ≤ k ∧ k < w.heap.size + 1 + 1 + 1 + x.k + x1.k)) ⟨sa, sn, sc, ja, jn, jc, rfl, hwy, (h1.wide (fun k hk hF => ⟨by simp only [alloc_size, size_ext, drew_size] at hF; omega, by simp only [alloc_size, size_ext, drew_size] at hk; omega⟩)).mono (by (repeat (first | (with_reducible exact Grow.refl _) | assumption | refine Grow.ext ?_ _ | refine Grow.alloc ?_ _ | refine Grow.drew ?_ | refine Grow.setCell ?_ (by first | (simp; done) | (simp; omega)) _ | refine Grow.trans ?_ (by assumption)))), (h2.wide (fun k hk hF => ⟨by simp only [alloc_size, size_ext, drew_size] at hF; omega, by simp only [alloc_size, size_ext, drew_size] at hk; omega⟩)).mono (by (repeat (first | (with_reducible exact Grow.refl _) | assumption | refine Grow.ext ?_ _ | refine Grow.alloc ?_ _ | refine Grow.drew ?_ | refine Grow.setCell ?_ (by first | (simp; done) | (simp; omega)) _ | refine Grow.trans ?_ (by assumption))))⟩ (fun k hk => ⟨by simp only [alloc_size, size_ext, drew_size]; omega, Or.inr (by omega), fun e => by have := hown.row_lt k e; simp only [alloc_size, size_ext, drew_size] at this; omega⟩) (by (repeat (refine CellsAt.cons (by go_simp) ?_)); exact CellsAt.nil _ _ _) (by simp [Value.oneCell']) (by omega) (by omega) ?_); intro tv' x' hown' hsz' hagr; obtain ⟨ta, tn, tc, rfl, Htn, htn, hown'⟩ := hown'.open)); refine hK _ _ (hC _ _ _ (by (repeat (first | (with_reducible exact Grow.refl _) | assumption | refine Grow.ext ?_ _ | refine Grow.alloc ?_ _ | refine Grow.drew ?_ | refine Grow.setCell ?_ (by first | (simp; done) | (simp; omega)) _ | refine Grow.trans ?_ (by assumption))))) ?_; clear hK K))) | (refine J_any [1,4] (by decide +kernel) ?_; (refine ⟨?_, ?_⟩ <;> (refine ⟨_, rfl, fun K hK => ?_⟩; go_wp2_with (first | (go_at_call 39; ((with_reducible refine (Hc6.out _ (((h.alloc _).ext _).drew)).mono ?_); rintro e w1 ⟨_, _, x1, rfl, rfl, h1, h2⟩; (try dsimp only []); (try dsimp only [] at h1 h2); obtain ⟨sa, sn, sc, rfl, _, _, _, _, h1⟩ := h1.open; obtain ⟨ja, jn, jc, rfl, _, _, _, _, h2⟩ := h2.open)) | (at_builtin; go_must (refine wpList_app1 (α := Fn) slTv_Fn rfl rfl rfl (hown.state0 (h.alloc _) s6 (by simp only [alloc_size, size_ext, drew_size]; omega)) (by (repeat (first | (with_reducible exact Grow.refl _) | assumption | refine Grow.ext ?_ _ | refine Grow.alloc ?_ _ | refine Grow.drew ?_ | refine Grow.setCell ?_ (by first | (simp; done) | (simp; omega)) _ | refine Grow.trans ?_ (by assumption)))) (by simp only [alloc_size, size_ext, drew_size]; omega) (by simp only [alloc_size, size_ext, drew_size]; omega) rfl (y := ⟨fp, fu, fl, fb⟩) (Gy := (fun k => w.heap.size + 1 + 1 + 1 + x.k ≤ k ∧ k < w.heap.size + 1 + 1 + 1 + x.k + x1.k)) ⟨sa, sn, sc, ja, jn, jc, rfl, hwy, (h1.wide (fun k hk hF => ⟨by simp only [alloc_size, size_ext, drew_size] at hF; omega, by simp only [alloc_size, size_ext, drew_size] at hk; omega⟩)).mono (by (repeat (first | (with_reducible exact Grow.refl _) | assumption | refine Grow.ext ?_ _ | refine Grow.alloc ?_ _ | refine Grow.drew ?_ | refine Grow.setCell ?_ (by first | (simp; done) | (simp; omega)) _ | refine Grow.trans ?_ (by assumption)))), (h2.wide (fun k hk hF => ⟨by simp only [alloc_size, size_ext, drew_size] at hF; omega, by simp only [alloc_size, size_ext, drew_size] at hk; omega⟩)).mono (by (repeat (first | (with_reducible exact Grow.refl _) | assumption | refine Grow.ext ?_ _ | refine Grow.alloc ?_ _ | refine Grow.drew ?_ | refine Grow.setCell ?_ (by first | (simp; done) | (simp; omega)) _ | refine Grow.trans ?_ (by assumption))))⟩ (fun k hk => ⟨by simp only [alloc_size, size_ext, drew_size]; omega, Or.inr (by omega), fun e => by have := hown.row_lt k e; simp only [alloc_size, size_ext, drew_size] at this; omega⟩) (by (repeat (refine CellsAt.cons (by go_simp) ?_)); exact CellsAt.nil _ _ _) (by simp [Value.oneCell']) (by omega) (by omega) ?_); intro tv' x' hown' hsz' hagr; obtain ⟨ta, tn, tc, rfl, Htn, htn, hown'⟩ := hown'.open)); refine hK _ _ (hC _ _ _ (by (repeat (first | (with_reducible exact Grow.refl _) | assumption | refine Grow.ext ?_ _ | refine Grow.alloc ?_ _ | refine Grow.drew ?_ | refine Grow.setCell ?_ (by first | (simp; done) | (simp; omega)) _ | refine Grow.trans ?_ (by assumption))))) ?_; clear hK K))) | (refine J_any [1] (by decide +kernel) ?_; (refine ⟨_, rfl, fun K hK => ?_⟩; go_wp2_with (first | (go_at_call 39; ((with_reducible refine (Hc6.out _ (((h.alloc _).ext _).drew)).mono ?_); rintro e w1 ⟨_, _, x1, rfl, rfl, h1, h2⟩; (try dsimp only []); (try dsimp only [] at h1 h2); obtain ⟨sa, sn, sc, rfl, _, _, _, _, h1⟩ := h1.open; obtain ⟨ja, jn, jc, rfl, _, _, _, _, h2⟩ := h2.open)) | (at_builtin; go_must (refine wpList_app1 (α := Fn) slTv_Fn rfl rfl rfl (hown.state0 (h.alloc _) s6 (by simp only [alloc_size, size_ext, drew_size]; omega)) (by (repeat (first | (with_reducible exact Grow.refl _) | assumption | refine Grow.ext ?_ _ | refine Grow.alloc ?_ _ | refine Grow.drew ?_ | refine Grow.setCell ?_ (by first | (simp; done) | (simp; omega)) _ | refine Grow.trans ?_ (by assumption)))) (by simp only [alloc_size, size_ext, drew_size]; omega) (by simp only [alloc_size, size_ext, drew_size]; omega) rfl (y := ⟨fp, fu, fl, fb⟩) (Gy := (fun k => w.heap.size + 1 + 1 + 1 + x.k ≤ k ∧ k < w.heap.size + 1 + 1 + 1 + x.k + x1.k)) ⟨sa, sn, sc, ja, jn, jc, rfl, hwy, (h1.wide (fun k hk hF => ⟨by simp only [alloc_size, size_ext, drew_size] at hF; omega, by simp only [alloc_size, size_ext, drew_size] at hk; omega⟩)).mono (by (repeat (first | (with_reducible exact Grow.refl _) | assumption | refine Grow.ext ?_ _ | refine Grow.alloc ?_ _ | refine Grow.drew ?_ | refine Grow.setCell ?_ (by first | (simp; done) | (simp; omega)) _ | refine Grow.trans ?_ (by assumption)))), (h2.wide (fun k hk hF => ⟨by simp only [alloc_size, size_ext, drew_size] at hF; omega, by simp only [alloc_size, size_ext, drew_size] at hk; omega⟩)).mono (by (repeat (first | (with_reducible exact Grow.refl _) | assumption | refine Grow.ext ?_ _ | refine Grow.alloc ?_ _ | refine Grow.drew ?_ | refine Grow.setCell ?_ (by first | (simp; done) | (simp; omega)) _ | refine Grow.trans ?_ (by assumption))))⟩ (fun k hk => ⟨by simp only [alloc_size, size_ext, drew_size]; omega, Or.inr (by omega), fun e => by have := hown.row_lt k e; simp only [alloc_size, size_ext, drew_size] at this; omega⟩) (by (repeat (refine CellsAt.cons (by go_simp) ?_)); exact CellsAt.nil _ _ _) (by simp [Value.oneCell']) (by omega) (by omega) ?_); intro tv' x' hown' hsz' hagr; obtain ⟨ta, tn, tc, rfl, Htn, htn, hown'⟩ := hown'.open)); refine hK _ _ (hC _ _ _ (by (repeat (first | (with_reducible exact Grow.refl _) | assumption | refine Grow.ext ?_ _ | refine Grow.alloc ?_ _ | refine Grow.drew ?_ | refine Grow.setCell ?_ (by first | (simp; done) | (simp; omega)) _ | refine Grow.trans ?_ (by assumption))))) ?_; clear hK K)) | (refine J_any [3] (by decide +kernel) ?_; (refine ⟨_, rfl, fun K hK => ?_⟩; go_wp2_with (first | (go_at_call 39; ((with_reducible refine (Hc6.out _ (((h.alloc _).ext _).drew)).mono ?_); rintro e w1 ⟨_, _, x1, rfl, rfl, h1, h2⟩; (try dsimp only []); (try dsimp only [] at h1 h2); obtain ⟨sa, sn, sc, rfl, _, _, _, _, h1⟩ := h1.open; obtain ⟨ja, jn, jc, rfl, _, _, _, _, h2⟩ := h2.open)) | (at_builtin; go_must (refine wpList_app1 (α := Fn) slTv_Fn rfl rfl rfl (hown.state0 (h.alloc _) s6 (by simp only [alloc_size, size_ext, drew_size]; omega)) (by (repeat (first | (with_reducible exact Grow.refl _) | assumption | refine Grow.ext ?_ _ | refine Grow.alloc ?_ _ | refine Grow.drew ?_ | refine Grow.setCell ?_ (by first | (simp; done) | (simp; omega)) _ | refine Grow.trans ?_ (by assumption)))) (by simp only [alloc_size, size_ext, drew_size]; omega) (by simp only [alloc_size, size_ext, drew_size]; omega) rfl (y := ⟨fp, fu, fl, fb⟩) (Gy := (fun k => w.heap.size + 1 + 1 + 1 + x.k ≤ k ∧ k < w.heap.size + 1 + 1 + 1 + x.k + x1.k)) ⟨sa, sn, sc, ja, jn, jc, rfl, hwy, (h1.wide (fun k hk hF => ⟨by simp only [alloc_size, size_ext, drew_size] at hF; omega, by simp only [alloc_size, size_ext, drew_size] at hk; omega⟩)).mono (by (repeat (first | (with_reducible exact Grow.refl _) | assumption | refine Grow.ext ?_ _ | refine Grow.alloc ?_ _ | refine Grow.drew ?_ | refine Grow.setCell ?_ (by first | (simp; done) | (simp; omega)) _ | refine Grow.trans ?_ (by assumption)))), (h2.wide (fun k hk hF => ⟨by simp only [alloc_size, size_ext, drew_size] at hF; omega, by simp only [alloc_size, size_ext, drew_size] at hk; omega⟩)).mono (by (repeat (first | (with_reducible exact Grow.refl _) | assumption | refine Grow.ext ?_ _ | refine Grow.alloc ?_ _ | refine Grow.drew ?_ | refine Grow.setCell ?_ (by first | (simp; done) | (simp; omega)) _ | refine Grow.trans ?_ (by assumption))))⟩ (fun k hk => ⟨by simp only [alloc_size, size_ext, drew_size]; omega, Or.inr (by omega), fun e => by have := hown.row_lt k e; simp only [alloc_size, size_ext, drew_size] at this; omega⟩) (by (repeat (refine CellsAt.cons (by go_simp) ?_)); exact CellsAt.nil _ _ _) (by simp [Value.oneCell']) (by omega) (by omega) ?_); intro tv' x' hown' hsz' hagr; obtain ⟨ta, tn, tc, rfl, Htn, htn, hown'⟩ := hown'.open)); refine hK _ _ (hC _ _ _ (by (repeat (first | (with_reducible exact Grow.refl _) | assumption | refine Grow.ext ?_ _ | refine Grow.alloc ?_ _ | refine Grow.drew ?_ | refine Grow.setCell ?_ (by first | (simp; done) | (simp; omega)) _ | refine Grow.trans ?_ (by assumption))))) ?_; clear hK K)) | (refine J_any [4] (by decide +kernel) ?_; (refine ⟨_, rfl, fun K hK => ?_⟩; go_wp2_with (first | (go_at_call 39; ((with_reducible refine (Hc6.out _ (((h.alloc _).ext _).drew)).mono ?_); rintro e w1 ⟨_, _, x1, rfl, rfl, h1, h2⟩; (try dsimp only []); (try dsimp only [] at h1 h2); obtain ⟨sa, sn, sc, rfl, _, _, _, _, h1⟩ := h1.open; obtain ⟨ja, jn, jc, rfl, _, _, _, _, h2⟩ := h2.open)) | (at_builtin; go_must (refine wpList_app1 (α := Fn) slTv_Fn rfl rfl rfl (hown.state0 (h.alloc _) s6 (by simp only [alloc_size, size_ext, drew_size]; omega)) (by (repeat (first | (with_reducible exact Grow.refl _) | assumption | refine Grow.ext ?_ _ | refine Grow.alloc ?_ _ | refine Grow.drew ?_ | refine Grow.setCell ?_ (by first | (simp; done) | (simp; omega)) _ | refine Grow.trans ?_ (by assumption)))) (by simp only [alloc_size, size_ext, drew_size]; omega) (by simp only [alloc_size, size_ext, drew_size]; omega) rfl (y := ⟨fp, fu, fl, fb⟩) (Gy := (fun k => w.heap.size + 1 + 1 + 1 + x.k ≤ k ∧ k < w.heap.size + 1 + 1 + 1 + x.k + x1.k)) ⟨sa, sn, sc, ja, jn, jc, rfl, hwy, (h1.wide (fun k hk hF => ⟨by simp only [alloc_size, size_ext, drew_size] at hF; omega, by simp only [alloc_size, size_ext, drew_size] at hk; omega⟩)).mono (by (repeat (first | (with_reducible exact Grow.refl _) | assumption | refine Grow.ext ?_ _ | refine Grow.alloc ?_ _ | refine Grow.drew ?_ | refine Grow.setCell ?_ (by first | (simp; done) | (simp; omega)) _ | refine Grow.trans ?_ (by assumption)))), (h2.wide (fun k hk hF => ⟨by simp only [alloc_size, size_ext, drew_size] at hF; omega, by simp only [alloc_size, size_ext, drew_size] at hk; omega⟩)).mono (by (repeat (first | (with_reducible exact Grow.refl _) | assumption | refine Grow.ext ?_ _ | refine Grow.alloc ?_ _ | refine Grow.drew ?_ | refine Grow.setCell ?_ (by first | (simp; done) | (simp; omega)) _ | refine Grow.trans ?_ (by assumption))))⟩ (fun k hk => ⟨by simp only [alloc_size, size_ext, drew_size]; omega, Or.inr (by omega), fun e => by have := hown.row_lt k e; simp only [alloc_size, size_ext, drew_size] at this; omega⟩) (by (repeat (refine CellsAt.cons (by go_simp) ?_)); exact CellsAt.nil _ _ _) (by simp [Value.oneCell']) (by omega) (by omega) ?_); intro tv' x' hown' hsz' hagr; obtain ⟨ta, tn, tc, rfl, Htn, htn, hown'⟩ := hown'.open)); refine hK _ _ (hC _ _ _ (by (repeat (first | (with_reducible exact Grow.refl _) | assumption | refine Grow.ext ?_ _ | refine Grow.alloc ?_ _ | refine Grow.drew ?_ | refine Grow.setCell ?_ (by first | (simp; done) | (simp; omega)) _ | refine Grow.trans ?_ (by assumption))))) ?_; clear hK K)) | (refine J_any [5] (by decide +kernel) ?_; (refine ⟨_, rfl, fun K hK => ?_⟩; go_wp2_with (first | (go_at_call 39; ((with_reducible refine (Hc6.out _ (((h.alloc _).ext _).drew)).mono ?_); rintro e w1 ⟨_, _, x1, rfl, rfl, h1, h2⟩; (try dsimp only []); (try dsimp only [] at h1 h2); obtain ⟨sa, sn, sc, rfl, _, _, _, _, h1⟩ := h1.open; obtain ⟨ja, jn, jc, rfl, _, _, _, _, h2⟩ := h2.open)) | (at_builtin; go_must (refine wpList_app1 (α := Fn) slTv_Fn rfl rfl rfl (hown.state0 (h.alloc _) s6 (by simp only [alloc_size, size_ext, drew_size]; omega)) (by (repeat (first | (with_reducible exact Grow.refl _) | assumption | refine Grow.ext ?_ _ | refine Grow.alloc ?_ _ | refine Grow.drew ?_ | refine Grow.setCell ?_ (by first | (simp; done) | (simp; omega)) _ | refine Grow.trans ?_ (by assumption)))) (by simp only [alloc_size, size_ext, drew_size]; omega) (by simp only [alloc_size, size_ext, drew_size]; omega) rfl (y := ⟨fp, fu, fl, fb⟩) (Gy := (fun k => w.heap.size + 1 + 1 + 1 + x.k ≤ k ∧ k < w.heap.size + 1 + 1 + 1 + x.k + x1.k)) ⟨sa, sn, sc, ja, jn, jc, rfl, hwy, (h1.wide (fun k hk hF => ⟨by simp only [alloc_size, size_ext, drew_size] at hF; omega, by simp only [alloc_size, size_ext, drew_size] at hk; omega⟩)).mono (by (repeat (first | (with_reducible exact Grow.refl _) | assumption | refine Grow.ext ?_ _ | refine Grow.alloc ?_ _ | refine Grow.drew ?_ | refine Grow.setCell ?_ (by first | (simp; done) | (simp; omega)) _ | refine Grow.trans ?_ (by assumption)))), (h2.wide (fun k hk hF => ⟨by simp only [alloc_size, size_ext, drew_size] at hF; omega, by simp only [alloc_size, size_ext, drew_size] at hk; omega⟩)).mono (by (repeat (first | (with_reducible exact Grow.refl _) | assumption | refine Grow.ext ?_ _ | refine Grow.alloc ?_ _ | refine Grow.drew ?_ | refine Grow.setCell ?_ (by first | (simp; done) | (simp; omega)) _ | refine Grow.trans ?_ (by assumption))))⟩ (fun k hk => ⟨by simp only [alloc_size, size_ext, drew_size]; omega, Or.inr (by omega), fun e => by have := hown.row_lt k e; simp only [alloc_size, size_ext, drew_size] at this; omega⟩) (by (repeat (refine CellsAt.cons (by go_simp) ?_)); exact CellsAt.nil _ _ _) (by simp [Value.oneCell']) (by omega) (by omega) ?_); intro tv' x' hown' hsz' hagr; obtain ⟨ta, tn, tc, rfl, Htn, htn, hown'⟩ := hown'.open)); refine hK _ _ (hC _ _ _ (by (repeat (first | (with_reducible exact Grow.refl _) | assumption | refine Grow.ext ?_ _ | refine Grow.alloc ?_ _ | refine Grow.drew ?_ | refine Grow.setCell ?_ (by first | (simp; done) | (simp; omega)) _ | refine Grow.trans ?_ (by assumption))))) ?_; clear hK K)) | (refine J_any [7] (by decide +kernel) ?_; (refine ⟨_, rfl, fun K hK => ?_⟩; go_wp2_with (first | (go_at_call 39; ((with_reducible refine (Hc6.out _ (((h.alloc _).ext _).drew)).mono ?_); rintro e w1 ⟨_, _, x1, rfl, rfl, h1, h2⟩; (try dsimp only []); (try dsimp only [] at h1 h2); obtain ⟨sa, sn, sc, rfl, _, _, _, _, h1⟩ := h1.open; obtain ⟨ja, jn, jc, rfl, _, _, _, _, h2⟩ := h2.open)) | (at_builtin; go_must (refine wpList_app1 (α := Fn) slTv_Fn rfl rfl rfl (hown.state0 (h.alloc _) s6 (by simp only [alloc_size, size_ext, drew_size]; omega)) (by (repeat (first | (with_reducible exact Grow.refl _) | assumption | refine Grow.ext ?_ _ | refine Grow.alloc ?_ _ | refine Grow.drew ?_ | refine Grow.setCell ?_ (by first | (simp; done) | (simp; omega)) _ | refine Grow.trans ?_ (by assumption)))) (by simp only [alloc_size, size_ext, drew_size]; omega) (by simp only [alloc_size, size_ext, drew_size]; omega) rfl (y := ⟨fp, fu, fl, fb⟩) (Gy := (fun k => w.heap.size + 1 + 1 + 1 + x.k ≤ k ∧ k < w.heap.size + 1 + 1 + 1 + x.k + x1.k)) ⟨sa, sn, sc, ja, jn, jc, rfl, hwy, (h1.wide (fun k hk hF => ⟨by simp only [alloc_size, size_ext, drew_size] at hF; omega, by simp only [alloc_size, size_ext, drew_size] at hk; omega⟩)).mono (by (repeat (first | (with_reducible exact Grow.refl _) | assumption | refine Grow.ext ?_ _ | refine Grow.alloc ?_ _ | refine Grow.drew ?_ | refine Grow.setCell ?_ (by first | (simp; done) | (simp; omega)) _ | refine Grow.trans ?_ (by assumption)))), (h2.wide (fun k hk hF => ⟨by simp only [alloc_size, size_ext, drew_size] at hF; omega, by simp only [alloc_size, size_ext, drew_size] at hk; omega⟩)).mono (by (repeat (first | (with_reducible exact Grow.refl _) | assumption | refine Grow.ext ?_ _ | refine Grow.alloc ?_ _ | refine Grow.drew ?_ | refine Grow.setCell ?_ (by first | (simp; done) | (simp; omega)) _ | refine Grow.trans ?_ (by assumption))))⟩ (fun k hk => ⟨by simp only [alloc_size, size_ext, drew_size]; omega, Or.inr (by omega), fun e => by have := hown.row_lt k e; simp only [alloc_size, size_ext, drew_size] at this; omega⟩) (by (repeat (refine CellsAt.cons (by go_simp) ?_)); exact CellsAt.nil _ _ _) (by simp [Value.oneCell']) (by omega) (by omega) ?_); intro tv' x' hown' hsz' hagr; obtain ⟨ta, tn, tc, rfl, Htn, htn, hown'⟩ := hown'.open)); refine hK _ _ (hC _ _ _ (by (repeat (first | (with_reducible exact Grow.refl _) | assumption | refine Grow.ext ?_ _ | refine Grow.alloc ?_ _ | refine Grow.drew ?_ | refine Grow.setCell ?_ (by first | (simp; done) | (simp; omega)) _ | refine Grow.trans ?_ (by assumption))))) ?_; clear hK K))))))
        all_goals (refine J_end (by decide +kernel) ?_)
        all_goals
          go_wp2_with fail
          go_roundw
          case rel => exact ⟨k + 1, xs ++ [⟨fp, fu, fl, fb⟩], .slice ta tn tc, s6, x', by go_num, by omega, rfl, hz6, hown'.turn (by simp only [alloc_size, size_ext, drew_size]; omega), Lib.hid (by rw [List.length_append, Hl.out]; rfl), Hs⟩
          case measure => simp [intOf]; omega
      · obtain rfl : k = u0 := by omega
        have He := rqL_end Hr.out
        obtain ⟨rfl, rfl⟩ : l5 = xs ∧ s5 = s' := by have := Hq5.out; rw [He] at this; injection this with h1 h2; exact ⟨h1, h2⟩
        clear Hr Hq5 Hc0 hz0
        obtain ⟨ka, er⟩ := s5
        dsimp only at hown Hd
        by_cases he : er = 0
        · subst he
          by_cases hk : ka < n
          · have Hr2 : Hid (decPr b = (⟨[]⟩, 38)) := Lib.hid (by rw [Hd.out, if_neg (by simp), if_pos hk])
            clear Hd
            go_wp2_with fail
            (try simp only [Exit.inBlock, Exit.then])
            refine postP_of (by simp only [results, Tryz.results20]; go_simp <;> rfl) rfl (by (repeat (first | (with_reducible exact Grow.refl _) | assumption | refine Grow.ext ?_ _ | refine Grow.alloc ?_ _ | refine Grow.drew ?_ | refine Grow.setCell ?_ (by first | (simp; done) | (simp; omega)) _ | refine Grow.trans ?_ (by assumption)))) ?_
            rw [Hr2.out]
            refine ⟨_, rfl, ?_⟩
            exact Own.nil _ _ _ _
          · obtain ⟨pe, hpe⟩ : ∃ e, prErr ⟨l5⟩ = e := ⟨_, rfl⟩
            have Hp : Hid (∀ w' {F : Nat → Prop} pv (hp : Sl F w' pv l5), Calls Tryz.prog 15 #[.agg #[pv]] w' (Ret w' (.int .i64 pe))) := Lib.hid (fun w' F pv hp => by have := ref08_Check ⟨l5⟩ pv w' hp; rw [hpe] at this; exact this)
            have Hd2 : Hid (decPr b = if pe ≠ 0 then (⟨[]⟩, pe) else (⟨l5⟩, 0)) := Lib.hid (by rw [Hd.out, if_neg (by simp), if_neg hk, hpe])
            clear hpe Hd
            by_cases hp0 : pe = 0
            · subst hp0
              have Hr2 : Hid (decPr b = (⟨l5⟩, 0)) := Lib.hid (by rw [Hd2.out, if_neg (by simp)])
              clear Hd2
              go_wp2_with (first | (go_at_call 15; ((with_reducible refine (Hp.out _ _ (hown.sl.mono (by (repeat (first | (with_reducible exact Grow.refl _) | assumption | refine Grow.ext ?_ _ | refine Grow.alloc ?_ _ | refine Grow.drew ?_ | refine Grow.setCell ?_ (by first | (simp; done) | (simp; omega)) _ | refine Grow.trans ?_ (by assumption)))))).mono ?_); rintro e w7 ⟨rfl, hb7⟩; obtain ⟨x7, rfl⟩ := ext_of_grow hb7; clear hb7)))
              (try simp only [Exit.inBlock, Exit.then])
              refine postP_of (by simp only [results, Tryz.results20]; go_simp <;> rfl) rfl (by (repeat (first | (with_reducible exact Grow.refl _) | assumption | refine Grow.ext ?_ _ | refine Grow.alloc ?_ _ | refine Grow.drew ?_ | refine Grow.setCell ?_ (by first | (simp; done) | (simp; omega)) _ | refine Grow.trans ?_ (by assumption)))) ?_
              rw [Hr2.out]
              refine ⟨_, rfl, ?_⟩
              refine Own.mono ?_ (grow_ext _ x7)
              exact (Own.shift (by simp only [alloc_size]) hown (by simp only [alloc_size]; omega)).low (by omega)
            · have hp1 : (pe != 0) = true := by simp [hp0]
              have hp2 : (pe == 0) = false := by simp [hp0]
              have Hr2 : Hid (decPr b = (⟨[]⟩, pe)) := Lib.hid (by rw [Hd2.out, if_pos hp0])
              clear hp0 Hd2
              go_wp2_with (first | (go_at_call 15; ((with_reducible refine (Hp.out _ _ (hown.sl.mono (by (repeat (first | (with_reducible exact Grow.refl _) | assumption | refine Grow.ext ?_ _ | refine Grow.alloc ?_ _ | refine Grow.drew ?_ | refine Grow.setCell ?_ (by first | (simp; done) | (simp; omega)) _ | refine Grow.trans ?_ (by assumption)))))).mono ?_); rintro e w7 ⟨rfl, hb7⟩; obtain ⟨x7, rfl⟩ := ext_of_grow hb7; clear hb7)))
              all_goals
                (try simp only [Exit.inBlock, Exit.then])
                refine postP_of (by simp only [results, Tryz.results20]; go_simp <;> rfl) rfl (by (repeat (first | (with_reducible exact Grow.refl _) | assumption | refine Grow.ext ?_ _ | refine Grow.alloc ?_ _ | refine Grow.drew ?_ | refine Grow.setCell ?_ (by first | (simp; done) | (simp; omega)) _ | refine Grow.trans ?_ (by assumption)))) ?_
                rw [Hr2.out]
                refine ⟨_, rfl, ?_⟩
                exact Own.nil _ _ _ _
        · have Hr2 : Hid (decPr b = (⟨[]⟩, er)) := Lib.hid (by rw [Hd.out, if_pos he])
          have he1 : (er == 0) = false := by simp [he]
          have he2 : (er != 0) = true := by simp [he]
          clear he Hd
          go_wp2_with fail
          refine wp_region_J (fun _ => True) 7 (by kernel_rfl) (by rfl) ?_
          ((refine J_quietX 0 rfl (by decide +kernel) (by first | exact Or.inl rfl | exact Or.inr rfl) trivial ?_; (first | go_big_quiet_step (fail) | (refine wpQuiet_step (fun K hK => ?_); go_simp; split <;> (refine hK _ ?_; clear hK K))); refine wpQuiet_nil ?_); (refine J_quietX 1 rfl (by decide +kernel) (by first | exact Or.inl rfl | exact Or.inr rfl) trivial ?_; (first | go_big_quiet_step (fail) | (refine wpQuiet_step (fun K hK => ?_); go_simp; split <;> (refine hK _ ?_; clear hK K))); refine wpQuiet_nil ?_); (refine J_quietX 2 rfl (by decide +kernel) (by first | exact Or.inl rfl | exact Or.inr rfl) trivial ?_; (first | go_big_quiet_step (fail) | (refine wpQuiet_step (fun K hK => ?_); go_simp; split <;> (refine hK _ ?_; clear hK K))); refine wpQuiet_nil ?_); (refine J_quietX 3 rfl (by decide +kernel) (by first | exact Or.inl rfl | exact Or.inr rfl) trivial ?_; (first | go_big_quiet_step (fail) | (refine wpQuiet_step (fun K hK => ?_); go_simp; split <;> (refine hK _ ?_; clear hK K))); refine wpQuiet_nil ?_); (repeat (any_goals (first | (refine J_quietX 6 rfl (by decide +kernel) (by first | exact Or.inl rfl | exact Or.inr rfl) trivial ?_; (first | go_big_quiet_step (fail) | (refine wpQuiet_step (fun K hK => ?_); go_simp; split <;> (refine hK _ ?_; clear hK K))); refine wpQuiet_nil ?_) | (refine J_any [4,5] (by decide +kernel) ?_; (refine ⟨?_, ?_⟩ <;> (refine ⟨_, rfl, fun K hK => ?_⟩; go_wp2_with (fail); refine hK _ _ trivial ?_; clear hK K))) | (refine J_any [4] (by decide +kernel) ?_; (refine ⟨_, rfl, fun K hK => ?_⟩; go_wp2_with (fail); refine hK _ _ trivial ?_; clear hK K)) | (refine J_any [5] (by decide +kernel) ?_; (refine ⟨_, rfl, fun K hK => ?_⟩; go_wp2_with (fail); refine hK _ _ trivial ?_; clear hK K))))))
          all_goals (refine J_end (by decide +kernel) ?_)
          all_goals
            go_wp2_with fail
            (try simp only [Exit.inBlock, Exit.then])
            refine postP_of (by simp only [results, Tryz.results20]; go_simp <;> rfl) rfl (by (repeat (first | (with_reducible exact Grow.refl _) | assumption | refine Grow.ext ?_ _ | refine Grow.alloc ?_ _ | refine Grow.drew ?_ | refine Grow.setCell ?_ (by first | (simp; done) | (simp; omega)) _ | refine Grow.trans ?_ (by assumption)))) ?_
            rw [Hr2.out]
            refine ⟨_, rfl, ?_⟩
            exact Own.nil _ _ _ _
/-- More bytes than the statements consider. -/
def bigB (n : Nat) : Bool := decide (1500 < n ∧ n ≤ 4000 ∨ 4100 < n)
theorem ref10_Great (v : Value) (b : List Nat) (w : World) {F : Nat → Prop} (hs : Sl F w v b) : Calls Tryz.prog 19 #[v] w (Ret w (.bool (bigB b.length))) := by
  obtain ⟨a, n, cap, rfl, Hn, hm, hcap, hcm, hs⟩ := hs.open
  rw [← Hn.out]
  by_cases h1 : 1500 < n
  · by_cases h2 : n ≤ 4000
    · have hr : bigB n = true := by simp [bigB]; omega
      rw [hr]
      go_enter Tryz.func19, Tryz.ntmps19
      go_wp2_with fail
      go_ret
      exact Ret.bool (by first | rfl | (simp; done) | (simp; omega)) (by (repeat (first | (with_reducible exact Grow.refl _) | assumption | refine Grow.ext ?_ _ | refine Grow.alloc ?_ _ | refine Grow.drew ?_ | refine Grow.setCell ?_ (by first | (simp; done) | (simp; omega)) _ | refine Grow.trans ?_ (by assumption))))
    · by_cases h3 : 4100 < n
      · have hr : bigB n = true := by simp [bigB]; omega
        rw [hr]
        go_enter Tryz.func19, Tryz.ntmps19
        go_wp2_with fail
        go_ret
        exact Ret.bool (by first | rfl | (simp; done) | (simp; omega)) (by (repeat (first | (with_reducible exact Grow.refl _) | assumption | refine Grow.ext ?_ _ | refine Grow.alloc ?_ _ | refine Grow.drew ?_ | refine Grow.setCell ?_ (by first | (simp; done) | (simp; omega)) _ | refine Grow.trans ?_ (by assumption))))
      · have hr : bigB n = false := by simp [bigB]; omega
        rw [hr]
        go_enter Tryz.func19, Tryz.ntmps19
        go_wp2_with fail
        go_ret
        exact Ret.bool (by first | rfl | (simp; done) | (simp; omega)) (by (repeat (first | (with_reducible exact Grow.refl _) | assumption | refine Grow.ext ?_ _ | refine Grow.alloc ?_ _ | refine Grow.drew ?_ | refine Grow.setCell ?_ (by first | (simp; done) | (simp; omega)) _ | refine Grow.trans ?_ (by assumption))))
  · have hr : bigB n = false := by simp [bigB]; omega
    rw [hr]
    go_enter Tryz.func19, Tryz.ntmps19
    go_wp2_with fail
    go_ret
    exact Ret.bool (by first | rfl | (simp; done) | (simp; omega)) (by (repeat (first | (with_reducible exact Grow.refl _) | assumption | refine Grow.ext ?_ _ | refine Grow.alloc ?_ _ | refine Grow.drew ?_ | refine Grow.setCell ?_ (by first | (simp; done) | (simp; omega)) _ | refine Grow.trans ?_ (by assumption))))
set_option maxRecDepth 100000 in
set_option maxHeartbeats 8000000 in
theorem ref10_Func (v : Value) (b : List Nat) (w : World) {F : Nat → Prop} (hs : Sl F w v b) :
    Calls Tryz.prog 22 #[v] w (RetP w (FnP w (decFn b))) := by
  have hb := hs.bytes
  obtain ⟨a, n, cap, rfl, Hn, hm, hcap, hcm, hs⟩ := hs.open
  by_cases hbig : 4000 < n
  · have Hr : Hid (decFn b = (fn0, 0, 4)) := Lib.hid (by unfold decFn; rw [if_pos (by rw [← Hn.out]; exact hbig)])
    rw [Hr.out]
    go_enter Tryz.func22, Tryz.ntmps22
    go_wp2_with fail
    (try simp only [Exit.inBlock, Exit.then])
    exact postP_of (by simp only [results, Tryz.results22]; go_simp <;> rfl) rfl (by (repeat (first | (with_reducible exact Grow.refl _) | assumption | refine Grow.ext ?_ _ | refine Grow.alloc ?_ _ | refine Grow.drew ?_ | refine Grow.setCell ?_ (by first | (simp; done) | (simp; omega)) _ | refine Grow.trans ?_ (by assumption)))) ⟨.slice none 0 0, .slice none 0 0, rfl, Sl.nil _ _, Sl.nil _ _⟩
  · obtain ⟨q, Hq⟩ : ∃ q, Hid (q = rqFn b ⟨0, 0⟩) := ⟨_, Lib.hid rfl⟩
    have h := RdW.new (T := 90) (hs.mono (w' := w.alloc (.cells #[.int .i64 0, .bool false, .slice none 0 0, .slice none 0 0] 50)) (by (repeat (first | (with_reducible exact Grow.refl _) | assumption | refine Grow.ext ?_ _ | refine Grow.alloc ?_ _ | refine Grow.drew ?_ | refine Grow.setCell ?_ (by first | (simp; done) | (simp; omega)) _ | refine Grow.trans ?_ (by assumption))))) (w.heap.size + 1) (by simp)
    have Hc : Hid (Calls Tryz.prog 39 #[.pointer (some ⟨w.heap.size + 1, 0, none⟩)]
        ((w.alloc (.cells #[.int .i64 0, .bool false, .slice none 0 0, .slice none 0 0] 50)).alloc (.cells #[.slice a n cap, .int .i64 0, .int .i64 0] 90)) (fun e w' => ∃ v1 v2 y, e = .returned (q.1.v v1 v2) ∧ w' = ext ((w.alloc (.cells #[.int .i64 0, .bool false, .slice none 0 0, .slice none 0 0] 50)).alloc (.cells #[.slice a n cap, .int .i64 q.2.at', .int .i64 q.2.e] 90)) y ∧ Sl (fun k => w.heap.size + 1 + 1 ≤ k) w' v1 q.1.locals ∧ Sl (fun k => w.heap.size + 1 + 1 ≤ k) w' v2 q.1.blocks)) := Lib.hid (by
      rw [Hq.out]
      refine (ref10_function h ⟨0, 0⟩ (Nat.zero_le _)).mono ?_
      rintro e w' ⟨v1, v2, y, rfl, rfl, h1, h2⟩
      exact ⟨v1, v2, y, rfl, rfl, by have := h1; dsimp only at this; simp only [alloc_size] at this; exact this, by have := h2; dsimp only at this; simp only [alloc_size] at this; exact this⟩)
    have Hr : Hid (decFn b = if q.2.e ≠ 0 then (fn0, 0, q.2.e) else if fnErr q.1 ≠ 0 then (fn0, 0, fnErr q.1) else (q.1, q.2.at', 0)) := Lib.hid (by
      have hsim := (fn_sim b).eq ⟨0, 0⟩ rfl
      rw [← Hq.out] at hsim
      unfold decFn; rw [if_neg (by rw [← Hn.out]; exact hbig)]
      by_cases he : (rdFn b ⟨0, 0⟩).2.e = 0
      · rw [← hsim.2 he]
      · rw [if_pos he, if_pos (by rw [hsim.1]; exact he), hsim.1])
    have Hw : Hid q.1.wf := Lib.hid (by rw [Hq.out]; exact rqFn_wf hb)
    clear Hq h
    obtain ⟨⟨fp, fu, fl, fb⟩, k, er⟩ := q
    dsimp only at Hr Hc Hw
    by_cases he : er = 0
    · obtain ⟨pe, hpe⟩ : ∃ e, fnErr ⟨fp, fu, fl, fb⟩ = e := ⟨_, rfl⟩
      have Hp : Hid (∀ w' {F F' : Nat → Prop} v1 v2 (h1 : Sl F w' v1 fl) (h2 : Sl F' w' v2 fb), Calls Tryz.prog 25 #[.agg #[.int .i64 fp, .bool fu, v1, v2]] w' (Ret w' (.int .i64 pe))) := Lib.hid (fun w' F F' v1 v2 h1 h2 => by have := ref07_Check ⟨fp, fu, fl, fb⟩ v1 v2 w' Hw.out h1 h2; rw [hpe] at this; exact this)
      have Hr1 : Hid (decFn b = if pe ≠ 0 then (fn0, 0, pe) else (⟨fp, fu, fl, fb⟩, k, 0)) := Lib.hid (by rw [Hr.out, if_neg (by simpa using he), hpe])
      clear hpe Hr
      subst he
      by_cases hp0 : pe = 0
      · have Hr2 : Hid (decFn b = (⟨fp, fu, fl, fb⟩, k, 0)) := Lib.hid (by rw [Hr1.out, if_neg (by simpa using hp0)])
        rw [Hr2.out]
        subst hp0
        clear Hr1
        go_enter Tryz.func22, Tryz.ntmps22
        go_wp2_with (first
          | (go_at_call 39; ((with_reducible refine (Hc.out).mono ?_); rintro e w1 ⟨_, _, x0, rfl, rfl, h1, h2⟩; obtain ⟨va, vn, vc, rfl, Hvn, hvn, _, _, h1⟩ := h1.open; obtain ⟨ja, jn, jc, rfl, Hjn, hjn, _, _, h2⟩ := h2.open))
          | (go_at_call 25; ((with_reducible refine (Hp.out _ _ _ (h1.mono (by (repeat (first | (with_reducible exact Grow.refl _) | assumption | refine Grow.ext ?_ _ | refine Grow.alloc ?_ _ | refine Grow.drew ?_ | refine Grow.setCell ?_ (by first | (simp; done) | (simp; omega)) _ | refine Grow.trans ?_ (by assumption))))) (h2.mono (by (repeat (first | (with_reducible exact Grow.refl _) | assumption | refine Grow.ext ?_ _ | refine Grow.alloc ?_ _ | refine Grow.drew ?_ | refine Grow.setCell ?_ (by first | (simp; done) | (simp; omega)) _ | refine Grow.trans ?_ (by assumption)))))).mono ?_); rintro e w1 ⟨rfl, hb1⟩; obtain ⟨x1, rfl⟩ := ext_of_grow hb1; clear hb1)))
        refine wp_region_J (fun _ => True) 8 (by kernel_rfl) (by rfl) ?_
        ((refine J_quietX 1 rfl (by decide +kernel) (by first | exact Or.inl rfl | exact Or.inr rfl) trivial ?_; (first | go_big_quiet_step (fail) | (refine wpQuiet_step (fun K hK => ?_); go_simp; split <;> (refine hK _ ?_; clear hK K))); refine wpQuiet_nil ?_); (refine J_quietX 2 rfl (by decide +kernel) (by first | exact Or.inl rfl | exact Or.inr rfl) trivial ?_; (first | go_big_quiet_step (fail) | (refine wpQuiet_step (fun K hK => ?_); go_simp; split <;> (refine hK _ ?_; clear hK K))); refine wpQuiet_nil ?_); (refine J_quietX 3 rfl (by decide +kernel) (by first | exact Or.inl rfl | exact Or.inr rfl) trivial ?_; (first | go_big_quiet_step (fail) | (refine wpQuiet_step (fun K hK => ?_); go_simp; split <;> (refine hK _ ?_; clear hK K))); refine wpQuiet_nil ?_); (repeat (any_goals (first | (refine J_quietX 6 rfl (by decide +kernel) (by first | exact Or.inl rfl | exact Or.inr rfl) trivial ?_; (first | go_big_quiet_step (fail) | (refine wpQuiet_step (fun K hK => ?_); go_simp; split <;> (refine hK _ ?_; clear hK K))); refine wpQuiet_nil ?_) | (refine J_quietX 7 rfl (by decide +kernel) (by first | exact Or.inl rfl | exact Or.inr rfl) trivial ?_; (first | go_big_quiet_step (fail) | (refine wpQuiet_step (fun K hK => ?_); go_simp; split <;> (refine hK _ ?_; clear hK K))); refine wpQuiet_nil ?_) | (refine J_any [0,4] (by decide +kernel) ?_; (refine ⟨?_, ?_⟩ <;> (refine ⟨_, rfl, fun K hK => ?_⟩; go_wp2_with (fail); refine hK _ _ trivial ?_; clear hK K))) | (refine J_any [4,5] (by decide +kernel) ?_; (refine ⟨?_, ?_⟩ <;> (refine ⟨_, rfl, fun K hK => ?_⟩; go_wp2_with (fail); refine hK _ _ trivial ?_; clear hK K))) | (refine J_any [0] (by decide +kernel) ?_; (refine ⟨_, rfl, fun K hK => ?_⟩; go_wp2_with (fail); refine hK _ _ trivial ?_; clear hK K)) | (refine J_any [4] (by decide +kernel) ?_; (refine ⟨_, rfl, fun K hK => ?_⟩; go_wp2_with (fail); refine hK _ _ trivial ?_; clear hK K)) | (refine J_any [5] (by decide +kernel) ?_; (refine ⟨_, rfl, fun K hK => ?_⟩; go_wp2_with (fail); refine hK _ _ trivial ?_; clear hK K))))))
        all_goals (refine J_end (by decide +kernel) ?_)
        all_goals
          go_wp2_with fail
          (try simp only [Exit.inBlock, Exit.then])
          refine postP_of (by simp only [results, Tryz.results22]; go_simp <;> rfl) rfl (by (repeat (first | (with_reducible exact Grow.refl _) | assumption | refine Grow.ext ?_ _ | refine Grow.alloc ?_ _ | refine Grow.drew ?_ | refine Grow.setCell ?_ (by first | (simp; done) | (simp; omega)) _ | refine Grow.trans ?_ (by assumption)))) ⟨.slice va vn vc, .slice ja jn jc, rfl, ?_, ?_⟩
          · have q : Sl (fun k => w.heap.size + 1 + 1 ≤ k) (ext ((w.alloc (.cells #[.int .i64 fp, .bool fu, .slice va vn vc, .slice ja jn jc] 50)).alloc (.cells #[.slice a n cap, .int .i64 k, .int .i64 0] 90)) x0) (.slice va vn vc) fl := h1.keep (AgrS.ext0 (by simp) (by simp) x0).agr
            exact (q.wide (fun k _ hk => by omega)).mono (by (repeat (first | (with_reducible exact Grow.refl _) | assumption | refine Grow.ext ?_ _ | refine Grow.alloc ?_ _ | refine Grow.drew ?_ | refine Grow.setCell ?_ (by first | (simp; done) | (simp; omega)) _ | refine Grow.trans ?_ (by assumption))))
          · have q : Sl (fun k => w.heap.size + 1 + 1 ≤ k) (ext ((w.alloc (.cells #[.int .i64 fp, .bool fu, .slice va vn vc, .slice ja jn jc] 50)).alloc (.cells #[.slice a n cap, .int .i64 k, .int .i64 0] 90)) x0) (.slice ja jn jc) fb := h2.keep (AgrS.ext0 (by simp) (by simp) x0).agr
            exact (q.wide (fun k _ hk => by omega)).mono (by (repeat (first | (with_reducible exact Grow.refl _) | assumption | refine Grow.ext ?_ _ | refine Grow.alloc ?_ _ | refine Grow.drew ?_ | refine Grow.setCell ?_ (by first | (simp; done) | (simp; omega)) _ | refine Grow.trans ?_ (by assumption))))
      · have Hr2 : Hid (decFn b = (fn0, 0, pe)) := Lib.hid (by rw [Hr1.out, if_pos (by simpa using hp0)])
        have hp1 : (pe != 0) = true := by simp [hp0]
        have hp2 : (pe == 0) = false := by simp [hp0]
        rw [Hr2.out]
        clear Hr1 hp0
        go_enter Tryz.func22, Tryz.ntmps22
        go_wp2_with (first
          | (go_at_call 39; ((with_reducible refine (Hc.out).mono ?_); rintro e w1 ⟨_, _, x0, rfl, rfl, h1, h2⟩; obtain ⟨va, vn, vc, rfl, Hvn, hvn, _, _, h1⟩ := h1.open; obtain ⟨ja, jn, jc, rfl, Hjn, hjn, _, _, h2⟩ := h2.open))
          | (go_at_call 25; ((with_reducible refine (Hp.out _ _ _ (h1.mono (by (repeat (first | (with_reducible exact Grow.refl _) | assumption | refine Grow.ext ?_ _ | refine Grow.alloc ?_ _ | refine Grow.drew ?_ | refine Grow.setCell ?_ (by first | (simp; done) | (simp; omega)) _ | refine Grow.trans ?_ (by assumption))))) (h2.mono (by (repeat (first | (with_reducible exact Grow.refl _) | assumption | refine Grow.ext ?_ _ | refine Grow.alloc ?_ _ | refine Grow.drew ?_ | refine Grow.setCell ?_ (by first | (simp; done) | (simp; omega)) _ | refine Grow.trans ?_ (by assumption)))))).mono ?_); rintro e w1 ⟨rfl, hb1⟩; obtain ⟨x1, rfl⟩ := ext_of_grow hb1; clear hb1)))
        all_goals
          (try simp only [Exit.inBlock, Exit.then])
          exact postP_of (by simp only [results, Tryz.results22]; go_simp <;> rfl) rfl (by (repeat (first | (with_reducible exact Grow.refl _) | assumption | refine Grow.ext ?_ _ | refine Grow.alloc ?_ _ | refine Grow.drew ?_ | refine Grow.setCell ?_ (by first | (simp; done) | (simp; omega)) _ | refine Grow.trans ?_ (by assumption)))) ⟨.slice none 0 0, .slice none 0 0, rfl, Sl.nil _ _, Sl.nil _ _⟩
    · have Hr2 : Hid (decFn b = (fn0, 0, er)) := Lib.hid (by rw [Hr.out, if_pos (by simpa using he)])
      have he1 : (er == 0) = false := by simp [he]
      have he2 : (er != 0) = true := by simp [he]
      rw [Hr2.out]
      clear Hr he
      go_enter Tryz.func22, Tryz.ntmps22
      go_wp2_with (first
        | (go_at_call 39; ((with_reducible refine (Hc.out).mono ?_); rintro e w1 ⟨_, _, x0, rfl, rfl, h1, h2⟩; obtain ⟨va, vn, vc, rfl, Hvn, hvn, _, _, h1⟩ := h1.open; obtain ⟨ja, jn, jc, rfl, Hjn, hjn, _, _, h2⟩ := h2.open)))
      refine wp_region_J (fun _ => True) 8 (by kernel_rfl) (by rfl) ?_
      ((refine J_quietX 0 rfl (by decide +kernel) (by first | exact Or.inl rfl | exact Or.inr rfl) trivial ?_; (first | go_big_quiet_step (fail) | (refine wpQuiet_step (fun K hK => ?_); go_simp; split <;> (refine hK _ ?_; clear hK K))); refine wpQuiet_nil ?_); (refine J_quietX 1 rfl (by decide +kernel) (by first | exact Or.inl rfl | exact Or.inr rfl) trivial ?_; (first | go_big_quiet_step (fail) | (refine wpQuiet_step (fun K hK => ?_); go_simp; split <;> (refine hK _ ?_; clear hK K))); refine wpQuiet_nil ?_); (refine J_quietX 2 rfl (by decide +kernel) (by first | exact Or.inl rfl | exact Or.inr rfl) trivial ?_; (first | go_big_quiet_step (fail) | (refine wpQuiet_step (fun K hK => ?_); go_simp; split <;> (refine hK _ ?_; clear hK K))); refine wpQuiet_nil ?_); (refine J_quietX 3 rfl (by decide +kernel) (by first | exact Or.inl rfl | exact Or.inr rfl) trivial ?_; (first | go_big_quiet_step (fail) | (refine wpQuiet_step (fun K hK => ?_); go_simp; split <;> (refine hK _ ?_; clear hK K))); refine wpQuiet_nil ?_); (repeat (any_goals (first | (refine J_quietX 6 rfl (by decide +kernel) (by first | exact Or.inl rfl | exact Or.inr rfl) trivial ?_; (first | go_big_quiet_step (fail) | (refine wpQuiet_step (fun K hK => ?_); go_simp; split <;> (refine hK _ ?_; clear hK K))); refine wpQuiet_nil ?_) | (refine J_quietX 7 rfl (by decide +kernel) (by first | exact Or.inl rfl | exact Or.inr rfl) trivial ?_; (first | go_big_quiet_step (fail) | (refine wpQuiet_step (fun K hK => ?_); go_simp; split <;> (refine hK _ ?_; clear hK K))); refine wpQuiet_nil ?_) | (refine J_any [4,5] (by decide +kernel) ?_; (refine ⟨?_, ?_⟩ <;> (refine ⟨_, rfl, fun K hK => ?_⟩; go_wp2_with (fail); refine hK _ _ trivial ?_; clear hK K))) | (refine J_any [4] (by decide +kernel) ?_; (refine ⟨_, rfl, fun K hK => ?_⟩; go_wp2_with (fail); refine hK _ _ trivial ?_; clear hK K)) | (refine J_any [5] (by decide +kernel) ?_; (refine ⟨_, rfl, fun K hK => ?_⟩; go_wp2_with (fail); refine hK _ _ trivial ?_; clear hK K))))))
      all_goals (refine J_end (by decide +kernel) ?_)
      all_goals
        go_wp2_with fail
        (try simp only [Exit.inBlock, Exit.then])
        exact postP_of (by simp only [results, Tryz.results22]; go_simp <;> rfl) rfl (by (repeat (first | (with_reducible exact Grow.refl _) | assumption | refine Grow.ext ?_ _ | refine Grow.alloc ?_ _ | refine Grow.drew ?_ | refine Grow.setCell ?_ (by first | (simp; done) | (simp; omega)) _ | refine Grow.trans ?_ (by assumption)))) ⟨.slice none 0 0, .slice none 0 0, rfl, Sl.nil _ _, Sl.nil _ _⟩
end Go.Proofs.YtafcdabiplcjiaaGreat
