/- Layer 8: the examples of its laws. -/
import Derived.Test.YthackfblfkpddaaL08s
import Derived.Test.YthackfblfkpddaaOwn
import Derived.Deep.DeepMust
namespace Go.Proofs.Ythackfblfkpddaa
open Go.RowKit
set_option linter.unusedSimpArgs false
set_option linter.unusedVariables false

abbrev plz : Pl := ⟨0, false, 0⟩
abbrev opz : Opd := ⟨0, 0, plz⟩
def exEnd : Bk := ⟨[], ⟨3, opz, 0, 0, 0, [], plz⟩⟩
def callBk (n x : Int) (ar : List Opd) : Bk := ⟨[], ⟨4, opz, n, x, 0, ar, plz⟩⟩
def callF (n : Int) : Fn := ⟨0, false, [⟨1, 0⟩], [callBk n 1 [], exEnd]⟩
def exP8 : Pr := ⟨[callF 2, callF 0, callF 2]⟩
theorem ty10 : (⟨1, 0⟩ : Ty).wf := ⟨by simp [U8], by simp [U8]⟩
theorem plz_wf : plz.wf := ⟨by simp [I64], by simp [U8]⟩
theorem opz_wf : opz.wf := ⟨by simp [U8], by simp [I64], plz_wf⟩
theorem R_end (F : Nat → Prop) (W : World) : Rp.R F W exEnd [.slice none 0 0, .int .u8 3, .int .u8 0, .int .i64 0, .int .i64 0, .bool false, .int .u8 0, .int .i64 0, .int .i64 0, .int .i64 0, .slice none 0 0, .int .i64 0, .bool false, .int .u8 0] := ⟨none, 0, 0, none, 0, 0, rfl, ⟨⟨by simp [U8, exEnd], opz_wf, by simp [I64, exEnd], by simp [I64, exEnd], by simp [I64, exEnd], plz_wf⟩⟩, Sl.nil _ _, Sl.nil _ _⟩
theorem R_callBk (F : Nat → Prop) (W : World) (n : Int) (hn : I64 n) : Rp.R F W (callBk n 0 []) [.slice none 0 0, .int .u8 4, .int .u8 0, .int .i64 0, .int .i64 0, .bool false, .int .u8 0, .int .i64 n, .int .i64 0, .int .i64 0, .slice none 0 0, .int .i64 0, .bool false, .int .u8 0] := ⟨none, 0, 0, none, 0, 0, rfl, ⟨⟨by simp [U8, callBk], opz_wf, hn, by simp [I64, callBk], by simp [I64, callBk], plz_wf⟩⟩, Sl.nil _ _, Sl.nil _ _⟩
theorem Bk_next {F : Nat → Prop} {W : World} {n x : Int} {ar : List Opd} {cs : List Value} (h : Rp.R F W (callBk n x ar) cs) : Rp.R F W (callBk n 1 ar) (cs.set 8 (.int .i64 1)) := by
  obtain ⟨sa, sn, sc, ja, jn, jc, rfl, ⟨hw⟩, g0, g1⟩ := h
  exact ⟨sa, sn, sc, ja, jn, jc, rfl, ⟨⟨hw.1, hw.2, hw.3, by simp [I64, callBk], hw.5, hw.6⟩⟩, g0, g1⟩
theorem slT_bk : SlT Try.prog 48 63 14 128 := SlT.mk' (z := .agg #[.slice none 0 0, .int .u8 0, .int .u8 0, .int .i64 0, .int .i64 0, .bool false, .int .u8 0, .int .i64 0, .int .i64 0, .int .i64 0, .slice none 0 0, .int .i64 0, .bool false, .int .u8 0]) Try.underlying48 (by kernel_rfl) rfl (by omega)
set_option maxRecDepth 100000 in
set_option maxHeartbeats 2000000 in
theorem law08_leaf0 (w : World) : Calls Try.prog 22 #[.int .i64 0] w (fun e w' => e = .returned (.agg #[.int .i64 0, .bool false, .slice (some ⟨w.heap.size + 1, 0, none⟩) 1 1, .slice (some ⟨w.heap.size + 1 + 1, 0, none⟩) 1 1]) ∧ w' = ((((w.alloc (.cells #[.int .i64 0, .bool false, .slice (some ⟨w.heap.size + 1, 0, none⟩) 1 1, .slice (some ⟨w.heap.size + 1 + 1, 0, none⟩) 1 1] 50)).alloc (.cells #[.int .u8 1, .int .u8 0] 23)).alloc (.cells #[.slice none 0 0, .int .u8 3, .int .u8 0, .int .i64 0, .int .i64 0, .bool false, .int .u8 0, .int .i64 0, .int .i64 0, .int .i64 0, .slice none 0 0, .int .i64 0, .bool false, .int .u8 0] 63)).alloc (.cells #[.int .i64 0, .bool false, .slice (some ⟨w.heap.size + 1, 0, none⟩) 1 1, .slice (some ⟨w.heap.size + 1 + 1, 0, none⟩) 1 1] 50))) := by
  go_enter Try.func22, Try.ntmps22
  go_wp2_with fail
  refine wp_loop_rounds 1 ?_
  rw [rounds_succ]
  go_wp2_with fail
  (try simp only [Exit.inBlock, Exit.then])
  exact bodyPost_ret (by simp only [results, Try.results22]; go_simp <;> rfl) rfl ⟨rfl, rfl⟩
/-- Blocks that have come since w. -/
def New (w : World) (k : Nat) : Prop := w.heap.size ≤ k
theorem agr_new {W W' : World} (x : Ext) (h : W'.heap.size = W.heap.size) : Agr (New W) (ext W x) (ext W' x) := fun k hk _ => by
  unfold New at hk
  simp only [ext]
  rw [Array.getElem?_append_right (by omega), Array.getElem?_append_right (by omega), h]
def F37 (w : World) (k : Nat) : Prop := k = w.heap.size + 1 + 1 + 1 ∨ k = w.heap.size + 1 + 1 + 1 + 1 + 1 + 1 + 1
set_option maxRecDepth 100000 in
set_option maxHeartbeats 2000000 in
theorem law08_calls0 (n : Int) (w : World) (hn : I64 n) : Calls Try.prog 23 #[.int .i64 n, .int .i64 0] w (RetP w fun v w' => ∃ a1 c1 a2 c2, v = (callF n).v (.slice a1 1 c1) (.slice a2 2 c2) ∧ Sl (New w) w' (.slice a1 1 c1) (callF n).locals ∧ Sl (New w) w' (.slice a2 2 c2) (callF n).blocks) := by
  go_enter Try.func23, Try.ntmps23
  go_wp2_with (first | (go_at_call 22; ((with_reducible refine (law08_leaf0 _).mono ?_); rintro e w1 ⟨rfl, rfl⟩)))
  refine wp_loop_rounds 1 ?_
  rw [rounds_succ]
  go_upto_region 7 with fail
  have hs0 : Sl (F37 w) ((((((((w.alloc (.cells #[.int .i64 0, .bool false, .slice none 0 0, .slice none 0 0] 50)).alloc (.cells #[.int .i64 0, .bool false, .slice (some ⟨w.heap.size + 1 + 1, 0, none⟩) 1 1, .slice (some ⟨w.heap.size + 1 + 1 + 1, 0, none⟩) 1 1] 50)).alloc (.cells #[.int .u8 1, .int .u8 0] 23)).alloc (.cells #[.slice none 0 0, .int .u8 3, .int .u8 0, .int .i64 0, .int .i64 0, .bool false, .int .u8 0, .int .i64 0, .int .i64 0, .int .i64 0, .slice none 0 0, .int .i64 0, .bool false, .int .u8 0] 63)).alloc (.cells #[.int .i64 0, .bool false, .slice (some ⟨w.heap.size + 1 + 1, 0, none⟩) 1 1, .slice (some ⟨w.heap.size + 1 + 1 + 1, 0, none⟩) 1 1] 50)).alloc (.cells #[.int .i64 0, .bool false, .slice (some ⟨w.heap.size + 1 + 1, 0, none⟩) 1 1, .slice (some ⟨w.heap.size + 1 + 1 + 1, 0, none⟩) 1 1] 50)).alloc (.cells #[.int .u8 4, .int .u8 0, .int .i64 0, .int .i64 0, .bool false, .int .u8 0, .int .i64 n, .int .i64 0, .int .i64 0, .slice none 0 0, .int .i64 0, .bool false, .int .u8 0] 46)).alloc (.cells #[.slice none 0 0, .int .u8 4, .int .u8 0, .int .i64 0, .int .i64 0, .bool false, .int .u8 0, .int .i64 n, .int .i64 0, .int .i64 0, .slice none 0 0, .int .i64 0, .bool false, .int .u8 0] 63)) (.slice (some ⟨w.heap.size + 1 + 1 + 1 + 1 + 1 + 1 + 1, 0, none⟩) 1 1) [callBk n 0 []] := Sl.one (Or.inr rfl) (by simp <;> omega) (by omega) (by omega) (R_callBk _ _ n hn) (by (repeat (refine CellsAt.cons (by go_simp) ?_)); exact CellsAt.nil _ _ _)
  have hs1 : Sl (F37 w) ((((((((w.alloc (.cells #[.int .i64 0, .bool false, .slice none 0 0, .slice none 0 0] 50)).alloc (.cells #[.int .i64 0, .bool false, .slice (some ⟨w.heap.size + 1 + 1, 0, none⟩) 1 1, .slice (some ⟨w.heap.size + 1 + 1 + 1, 0, none⟩) 1 1] 50)).alloc (.cells #[.int .u8 1, .int .u8 0] 23)).alloc (.cells #[.slice none 0 0, .int .u8 3, .int .u8 0, .int .i64 0, .int .i64 0, .bool false, .int .u8 0, .int .i64 0, .int .i64 0, .int .i64 0, .slice none 0 0, .int .i64 0, .bool false, .int .u8 0] 63)).alloc (.cells #[.int .i64 0, .bool false, .slice (some ⟨w.heap.size + 1 + 1, 0, none⟩) 1 1, .slice (some ⟨w.heap.size + 1 + 1 + 1, 0, none⟩) 1 1] 50)).alloc (.cells #[.int .i64 0, .bool false, .slice (some ⟨w.heap.size + 1 + 1, 0, none⟩) 1 1, .slice (some ⟨w.heap.size + 1 + 1 + 1, 0, none⟩) 1 1] 50)).alloc (.cells #[.int .u8 4, .int .u8 0, .int .i64 0, .int .i64 0, .bool false, .int .u8 0, .int .i64 n, .int .i64 0, .int .i64 0, .slice none 0 0, .int .i64 0, .bool false, .int .u8 0] 46)).alloc (.cells #[.slice none 0 0, .int .u8 4, .int .u8 0, .int .i64 0, .int .i64 0, .bool false, .int .u8 0, .int .i64 n, .int .i64 0, .int .i64 0, .slice none 0 0, .int .i64 0, .bool false, .int .u8 0] 63)) (.slice (some ⟨w.heap.size + 1 + 1 + 1, 0, none⟩) 1 1) [exEnd] := Sl.one (Or.inl rfl) (by simp <;> omega) (by omega) (by omega) (R_end _ _) (by (repeat (refine CellsAt.cons (by go_simp) ?_)); exact CellsAt.nil _ _ _)
  go_upto_region 8 with (first | (at_builtin; go_must (refine wpList_copy2 (α := Bk) slT_bk rfl rfl rfl rfl hs0 hs1 (by omega) (by omega) (by omega) (by omega) (by omega) ?_); intro C capC hC1 hC2 HC))
  have hcell : C[8]? = some (.int .i64 0) := by
    obtain ⟨cs, ⟨sa, sn, sc, ja, jn, jc, rfl, hw, g0, g1⟩, hc⟩ := HC 0 (by simp)
    have := hc 8 (by simp)
    rw [Nat.zero_mul, Nat.zero_add] at this; exact this
  have HC' : Rows8 (F37 w) ((((((((w.alloc (.cells #[.int .i64 0, .bool false, .slice none 0 0, .slice none 0 0] 50)).alloc (.cells #[.int .i64 0, .bool false, .slice (some ⟨w.heap.size + 1 + 1, 0, none⟩) 1 1, .slice (some ⟨w.heap.size + 1 + 1 + 1, 0, none⟩) 1 1] 50)).alloc (.cells #[.int .u8 1, .int .u8 0] 23)).alloc (.cells #[.slice none 0 0, .int .u8 3, .int .u8 0, .int .i64 0, .int .i64 0, .bool false, .int .u8 0, .int .i64 0, .int .i64 0, .int .i64 0, .slice none 0 0, .int .i64 0, .bool false, .int .u8 0] 63)).alloc (.cells #[.int .i64 0, .bool false, .slice (some ⟨w.heap.size + 1 + 1, 0, none⟩) 1 1, .slice (some ⟨w.heap.size + 1 + 1 + 1, 0, none⟩) 1 1] 50)).alloc (.cells #[.int .i64 0, .bool false, .slice (some ⟨w.heap.size + 1 + 1, 0, none⟩) 1 1, .slice (some ⟨w.heap.size + 1 + 1 + 1, 0, none⟩) 1 1] 50)).alloc (.cells #[.int .u8 4, .int .u8 0, .int .i64 0, .int .i64 0, .bool false, .int .u8 0, .int .i64 n, .int .i64 0, .int .i64 0, .slice none 0 0, .int .i64 0, .bool false, .int .u8 0] 46)).alloc (.cells #[.slice none 0 0, .int .u8 4, .int .u8 0, .int .i64 0, .int .i64 0, .bool false, .int .u8 0, .int .i64 n, .int .i64 0, .int .i64 0, .slice none 0 0, .int .i64 0, .bool false, .int .u8 0] 63)) (C.setIfInBounds 8 (.int .i64 1)) (callF n).blocks := by
    have := HC.put 0 (by simp) 8 (by decide) (.int .i64 1) (x' := callBk n 1 []) (fun cs h => Bk_next h)
    rw [Nat.zero_mul, Nat.zero_add] at this; exact this
  go_wp2_with fail
  (refine postP_of (by simp only [results, Try.results23]; go_simp <;> rfl) rfl (by (repeat (first | (with_reducible exact Grow.refl _) | assumption | refine Grow.ext ?_ _ | refine Grow.alloc ?_ _ | refine Grow.drew ?_ | refine Grow.setCell ?_ (by first | (simp; done) | (simp; omega)) _ | refine Grow.trans ?_ (by assumption)))) ?_)
  refine ⟨_, _, _, _, rfl, ?_, ?_⟩
  · exact Sl.one (cs := [.int .u8 1, .int .u8 0]) (by unfold New; omega) (by simp <;> omega) (by omega) (by omega) ⟨rfl, ty10⟩ (by (repeat (refine CellsAt.cons (by go_simp) ?_)); exact CellsAt.nil _ _ _)
  · refine (HC'.sl (g := w.heap.size + 1 + 1 + 1 + 1 + 1 + 1 + 1 + 1) (cap := capC) (e := 63) ?_ ?_ hC1 hC2).wide (fun k _ hk => by unfold New; unfold F37 at hk; omega)
    · simp only [hp_alloc, hp_at, hp_ext, hp_drew]
    · intro k hk _
      rcases hk with rfl | rfl
      all_goals simp only [hp_alloc, hp_at, hp_ext, hp_drew]
set_option maxRecDepth 100000 in
set_option maxHeartbeats 2000000 in
theorem law08_example (w : World) : Calls Try.prog 43 #[] w (RetP w fun v w' => ∃ u, v = Pr.v exP8 u ∧ Sl (New w) w' u exP8.funcs) := by
  have i0 : I64 0 := ⟨by decide, by decide⟩
  have i2 : I64 2 := ⟨by decide, by decide⟩
  go_enter Try.func43, Try.ntmps43
  go_wp2_with (first
    | (have _ := q2; (go_at_call 23; (with_reducible refine (law08_calls0 2 _ i2).mono ?_); rintro e w3 ⟨_, rfl, ⟨a3, c3, d3, e3, rfl, hl3, hk3⟩, hb3⟩; obtain ⟨x3, rfl⟩ := ext_of_grow hb3; clear hb3; have q3 := True.intro))
    | (have _ := q1; (go_at_call 23; (with_reducible refine (law08_calls0 0 _ i0).mono ?_); rintro e w2 ⟨_, rfl, ⟨a2, c2, d2, e2, rfl, hl2, hk2⟩, hb2⟩; obtain ⟨x2, rfl⟩ := ext_of_grow hb2; clear hb2; have q2 := True.intro))
    | (go_at_call 23; (with_reducible refine (law08_calls0 2 _ i2).mono ?_); rintro e w1 ⟨_, rfl, ⟨a1, c1, d1, e1, rfl, hl1, hk1⟩, hb1⟩; obtain ⟨x1, rfl⟩ := ext_of_grow hb1; clear hb1; have q1 := True.intro))
  (refine postP_of (by simp only [results, Try.results43]; go_simp <;> rfl) rfl (by (repeat (first | (with_reducible exact Grow.refl _) | assumption | refine Grow.ext ?_ _ | refine Grow.alloc ?_ _ | refine Grow.drew ?_ | refine Grow.setCell ?_ (by first | (simp; done) | (simp; omega)) _ | refine Grow.trans ?_ (by assumption)))) ?_)
  refine ⟨_, rfl, ?_⟩
  refine (Rows8.sl (F := New w) (g := w.heap.size + 1 + x1.k + x2.k + x3.k) (e := 50) (cap := 3) (xs := exP8.funcs) (Rows8.flat (α := Fn) [(callF 2).c (.slice a1 1 c1) (.slice d1 2 e1), (callF 0).c (.slice a2 1 c2) (.slice d2 2 e2), (callF 2).c (.slice a3 1 c3) (.slice d3 2 e3)] rfl ?_ rfl) hp_at (Agr.refl _ _) (by decide) (by decide)).wide (fun k _ hk => ?_)
  · intro i h h'
    rcases i with _ | _ | _ | i
    · exact ⟨_, _, _, _, _, _, rfl, ⟨by simp [I64, exP8, callF]⟩, (((hl1.keep (agr_new (W' := w.alloc (.cells #[.slice (some ⟨w.heap.size + 1 + x1.k + x2.k + x3.k, 0, none⟩) 3 3] 43)) x1 (by simp))).mono (by (repeat (first | (with_reducible exact Grow.refl _) | assumption | refine Grow.ext ?_ _ | refine Grow.alloc ?_ _ | refine Grow.drew ?_ | refine Grow.setCell ?_ (by first | (simp; done) | (simp; omega)) _ | refine Grow.trans ?_ (by assumption))))).wide (fun k _ h => by unfold New at *; simp at h; omega)), (((hk1.keep (agr_new (W' := w.alloc (.cells #[.slice (some ⟨w.heap.size + 1 + x1.k + x2.k + x3.k, 0, none⟩) 3 3] 43)) x1 (by simp))).mono (by (repeat (first | (with_reducible exact Grow.refl _) | assumption | refine Grow.ext ?_ _ | refine Grow.alloc ?_ _ | refine Grow.drew ?_ | refine Grow.setCell ?_ (by first | (simp; done) | (simp; omega)) _ | refine Grow.trans ?_ (by assumption))))).wide (fun k _ h => by unfold New at *; simp at h; omega))⟩
    · exact ⟨_, _, _, _, _, _, rfl, ⟨by simp [I64, exP8, callF]⟩, (((hl2.keep (agr_new (W' := ext (w.alloc (.cells #[.slice (some ⟨w.heap.size + 1 + x1.k + x2.k + x3.k, 0, none⟩) 3 3] 43)) x1) x2 (by simp))).mono (by (repeat (first | (with_reducible exact Grow.refl _) | assumption | refine Grow.ext ?_ _ | refine Grow.alloc ?_ _ | refine Grow.drew ?_ | refine Grow.setCell ?_ (by first | (simp; done) | (simp; omega)) _ | refine Grow.trans ?_ (by assumption))))).wide (fun k _ h => by unfold New at *; simp at h; omega)), (((hk2.keep (agr_new (W' := ext (w.alloc (.cells #[.slice (some ⟨w.heap.size + 1 + x1.k + x2.k + x3.k, 0, none⟩) 3 3] 43)) x1) x2 (by simp))).mono (by (repeat (first | (with_reducible exact Grow.refl _) | assumption | refine Grow.ext ?_ _ | refine Grow.alloc ?_ _ | refine Grow.drew ?_ | refine Grow.setCell ?_ (by first | (simp; done) | (simp; omega)) _ | refine Grow.trans ?_ (by assumption))))).wide (fun k _ h => by unfold New at *; simp at h; omega))⟩
    · exact ⟨_, _, _, _, _, _, rfl, ⟨by simp [I64, exP8, callF]⟩, (((hl3.keep (agr_new (W' := ext (ext (w.alloc (.cells #[.slice (some ⟨w.heap.size + 1 + x1.k + x2.k + x3.k, 0, none⟩) 3 3] 43)) x1) x2) x3 (by simp))).mono (by (repeat (first | (with_reducible exact Grow.refl _) | assumption | refine Grow.ext ?_ _ | refine Grow.alloc ?_ _ | refine Grow.drew ?_ | refine Grow.setCell ?_ (by first | (simp; done) | (simp; omega)) _ | refine Grow.trans ?_ (by assumption))))).wide (fun k _ h => by unfold New at *; simp at h; omega)), (((hk3.keep (agr_new (W' := ext (ext (w.alloc (.cells #[.slice (some ⟨w.heap.size + 1 + x1.k + x2.k + x3.k, 0, none⟩) 3 3] 43)) x1) x2) x3 (by simp))).mono (by (repeat (first | (with_reducible exact Grow.refl _) | assumption | refine Grow.ext ?_ _ | refine Grow.alloc ?_ _ | refine Grow.drew ?_ | refine Grow.setCell ?_ (by first | (simp; done) | (simp; omega)) _ | refine Grow.trans ?_ (by assumption))))).wide (fun k _ h => by unfold New at *; simp at h; omega))⟩
    · exact absurd h (by show ¬ (i + 1 + 1 + 1 < 3); omega)
  · rcases hk with hk | hk
    · exact hk
    · unfold New; omega
def sameInts (a b : List Int) : Bool := a == b
set_option maxHeartbeats 1000000 in
theorem ref04_SameInts (v1 v2 : Value) (l1 l2 : List Int) (w : World) {F F' : Nat → Prop} (h1 : Sl F w v1 l1) (h2 : Sl F' w v2 l2) : Calls Try.prog 27 #[v1, v2] w (Ret w (.bool (sameInts l1 l2))) := by
  obtain ⟨a, n, cap, rfl, Hn, hm, hcap, hcm, h1⟩ := h1.open
  obtain ⟨a2, n2, cap2, rfl, Hn2, hm2, hcap2, hcm2, h2⟩ := h2.open
  by_cases hl : n = n2
  · subst hl
    have Hs : Hid (sameInts l1 l2 = sameInts (l1.drop 0) (l2.drop 0)) := Lib.hid rfl
    go_enter Try.func27, Try.ntmps27
    go_wp2_with fail
    go_loopw [5] (fun i wr => ∃ (k : Nat), k ≤ n ∧ i = .int .i64 k ∧ Grow w wr ∧ Hid (sameInts l1 l2 = sameInts (l1.drop k) (l2.drop k))) (fun i _ => n - (intOf i).toNat)
    case atStart => exact ⟨0, Nat.zero_le _, rfl, (by (repeat (first | (with_reducible exact Grow.refl _) | assumption | refine Grow.ext ?_ _ | refine Grow.alloc ?_ _ | refine Grow.drew ?_ | refine Grow.setCell ?_ (by first | (simp; done) | (simp; omega)) _ | refine Grow.trans ?_ (by assumption)))), Hs⟩
    case round =>
      clear Hs
      obtain ⟨k, hk, rfl, hb1, Hs⟩ := hrel
      obtain ⟨y1, rfl⟩ := ext_of_grow hb1
      by_cases hlt : k < n
      · obtain ⟨b_c, off_c, c, rfl, ⟨Hg_c, hl_c, hw_c, c_c0⟩⟩ := h1.int k hlt
        obtain ⟨b_d, off_d, d, rfl, ⟨Hg_d, hl_d, hw_d, c_d0⟩⟩ := h2.int k hlt
        have Hd : Hid (sameInts (l1.drop k) (l2.drop k) = ((c == d) && sameInts (l1.drop (k + 1)) (l2.drop (k + 1)))) := Lib.hid (by rw [drop_cons Hg_c, drop_cons Hg_d]; rfl)
        cases hcd : (c != d)
        · go_wp2_with fail
          (refine wp_region_ext (by kernel_rfl) (by kernel_rfl) ?_; (repeat (any_goals (first | go_big_quiet_step (first | fail) | (refine wpQuiet_step (fun K hK => ?_); go_simp; split <;> (refine hK _ ?_; clear hK K))))); all_goals (refine wpQuiet_nil ?_; intro w9 hb9; obtain ⟨x9, rfl⟩ := ext_of_grow hb9; clear hb9))
          go_wp2_with fail
          go_roundw
          case rel => exact ⟨k + 1, by omega, by go_num, (by (repeat (first | (with_reducible exact Grow.refl _) | assumption | refine Grow.ext ?_ _ | refine Grow.alloc ?_ _ | refine Grow.drew ?_ | refine Grow.setCell ?_ (by first | (simp; done) | (simp; omega)) _ | refine Grow.trans ?_ (by assumption)))), Lib.hid (by rw [Hs.out, Hd.out, show (c == d) = true by simpa using hcd, Bool.true_and])⟩
          case measure => simp [intOf]; omega
        · go_wp2_with fail
          (refine wp_region_ext (by kernel_rfl) (by kernel_rfl) ?_; (repeat (any_goals (first | go_big_quiet_step (first | fail) | (refine wpQuiet_step (fun K hK => ?_); go_simp; split <;> (refine hK _ ?_; clear hK K))))); all_goals (refine wpQuiet_nil ?_; intro w9 hb9; obtain ⟨x9, rfl⟩ := ext_of_grow hb9; clear hb9))
          go_wp2_with fail
          go_ret
          exact Ret.bool (by rw [Hs.out, Hd.out, show (c == d) = false by simpa using hcd, Bool.false_and]) (by (repeat (first | (with_reducible exact Grow.refl _) | assumption | refine Grow.ext ?_ _ | refine Grow.alloc ?_ _ | refine Grow.drew ?_ | refine Grow.setCell ?_ (by first | (simp; done) | (simp; omega)) _ | refine Grow.trans ?_ (by assumption))))
      · go_wp2_with fail
        go_ret
        exact Ret.bool (by rw [Hs.out, drop_all Hn (by omega), drop_all Hn2 (by omega)]; rfl) (by (repeat (first | (with_reducible exact Grow.refl _) | assumption | refine Grow.ext ?_ _ | refine Grow.alloc ?_ _ | refine Grow.drew ?_ | refine Grow.setCell ?_ (by first | (simp; done) | (simp; omega)) _ | refine Grow.trans ?_ (by assumption))))
  · have hl' : ((n : Int) != n2) = true := by simp; omega
    go_enter Try.func27, Try.ntmps27
    go_wp2_with fail
    go_ret
    exact Ret.bool (by unfold sameInts; symm; rw [beq_eq_false_iff_ne]; intro e; exact hl (by rw [Hn.out, Hn2.out, e])) (by (repeat (first | (with_reducible exact Grow.refl _) | assumption | refine Grow.ext ?_ _ | refine Grow.alloc ?_ _ | refine Grow.drew ?_ | refine Grow.setCell ?_ (by first | (simp; done) | (simp; omega)) _ | refine Grow.trans ?_ (by assumption))))
theorem SameInts_at (v1 v2 : Value) (l1 l2 : List Int) (w : World) {F F' : Nat → Prop} (h1 : Sl F w v1 l1) (h2 : Sl F' w v2 l2) {b : Bool} (h : sameInts l1 l2 = b) : Calls Try.prog 27 #[v1, v2] w (Ret w (.bool b)) := h ▸ ref04_SameInts v1 v2 l1 l2 w h1 h2
theorem R_int (F : Nat → Prop) (w : World) {x : Int} (hx : I64 x) : Rp.R F w x [.int .i64 x] := ⟨rfl, hx⟩
theorem ex8_ok : prErr exP8 = 0 := by decide +kernel
theorem ex8_reach : reachL exP8 = [0, 2] := by decide +kernel
theorem ex8_r0 : recP exP8 0 = (false, 0) := by decide +kernel
theorem ex8_r1 : recP exP8 1 = (false, 0) := by decide +kernel
theorem ex8_r2 : recP exP8 2 = (true, 0) := by decide +kernel
theorem ex8_size : sizeP exP8 = (6, 0) := by decide +kernel
theorem rec_v (p : Pr) (pv : Value) (f : Int) (w : World) {F : Nat → Prop} (hp : Sl F w pv p.funcs) (hf : I64 f) {b : Bool} {e : Int} (h : recP p f = (b, e)) : Calls Try.prog 17 #[p.v pv, .int .i64 f] w (Ret w (.tuple #[.bool b, .int .i64 e])) := by
  have := program_Recursive p pv f w hp hf; rw [h] at this; exact this
theorem size_v (p : Pr) (pv : Value) (w : World) {F : Nat → Prop} (hp : Sl F w pv p.funcs) {b e : Int} (h : sizeP p = (b, e)) : Calls Try.prog 25 #[p.v pv] w (Ret w (.tuple #[.int .i64 b, .int .i64 e])) := by
  have := program_Size p pv w hp; rw [h] at this; exact this
theorem reached_v (p : Pr) (pv : Value) (w : World) {F : Nat → Prop} (hp : Sl F w pv p.funcs) (hok : prErr p = 0) {l : List Int} (h : reachL p = l) : Calls Try.prog 20 #[p.v pv] w (RetP w fun v w' => ∃ u, v = .tuple #[u, .int .i64 0] ∧ Sl (Fresh w) w' u l) := h ▸ program_Reached p pv w hp hok
set_option maxRecDepth 100000 in
set_option maxHeartbeats 2000000 in
theorem law08_alive (w : World) : Calls Try.prog 16 #[] w (Ret w (.bool true)) := by
  have i0 : I64 0 := ⟨by decide, by decide⟩
  have i1 : I64 1 := ⟨by decide, by decide⟩
  have i2 : I64 2 := ⟨by decide, by decide⟩
  go_enter Try.func16, Try.ntmps16
  go_wp2_with (first
    | (go_at_call 43; first
      | (have _ := q4; ((with_reducible refine (law08_example _).mono ?_); rintro e v5 ⟨_, rfl, ⟨u5, rfl, hs5⟩, hb5⟩; obtain ⟨y5, rfl⟩ := ext_of_grow hb5; clear hb5; obtain ⟨a5, n5, c5, rfl, Hn5, hm5, hcap5, hcm5, hs5⟩ := hs5.open; have q5 := True.intro))
      | (have _ := q3; ((with_reducible refine (law08_example _).mono ?_); rintro e v4 ⟨_, rfl, ⟨u4, rfl, hs4⟩, hb4⟩; obtain ⟨y4, rfl⟩ := ext_of_grow hb4; clear hb4; obtain ⟨a4, n4, c4, rfl, Hn4, hm4, hcap4, hcm4, hs4⟩ := hs4.open; have q4 := True.intro))
      | (have _ := q2; ((with_reducible refine (law08_example _).mono ?_); rintro e v3 ⟨_, rfl, ⟨u3, rfl, hs3⟩, hb3⟩; obtain ⟨y3, rfl⟩ := ext_of_grow hb3; clear hb3; obtain ⟨a3, n3, c3, rfl, Hn3, hm3, hcap3, hcm3, hs3⟩ := hs3.open; have q3 := True.intro))
      | (have _ := q1; ((with_reducible refine (law08_example _).mono ?_); rintro e v2 ⟨_, rfl, ⟨u2, rfl, hs2⟩, hb2⟩; obtain ⟨y2, rfl⟩ := ext_of_grow hb2; clear hb2; obtain ⟨a2, n2, c2, rfl, Hn2, hm2, hcap2, hcm2, hs2⟩ := hs2.open; have q2 := True.intro))
      | ((with_reducible refine (law08_example _).mono ?_); rintro e v1 ⟨_, rfl, ⟨u1, rfl, hs1⟩, hb1⟩; obtain ⟨y1, rfl⟩ := ext_of_grow hb1; clear hb1; obtain ⟨a1, n1, c1, rfl, Hn1, hm1, hcap1, hcm1, hs1⟩ := hs1.open; have q1 := True.intro))
    | (go_at_call 20; ((with_reducible refine (reached_v exP8 _ _ (hs1.mono (by (repeat (first | (with_reducible exact Grow.refl _) | assumption | refine Grow.ext ?_ _ | refine Grow.alloc ?_ _ | refine Grow.drew ?_ | refine Grow.setCell ?_ (by first | (simp; done) | (simp; omega)) _ | refine Grow.trans ?_ (by assumption))))) ex8_ok ex8_reach).mono ?_); rintro e z1 ⟨_, rfl, ⟨u1, rfl, hr1⟩, hb1⟩; obtain ⟨x1, rfl⟩ := ext_of_grow hb1; clear hb1; obtain ⟨ra, rn, rc, rfl, Hrn, hrm, hrcap, hrcm, hr1⟩ := hr1.open))
    | (go_at_call 17; first
      | ((with_reducible refine (rec_v exP8 _ 0 _ (hs2.mono (by (repeat (first | (with_reducible exact Grow.refl _) | assumption | refine Grow.ext ?_ _ | refine Grow.alloc ?_ _ | refine Grow.drew ?_ | refine Grow.setCell ?_ (by first | (simp; done) | (simp; omega)) _ | refine Grow.trans ?_ (by assumption))))) i0 ex8_r0).mono ?_); rintro e w2 ⟨rfl, hb2⟩; obtain ⟨x2, rfl⟩ := ext_of_grow hb2; clear hb2)
      | ((with_reducible refine (rec_v exP8 _ 1 _ (hs3.mono (by (repeat (first | (with_reducible exact Grow.refl _) | assumption | refine Grow.ext ?_ _ | refine Grow.alloc ?_ _ | refine Grow.drew ?_ | refine Grow.setCell ?_ (by first | (simp; done) | (simp; omega)) _ | refine Grow.trans ?_ (by assumption))))) i1 ex8_r1).mono ?_); rintro e w3 ⟨rfl, hb3⟩; obtain ⟨x3, rfl⟩ := ext_of_grow hb3; clear hb3)
      | ((with_reducible refine (rec_v exP8 _ 2 _ (hs4.mono (by (repeat (first | (with_reducible exact Grow.refl _) | assumption | refine Grow.ext ?_ _ | refine Grow.alloc ?_ _ | refine Grow.drew ?_ | refine Grow.setCell ?_ (by first | (simp; done) | (simp; omega)) _ | refine Grow.trans ?_ (by assumption))))) i2 ex8_r2).mono ?_); rintro e w4 ⟨rfl, hb4⟩; obtain ⟨x4, rfl⟩ := ext_of_grow hb4; clear hb4))
    | (go_at_call 27; go_must ((with_reducible refine (SameInts_at _ _ [0, 2] [0, 2] _ (hr1.mono (by (repeat (first | (with_reducible exact Grow.refl _) | assumption | refine Grow.ext ?_ _ | refine Grow.alloc ?_ _ | refine Grow.drew ?_ | refine Grow.setCell ?_ (by first | (simp; done) | (simp; omega)) _ | refine Grow.trans ?_ (by assumption))))) (Sl.two (α := Int) (F := fun _ => True) (cs := [.int .i64 0]) (ds := [.int .i64 2]) trivial (by simp <;> omega) (by omega) (by omega) (R_int _ _ i0) (by (repeat (refine CellsAt.cons (by go_simp) ?_)); exact CellsAt.nil _ _ _) (R_int _ _ i2) (by (repeat (refine CellsAt.cons (by go_simp) ?_)); exact CellsAt.nil _ _ _)) rfl).mono ?_); rintro e w6 ⟨rfl, hb6⟩; obtain ⟨x6, rfl⟩ := ext_of_grow hb6; clear hb6))
    | (go_at_call 25; ((with_reducible refine (size_v exP8 _ _ (hs5.mono (by (repeat (first | (with_reducible exact Grow.refl _) | assumption | refine Grow.ext ?_ _ | refine Grow.alloc ?_ _ | refine Grow.drew ?_ | refine Grow.setCell ?_ (by first | (simp; done) | (simp; omega)) _ | refine Grow.trans ?_ (by assumption))))) ex8_size).mono ?_); rintro e w5 ⟨rfl, hb5⟩; obtain ⟨x5, rfl⟩ := ext_of_grow hb5; clear hb5)))
  go_ret
  exact Ret.bool rfl (by (repeat (first | (with_reducible exact Grow.refl _) | assumption | refine Grow.ext ?_ _ | refine Grow.alloc ?_ _ | refine Grow.drew ?_ | refine Grow.setCell ?_ (by first | (simp; done) | (simp; omega)) _ | refine Grow.trans ?_ (by assumption))))
end Go.Proofs.Ythackfblfkpddaa
