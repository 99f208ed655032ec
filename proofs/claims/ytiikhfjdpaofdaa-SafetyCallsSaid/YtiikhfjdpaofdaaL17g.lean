/- Layer 17: the chapter's examples. -/
import Derived.Test.YtiikhfjdpaofdaaL17b
import Derived.Deep.DeepMust
namespace Go.Proofs.Ytiikhfjdpaofdaa
open Go.RowKit
set_option linter.unusedSimpArgs false
set_option linter.unusedVariables false

abbrev plz : Pl := ⟨0, false, 0⟩
abbrev opz : Opd := ⟨0, 0, plz⟩
def exEnd : Bk := ⟨[], ⟨3, opz, 0, 0, 0, [], plz⟩⟩
def exCall : Bk := ⟨[], ⟨4, opz, 1, 1, 0, [], plz⟩⟩
def exPr (call first second : Bool) : Pr := ⟨[⟨0, first, [⟨1, 0⟩], if call = true then [exCall, exEnd] else [exEnd]⟩, ⟨0, second, [⟨1, 0⟩, ⟨5, 1⟩], [exEnd]⟩]⟩
theorem ty10 : (⟨1, 0⟩ : Ty).wf := ⟨by simp [U8], by simp [U8]⟩
theorem ty51 : (⟨5, 1⟩ : Ty).wf := ⟨by simp [U8], by simp [U8]⟩
theorem plz_wf : plz.wf := ⟨by simp [I64], by simp [U8]⟩
theorem opz_wf : opz.wf := ⟨by simp [U8], by simp [I64], plz_wf⟩
theorem R_end (W : World) : Rp.R (fun _ => True) W exEnd [.slice none 0 0, .int .u8 3, .int .u8 0, .int .i64 0, .int .i64 0, .bool false, .int .u8 0, .int .i64 0, .int .i64 0, .int .i64 0, .slice none 0 0, .int .i64 0, .bool false, .int .u8 0] := ⟨none, 0, 0, none, 0, 0, rfl, ⟨⟨by simp [U8, exEnd], opz_wf, by simp [I64, exEnd], by simp [I64, exEnd], by simp [I64, exEnd], plz_wf⟩⟩, Sl.nil _ _, Sl.nil _ _⟩
theorem R_call (W : World) : Rp.R (fun _ => True) W exCall [.slice none 0 0, .int .u8 4, .int .u8 0, .int .i64 0, .int .i64 0, .bool false, .int .u8 0, .int .i64 1, .int .i64 1, .int .i64 0, .slice none 0 0, .int .i64 0, .bool false, .int .u8 0] := ⟨none, 0, 0, none, 0, 0, rfl, ⟨⟨by simp [U8, exCall], opz_wf, by simp [I64, exCall], by simp [I64, exCall], by simp [I64, exCall], plz_wf⟩⟩, Sl.nil _ _, Sl.nil _ _⟩
set_option maxRecDepth 100000 in
set_option maxHeartbeats 2000000 in
theorem law17_example (call first second : Bool) (w : World) :
    Calls Try.prog 42 #[.bool call, .bool first, .bool second] w (RetP w fun v w' => ∃ u, v = Pr.v (exPr call first second) u ∧ Sl (fun _ => True) w' u (exPr call first second).funcs) := by
  cases call
  all_goals
    go_enter Try.func42, Try.ntmps42
    go_wp2_with fail
    (refine postP_of (by simp only [results, Try.results42]; go_simp <;> rfl) rfl (by (repeat (first | (with_reducible exact Grow.refl _) | assumption | refine Grow.ext ?_ _ | refine Grow.alloc ?_ _ | refine Grow.drew ?_ | refine Grow.setCell ?_ (by first | (simp; done) | (simp; omega)) _ | refine Grow.trans ?_ (by assumption)))) ⟨_, rfl, ?_⟩)
  · show Sl _ _ _ ([⟨0, first, [⟨1, 0⟩], [exEnd]⟩, ⟨0, second, [⟨1, 0⟩, ⟨5, 1⟩], [exEnd]⟩] : List Fn)
    refine Sl.two (α := Fn) trivial (by simp <;> omega) (by omega) (by omega) (cs := [.int .i64 0, .bool first, .slice (some ⟨w.heap.size + 1 + 1 + 1, 0, none⟩) 1 1, .slice (some ⟨w.heap.size + 1 + 1 + 1 + 1, 0, none⟩) 1 1]) (ds := [.int .i64 0, .bool second, .slice (some ⟨w.heap.size + 1 + 1 + 1 + 1 + 1, 0, none⟩) 2 2, .slice (some ⟨w.heap.size + 1 + 1 + 1 + 1 + 1 + 1, 0, none⟩) 1 1]) ⟨_, _, _, _, _, _, rfl, ⟨by simp [I64]⟩, ?_, ?_⟩ (by (repeat (refine CellsAt.cons (by go_simp) ?_)); exact CellsAt.nil _ _ _) ⟨_, _, _, _, _, _, rfl, ⟨by simp [I64]⟩, ?_, ?_⟩ (by (repeat (refine CellsAt.cons (by go_simp) ?_)); exact CellsAt.nil _ _ _)
    · exact Sl.one (cs := [.int .u8 1, .int .u8 0]) trivial (by simp <;> omega) (by omega) (by omega) ⟨rfl, ty10⟩ (by (repeat (refine CellsAt.cons (by go_simp) ?_)); exact CellsAt.nil _ _ _)
    · exact Sl.one trivial (by simp <;> omega) (by omega) (by omega) (R_end _) (by (repeat (refine CellsAt.cons (by go_simp) ?_)); exact CellsAt.nil _ _ _)
    · exact Sl.two (cs := [.int .u8 1, .int .u8 0]) (ds := [.int .u8 5, .int .u8 1]) trivial (by simp <;> omega) (by omega) (by omega) ⟨rfl, ty10⟩ (by (repeat (refine CellsAt.cons (by go_simp) ?_)); exact CellsAt.nil _ _ _) ⟨rfl, ty51⟩ (by (repeat (refine CellsAt.cons (by go_simp) ?_)); exact CellsAt.nil _ _ _)
    · exact Sl.one trivial (by simp <;> omega) (by omega) (by omega) (R_end _) (by (repeat (refine CellsAt.cons (by go_simp) ?_)); exact CellsAt.nil _ _ _)
  · show Sl _ _ _ ([⟨0, first, [⟨1, 0⟩], [exCall, exEnd]⟩, ⟨0, second, [⟨1, 0⟩, ⟨5, 1⟩], [exEnd]⟩] : List Fn)
    refine Sl.two (α := Fn) trivial (by simp <;> omega) (by omega) (by omega) (cs := [.int .i64 0, .bool first, .slice (some ⟨w.heap.size + 1 + 1 + 1, 0, none⟩) 1 1, .slice (some ⟨w.heap.size + 1 + 1 + 1 + 1 + 1 + 1 + 1 + 1 + 1, 0, none⟩) 2 2]) (ds := [.int .i64 0, .bool second, .slice (some ⟨w.heap.size + 1 + 1 + 1 + 1 + 1, 0, none⟩) 2 2, .slice (some ⟨w.heap.size + 1 + 1 + 1 + 1 + 1 + 1, 0, none⟩) 1 1]) ⟨_, _, _, _, _, _, rfl, ⟨by simp [I64]⟩, ?_, ?_⟩ (by (repeat (refine CellsAt.cons (by go_simp) ?_)); exact CellsAt.nil _ _ _) ⟨_, _, _, _, _, _, rfl, ⟨by simp [I64]⟩, ?_, ?_⟩ (by (repeat (refine CellsAt.cons (by go_simp) ?_)); exact CellsAt.nil _ _ _)
    · exact Sl.one (cs := [.int .u8 1, .int .u8 0]) trivial (by simp <;> omega) (by omega) (by omega) ⟨rfl, ty10⟩ (by (repeat (refine CellsAt.cons (by go_simp) ?_)); exact CellsAt.nil _ _ _)
    · exact Sl.two trivial (by simp <;> omega) (by omega) (by omega) (R_call _) (by (repeat (refine CellsAt.cons (by go_simp) ?_)); exact CellsAt.nil _ _ _) (R_end _) (by (repeat (refine CellsAt.cons (by go_simp) ?_)); exact CellsAt.nil _ _ _)
    · exact Sl.two (cs := [.int .u8 1, .int .u8 0]) (ds := [.int .u8 5, .int .u8 1]) trivial (by simp <;> omega) (by omega) (by omega) ⟨rfl, ty10⟩ (by (repeat (refine CellsAt.cons (by go_simp) ?_)); exact CellsAt.nil _ _ _) ⟨rfl, ty51⟩ (by (repeat (refine CellsAt.cons (by go_simp) ?_)); exact CellsAt.nil _ _ _)
    · exact Sl.one trivial (by simp <;> omega) (by omega) (by omega) (R_end _) (by (repeat (refine CellsAt.cons (by go_simp) ?_)); exact CellsAt.nil _ _ _)
def saysB (p : Pr) (g s : Bool) : Bool := if g = true then (safeErr p == 0) && ((safeP p).2 == 0) && ((safeP p).1 == s) else (safeErr p == 46) && ((safeP p).2 == 46) && !(safeP p).1
theorem says1 : saysB (exPr true false false) false false = true := by decide +kernel
theorem says2 : saysB (exPr true false true) false false = true := by decide +kernel
theorem says3 : saysB (exPr true true true) true false = true := by decide +kernel
theorem says4 : saysB (exPr false false true) true true = true := by decide +kernel
set_option maxHeartbeats 1000000 in
theorem law17_says (p : Pr) (pv : Value) (g s : Bool) (w : World) {F : Nat → Prop} (hp : Sl F w pv p.funcs) :
    Calls Try.prog 45 #[p.v pv, .bool g, .bool s] w (Ret w (.bool (saysB p g s))) := by
  obtain ⟨a, n, cap, rfl, Hn, hm, hcap, hcm, hp⟩ := hp.open
  obtain ⟨e1, h1⟩ : ∃ e, e = safeErr p := ⟨_, rfl⟩
  obtain ⟨b2, h2⟩ : ∃ b, b = (safeP p).1 := ⟨_, rfl⟩
  obtain ⟨e2, h3⟩ : ∃ e, e = (safeP p).2 := ⟨_, rfl⟩
  have C1 : ∀ w' (hq : Sl F w' (.slice a n cap) p.funcs), Calls Try.prog 40 #[p.v (.slice a n cap)] w' (Ret w' (.int .i64 e1)) := fun w' hq => h1 ▸ safety_Check p _ w' hq
  have C2 : ∀ w' (hq : Sl F w' (.slice a n cap) p.funcs), Calls Try.prog 38 #[p.v (.slice a n cap)] w' (Ret w' (.tuple #[.bool b2, .int .i64 e2])) := fun w' hq => h2 ▸ h3 ▸ safety_Safe p _ w' hq
  have Hs : Hid (saysB p g s = if g = true then (e1 == 0) && (e2 == 0) && (b2 == s) else (e1 == 46) && (e2 == 46) && !b2) := Lib.hid (by unfold saysB; rw [← h1, ← h2, ← h3])
  clear h1 h2 h3
  rw [Hs.out]
  cases g
  · cases k1 : (e1 == 46)
    all_goals cases k2 : (e2 == 46)
    all_goals cases b2
    all_goals
      go_enter Try.func45, Try.ntmps45
      go_wp2_with (first | (go_at_call 40; ((with_reducible refine (C1 _ (hp.mono (by (repeat (first | (with_reducible exact Grow.refl _) | assumption | refine Grow.ext ?_ _ | refine Grow.alloc ?_ _ | refine Grow.drew ?_ | refine Grow.setCell ?_ (by first | (simp; done) | (simp; omega)) _ | refine Grow.trans ?_ (by assumption)))))).mono ?_); rintro e w1 ⟨rfl, hb1⟩; obtain ⟨x1, rfl⟩ := ext_of_grow hb1; clear hb1)) | (go_at_call 38; ((with_reducible refine (C2 _ (hp.mono (by (repeat (first | (with_reducible exact Grow.refl _) | assumption | refine Grow.ext ?_ _ | refine Grow.alloc ?_ _ | refine Grow.drew ?_ | refine Grow.setCell ?_ (by first | (simp; done) | (simp; omega)) _ | refine Grow.trans ?_ (by assumption)))))).mono ?_); rintro e w2 ⟨rfl, hb2⟩; obtain ⟨x2, rfl⟩ := ext_of_grow hb2; clear hb2)))
      go_ret
      exact Ret.bool rfl (by (repeat (first | (with_reducible exact Grow.refl _) | assumption | refine Grow.ext ?_ _ | refine Grow.alloc ?_ _ | refine Grow.drew ?_ | refine Grow.setCell ?_ (by first | (simp; done) | (simp; omega)) _ | refine Grow.trans ?_ (by assumption))))
  · cases k1 : (e1 == 0)
    all_goals cases k2 : (e2 == 0)
    all_goals cases b2
    all_goals cases s
    all_goals
      go_enter Try.func45, Try.ntmps45
      go_wp2_with (first | (go_at_call 40; ((with_reducible refine (C1 _ (hp.mono (by (repeat (first | (with_reducible exact Grow.refl _) | assumption | refine Grow.ext ?_ _ | refine Grow.alloc ?_ _ | refine Grow.drew ?_ | refine Grow.setCell ?_ (by first | (simp; done) | (simp; omega)) _ | refine Grow.trans ?_ (by assumption)))))).mono ?_); rintro e w1 ⟨rfl, hb1⟩; obtain ⟨x1, rfl⟩ := ext_of_grow hb1; clear hb1)) | (go_at_call 38; ((with_reducible refine (C2 _ (hp.mono (by (repeat (first | (with_reducible exact Grow.refl _) | assumption | refine Grow.ext ?_ _ | refine Grow.alloc ?_ _ | refine Grow.drew ?_ | refine Grow.setCell ?_ (by first | (simp; done) | (simp; omega)) _ | refine Grow.trans ?_ (by assumption)))))).mono ?_); rintro e w2 ⟨rfl, hb2⟩; obtain ⟨x2, rfl⟩ := ext_of_grow hb2; clear hb2)))
      go_ret
      exact Ret.bool rfl (by (repeat (first | (with_reducible exact Grow.refl _) | assumption | refine Grow.ext ?_ _ | refine Grow.alloc ?_ _ | refine Grow.drew ?_ | refine Grow.setCell ?_ (by first | (simp; done) | (simp; omega)) _ | refine Grow.trans ?_ (by assumption))))
theorem law17_says_at (p : Pr) (pv : Value) (g s : Bool) (w : World) {F : Nat → Prop} (hp : Sl F w pv p.funcs) (h : saysB p g s = true) :
    Calls Try.prog 45 #[p.v pv, .bool g, .bool s] w (Ret w (.bool true)) := h ▸ law17_says p pv g s w hp
set_option maxHeartbeats 1000000 in
theorem law17_alive (w : World) : Calls Try.prog 43 #[] w (Ret w (.bool true)) := by
  go_enter Try.func43, Try.ntmps43
  go_wp2_with (first
    | (go_at_call 42; first
      | ((with_reducible refine (law17_example true false false _).mono ?_); rintro e w1 ⟨_, rfl, ⟨u1, rfl, hs1⟩, hb1⟩; obtain ⟨x1, rfl⟩ := ext_of_grow hb1; clear hb1; obtain ⟨a1, n1, c1, rfl, Hn1, hm1, hcap1, hcm1, hs1⟩ := hs1.open)
      | ((with_reducible refine (law17_example true false true _).mono ?_); rintro e w2 ⟨_, rfl, ⟨u2, rfl, hs2⟩, hb2⟩; obtain ⟨x2, rfl⟩ := ext_of_grow hb2; clear hb2; obtain ⟨a2, n2, c2, rfl, Hn2, hm2, hcap2, hcm2, hs2⟩ := hs2.open)
      | ((with_reducible refine (law17_example true true true _).mono ?_); rintro e w3 ⟨_, rfl, ⟨u3, rfl, hs3⟩, hb3⟩; obtain ⟨x3, rfl⟩ := ext_of_grow hb3; clear hb3; obtain ⟨a3, n3, c3, rfl, Hn3, hm3, hcap3, hcm3, hs3⟩ := hs3.open)
      | ((with_reducible refine (law17_example false false true _).mono ?_); rintro e w4 ⟨_, rfl, ⟨u4, rfl, hs4⟩, hb4⟩; obtain ⟨x4, rfl⟩ := ext_of_grow hb4; clear hb4; obtain ⟨a4, n4, c4, rfl, Hn4, hm4, hcap4, hcm4, hs4⟩ := hs4.open))
    | (go_at_call 45; first
      | ((with_reducible refine (law17_says_at (exPr false false true) _ true true _ (hs4.mono (by (repeat (first | (with_reducible exact Grow.refl _) | assumption | refine Grow.ext ?_ _ | refine Grow.alloc ?_ _ | refine Grow.drew ?_ | refine Grow.setCell ?_ (by first | (simp; done) | (simp; omega)) _ | refine Grow.trans ?_ (by assumption))))) says4).mono ?_); rintro e w8 ⟨rfl, hb8⟩; obtain ⟨x8, rfl⟩ := ext_of_grow hb8; clear hb8)
      | ((with_reducible refine (law17_says_at (exPr true true true) _ true false _ (hs3.mono (by (repeat (first | (with_reducible exact Grow.refl _) | assumption | refine Grow.ext ?_ _ | refine Grow.alloc ?_ _ | refine Grow.drew ?_ | refine Grow.setCell ?_ (by first | (simp; done) | (simp; omega)) _ | refine Grow.trans ?_ (by assumption))))) says3).mono ?_); rintro e w7 ⟨rfl, hb7⟩; obtain ⟨x7, rfl⟩ := ext_of_grow hb7; clear hb7)
      | ((with_reducible refine (law17_says_at (exPr true false true) _ false false _ (hs2.mono (by (repeat (first | (with_reducible exact Grow.refl _) | assumption | refine Grow.ext ?_ _ | refine Grow.alloc ?_ _ | refine Grow.drew ?_ | refine Grow.setCell ?_ (by first | (simp; done) | (simp; omega)) _ | refine Grow.trans ?_ (by assumption))))) says2).mono ?_); rintro e w6 ⟨rfl, hb6⟩; obtain ⟨x6, rfl⟩ := ext_of_grow hb6; clear hb6)
      | ((with_reducible refine (law17_says_at (exPr true false false) _ false false _ (hs1.mono (by (repeat (first | (with_reducible exact Grow.refl _) | assumption | refine Grow.ext ?_ _ | refine Grow.alloc ?_ _ | refine Grow.drew ?_ | refine Grow.setCell ?_ (by first | (simp; done) | (simp; omega)) _ | refine Grow.trans ?_ (by assumption))))) says1).mono ?_); rintro e w5 ⟨rfl, hb5⟩; obtain ⟨x5, rfl⟩ := ext_of_grow hb5; clear hb5)))
  go_ret
  exact Ret.bool rfl (by (repeat (first | (with_reducible exact Grow.refl _) | assumption | refine Grow.ext ?_ _ | refine Grow.alloc ?_ _ | refine Grow.drew ?_ | refine Grow.setCell ?_ (by first | (simp; done) | (simp; omega)) _ | refine Grow.trans ?_ (by assumption))))
end Go.Proofs.Ytiikhfjdpaofdaa
