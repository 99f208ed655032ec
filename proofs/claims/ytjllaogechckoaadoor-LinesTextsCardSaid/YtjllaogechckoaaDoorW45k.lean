/- Layer 45: a text is read. -/
import Derived.Test.YtjllaogechckoaaDoorW45h
import Derived.Test.YtjllaogechckoaaDoorW45f
namespace Go.Proofs.YtjllaogechckoaaDoor
open Go.RowKit
set_option linter.unusedSimpArgs false
set_option linter.unusedVariables false

abbrev vft (k n : Int) : Ve := ⟨k, n, 0, 0, 0, ⟨0, false, 0⟩, false, false, 0, 0, [], []⟩
theorem readP_of {s wd rs : Bs} {f : Bool} (h : Lib.cut s [32] = (wd, rs, f)) : readP s = if (s == t_inputs) then some (vft 4 2) else if (f && (wd == t_form || wd == t_type)) then (numP rs).map (fun n => vft (if (wd == t_type) then 2 else 1) n) else if (f && (wd == t_borrow)) then borrowP (parts rs) else if (f && (wd == t_ran)) then ranP rs else none := by
  unfold readP
  rw [h]
  simp only [beq_iff_eq, Bool.and_eq_true, Bool.or_eq_true]
theorem Sl.boxed {α : Type} [Rp α] {w W W1 W2 : World} {v : Value} {xs : List α} (h : Sl (Frs W) W1 v xs) (hW : w.heap.size < W.heap.size) (ha : Agr (fun k => w.heap.size < k) W1 W2) : Sl (Frs w) W2 v xs :=
  ((h.wide (F' := fun k => w.heap.size < k) (fun q _ h => Nat.lt_of_lt_of_le hW h)).keep ha).wide (fun q _ h => Nat.le_of_lt h)
theorem Sl.boxed1 {α : Type} [Rp α] {w W : World} {v : Value} {xs : List α} {Z B : Array Value} {T : TypeId} {x4 x5 : Ext} {c : Obj} (h : Sl (Frs W) (ext (w.alloc (.cells Z T)) x4) v xs) (hW : w.heap.size < W.heap.size) : Sl (Frs w) (ext ((ext (w.alloc (.cells B T)) x4).alloc c) x5) v xs :=
  (h.boxed hW (W2 := ext (w.alloc (.cells B T)) x4) ((((AgrS.refl _ w).alloc (by simp) _ _).ext x4).agr)).mono ((Grow.alloc (Grow.refl _) _).trans (grow_ext _ _))
theorem RdR.mk {w W W1 W2 : World} {o o' : Option Ve} {x : Ve} {pa ra : Option Addr} {pn pc rn rc : Nat} {b : Bool} (e : Hid (o = o')) (ho : Hid (o' = if b then some x else none)) (hS : Hid (b = true → x.ok ∧ Sl (Frs W) W1 (.slice pa pn pc) x.prints ∧ Sl (Frs W) W1 (.slice ra rn rc) x.result)) (hW : w.heap.size < W.heap.size) (ha : Agr (fun k => w.heap.size < k) W1 W2) :
    RdR w o (.tuple #[x.v (.slice pa pn pc) (.slice ra rn rc), .bool b]) W2 :=
  ⟨x, pa, pn, pc, ra, rn, rc, b, rfl, e.out.trans ho.out, fun h => ⟨(hS.out h).1, (hS.out h).2.1.boxed hW ha, (hS.out h).2.2.boxed hW ha⟩⟩
theorem vft_ok (k n : Int) (hk : U8 k) (hn : I64 n) : (vft k n).ok :=
  ⟨hk, hn, by unfold I64; dsimp only; omega, by unfold I64; dsimp only; omega, by unfold I64; dsimp only; omega, ⟨by unfold I64; dsimp only; omega, by unfold U8; dsimp only; omega⟩, by unfold U8; dsimp only; omega, by unfold I64; dsimp only; omega, (by intro n h; cases h), (by intro n h; cases h)⟩
theorem I64.of2 : I64 2 := by unfold I64; omega
set_option maxRecDepth 100000 in
set_option maxHeartbeats 4000000 in
theorem lines_read (s : Bs) (hs : s.length ≤ 900000) (w : World) (hw : Laid w) : Calls Tryd.prog 30 #[.string (str s)] w (RetP w (RdR w (readP s))) := by
  obtain ⟨l1, l2⟩ := cut_len s [32]
  obtain ⟨⟨wd, rs, f⟩, Hc⟩ : ∃ q, Hid (Lib.cut s [32] = q) := ⟨_, Lib.hid rfl⟩
  rw [Hc.out] at l1 l2
  dsimp only at l1 l2
  have HC : Hid (∀ w, Laid w → Calls Tryd.prog 44 #[.string (str s), .string ⟨#[32]⟩] w (Ret w (.tuple #[.string (str wd), .string (str rs), .bool f]))) := Lib.hid (fun w hw => by have := cut_c s [32] (by omega) w hw; rw [Hc.out] at this; exact this)
  have HR := Lib.hid (readP_of Hc.out)
  obtain ⟨R, HRR⟩ : ∃ R, Hid (readP s = R) := ⟨_, Lib.hid rfl⟩
  rw [HRR.out] at HR ⊢
  clear Hc
  cases q0 : (s == t_inputs)
  case true =>
    replace HR : Hid (R = some (vft 4 2)) := Lib.hid (by rw [HR.out, q0]; rfl)
    go_enter Tryd.func30, Tryd.ntmps30
    go_wp2_with (first | (go_at_call 44; ((with_reducible refine (HC.out _ (hw.grow (by (repeat (first | (with_reducible exact Grow.refl _) | assumption | refine Grow.ext ?_ _ | refine Grow.alloc ?_ _ | refine Grow.drew ?_ | refine Grow.setCell ?_ (by first | (simp; done) | (simp; omega)) _ | refine Grow.trans ?_ (by assumption)))))).mono ?_); rintro e w1 ⟨rfl, hb1⟩; obtain ⟨x1, rfl⟩ := ext_of_grow hb1; clear hb1)))
    refine postP_of (v := .tuple #[(vft 4 2).v (.slice none 0 0) (.slice none 0 0), .bool true]) (by simp only [results, Tryd.results30]; go_simp) rfl (by (repeat (first | (with_reducible exact Grow.refl _) | assumption | refine Grow.ext ?_ _ | refine Grow.alloc ?_ _ | refine Grow.drew ?_ | refine Grow.setCell ?_ (by first | (simp; done) | (simp; omega)) _ | refine Grow.trans ?_ (by assumption)))) ⟨_, _, _, _, _, _, _, true, rfl, HR.out, fun _ => ⟨vft_ok 4 2 (by unfold U8; omega) I64.of2, Sl.nil _ _, Sl.nil _ _⟩⟩
  replace HR : Hid (R = if (f && (wd == t_form || wd == t_type)) then (numP rs).map (fun n => vft (if (wd == t_type) then 2 else 1) n) else if (f && (wd == t_borrow)) then borrowP (parts rs) else if (f && (wd == t_ran)) then ranP rs else none) := Lib.hid (by rw [HR.out, q0]; rfl)
  cases f
  case false =>
    replace HR : Hid (R = none) := Lib.hid (by rw [HR.out]; rfl)
    go_enter Tryd.func30, Tryd.ntmps30
    go_wp2_with (first | (go_at_call 44; ((with_reducible refine (HC.out _ (hw.grow (by (repeat (first | (with_reducible exact Grow.refl _) | assumption | refine Grow.ext ?_ _ | refine Grow.alloc ?_ _ | refine Grow.drew ?_ | refine Grow.setCell ?_ (by first | (simp; done) | (simp; omega)) _ | refine Grow.trans ?_ (by assumption)))))).mono ?_); rintro e w1 ⟨rfl, hb1⟩; obtain ⟨x1, rfl⟩ := ext_of_grow hb1; clear hb1)))
    refine postP_of (v := .tuple #[(vft 0 0).v (.slice none 0 0) (.slice none 0 0), .bool false]) (by simp only [results, Tryd.results30]; go_simp) rfl (by (repeat (first | (with_reducible exact Grow.refl _) | assumption | refine Grow.ext ?_ _ | refine Grow.alloc ?_ _ | refine Grow.drew ?_ | refine Grow.setCell ?_ (by first | (simp; done) | (simp; omega)) _ | refine Grow.trans ?_ (by assumption)))) ⟨_, _, _, _, _, _, _, false, rfl, HR.out, fun h => by cases h⟩
  have hst := Lib.hid (lines_number rs (by omega))
  cases q1 : (wd == t_form)
  case true =>
    have q2 : (wd == t_type) = false := by rw [beq_iff_eq.1 q1]; rfl
    cases hn : numP rs with
    | none =>
      have HN : Hid (∀ w, Laid w → Calls Tryd.prog 45 #[.string (str rs)] w (RetP w fun v w' => ∃ q, v = .tuple #[.int .i64 q, .bool false])) := Lib.hid (fun w hw => (hst.out w hw).mono (by
        rintro e w' ⟨_, rfl, ⟨q, b, rfl, h⟩, hg⟩
        rw [hn] at h
        cases b
        · exact ⟨_, rfl, ⟨q, rfl⟩, hg⟩
        · cases h))
      replace HR : Hid (R = none) := Lib.hid (by rw [HR.out, q1, hn]; rfl)
      clear hst hn
      go_enter Tryd.func30, Tryd.ntmps30
      go_wp2_with (first | (go_at_call 44; ((with_reducible refine (HC.out _ (hw.grow (by (repeat (first | (with_reducible exact Grow.refl _) | assumption | refine Grow.ext ?_ _ | refine Grow.alloc ?_ _ | refine Grow.drew ?_ | refine Grow.setCell ?_ (by first | (simp; done) | (simp; omega)) _ | refine Grow.trans ?_ (by assumption)))))).mono ?_); rintro e w1 ⟨rfl, hb1⟩; obtain ⟨x1, rfl⟩ := ext_of_grow hb1; clear hb1)) | (go_at_call 45; ((with_reducible refine (HN.out _ (hw.grow (by (repeat (first | (with_reducible exact Grow.refl _) | assumption | refine Grow.ext ?_ _ | refine Grow.alloc ?_ _ | refine Grow.drew ?_ | refine Grow.setCell ?_ (by first | (simp; done) | (simp; omega)) _ | refine Grow.trans ?_ (by assumption)))))).mono ?_); rintro e w4 ⟨_, rfl, ⟨q, rfl⟩, hb4⟩; obtain ⟨x4, rfl⟩ := ext_of_grow hb4; clear hb4)))
      refine postP_of (v := .tuple #[(vft 1 q).v (.slice none 0 0) (.slice none 0 0), .bool false]) (by simp only [results, Tryd.results30]; go_simp) rfl (by (repeat (first | (with_reducible exact Grow.refl _) | assumption | refine Grow.ext ?_ _ | refine Grow.alloc ?_ _ | refine Grow.drew ?_ | refine Grow.setCell ?_ (by first | (simp; done) | (simp; omega)) _ | refine Grow.trans ?_ (by assumption)))) ⟨vft 1 q, none, 0, 0, none, 0, 0, false, rfl, HR.out, fun h => by cases h⟩
    | some n =>
      have hn64 : I64 n := (numP_some hn).2
      have HN : Hid (∀ w, Laid w → Calls Tryd.prog 45 #[.string (str rs)] w (Ret w (.tuple #[.int .i64 n, .bool true]))) := Lib.hid (fun w hw => (hst.out w hw).mono (by
        rintro e w' ⟨_, rfl, ⟨q, b, rfl, h⟩, hg⟩
        rw [hn] at h
        cases b
        · cases h
        · injection h with h; subst h; exact ⟨rfl, hg⟩))
      replace HR : Hid (R = some (vft 1 n)) := Lib.hid (by rw [HR.out, q1, q2, hn]; rfl)
      clear hst hn
      go_enter Tryd.func30, Tryd.ntmps30
      go_wp2_with (first | (go_at_call 44; ((with_reducible refine (HC.out _ (hw.grow (by (repeat (first | (with_reducible exact Grow.refl _) | assumption | refine Grow.ext ?_ _ | refine Grow.alloc ?_ _ | refine Grow.drew ?_ | refine Grow.setCell ?_ (by first | (simp; done) | (simp; omega)) _ | refine Grow.trans ?_ (by assumption)))))).mono ?_); rintro e w1 ⟨rfl, hb1⟩; obtain ⟨x1, rfl⟩ := ext_of_grow hb1; clear hb1)) | (go_at_call 45; ((with_reducible refine (HN.out _ (hw.grow (by (repeat (first | (with_reducible exact Grow.refl _) | assumption | refine Grow.ext ?_ _ | refine Grow.alloc ?_ _ | refine Grow.drew ?_ | refine Grow.setCell ?_ (by first | (simp; done) | (simp; omega)) _ | refine Grow.trans ?_ (by assumption)))))).mono ?_); rintro e w2 ⟨rfl, hb2⟩; obtain ⟨x2, rfl⟩ := ext_of_grow hb2; clear hb2)))
      refine postP_of (v := .tuple #[(vft 1 n).v (.slice none 0 0) (.slice none 0 0), .bool true]) (by simp only [results, Tryd.results30]; go_simp) rfl (by (repeat (first | (with_reducible exact Grow.refl _) | assumption | refine Grow.ext ?_ _ | refine Grow.alloc ?_ _ | refine Grow.drew ?_ | refine Grow.setCell ?_ (by first | (simp; done) | (simp; omega)) _ | refine Grow.trans ?_ (by assumption)))) ⟨_, _, _, _, _, _, _, true, rfl, HR.out, fun _ => ⟨vft_ok 1 n (by unfold U8; omega) hn64, Sl.nil _ _, Sl.nil _ _⟩⟩
  cases q2 : (wd == t_type)
  case true =>
    cases hn : numP rs with
    | none =>
      have HN : Hid (∀ w, Laid w → Calls Tryd.prog 45 #[.string (str rs)] w (RetP w fun v w' => ∃ q, v = .tuple #[.int .i64 q, .bool false])) := Lib.hid (fun w hw => (hst.out w hw).mono (by
        rintro e w' ⟨_, rfl, ⟨q, b, rfl, h⟩, hg⟩
        rw [hn] at h
        cases b
        · exact ⟨_, rfl, ⟨q, rfl⟩, hg⟩
        · cases h))
      replace HR : Hid (R = none) := Lib.hid (by rw [HR.out, q1, q2, hn]; rfl)
      clear hst hn
      go_enter Tryd.func30, Tryd.ntmps30
      go_wp2_with (first | (go_at_call 44; ((with_reducible refine (HC.out _ (hw.grow (by (repeat (first | (with_reducible exact Grow.refl _) | assumption | refine Grow.ext ?_ _ | refine Grow.alloc ?_ _ | refine Grow.drew ?_ | refine Grow.setCell ?_ (by first | (simp; done) | (simp; omega)) _ | refine Grow.trans ?_ (by assumption)))))).mono ?_); rintro e w1 ⟨rfl, hb1⟩; obtain ⟨x1, rfl⟩ := ext_of_grow hb1; clear hb1)) | (go_at_call 45; ((with_reducible refine (HN.out _ (hw.grow (by (repeat (first | (with_reducible exact Grow.refl _) | assumption | refine Grow.ext ?_ _ | refine Grow.alloc ?_ _ | refine Grow.drew ?_ | refine Grow.setCell ?_ (by first | (simp; done) | (simp; omega)) _ | refine Grow.trans ?_ (by assumption)))))).mono ?_); rintro e w4 ⟨_, rfl, ⟨q, rfl⟩, hb4⟩; obtain ⟨x4, rfl⟩ := ext_of_grow hb4; clear hb4)))
      refine postP_of (v := .tuple #[(vft 2 q).v (.slice none 0 0) (.slice none 0 0), .bool false]) (by simp only [results, Tryd.results30]; go_simp) rfl (by (repeat (first | (with_reducible exact Grow.refl _) | assumption | refine Grow.ext ?_ _ | refine Grow.alloc ?_ _ | refine Grow.drew ?_ | refine Grow.setCell ?_ (by first | (simp; done) | (simp; omega)) _ | refine Grow.trans ?_ (by assumption)))) ⟨vft 2 q, none, 0, 0, none, 0, 0, false, rfl, HR.out, fun h => by cases h⟩
    | some n =>
      have hn64 : I64 n := (numP_some hn).2
      have HN : Hid (∀ w, Laid w → Calls Tryd.prog 45 #[.string (str rs)] w (Ret w (.tuple #[.int .i64 n, .bool true]))) := Lib.hid (fun w hw => (hst.out w hw).mono (by
        rintro e w' ⟨_, rfl, ⟨q, b, rfl, h⟩, hg⟩
        rw [hn] at h
        cases b
        · cases h
        · injection h with h; subst h; exact ⟨rfl, hg⟩))
      replace HR : Hid (R = some (vft 2 n)) := Lib.hid (by rw [HR.out, q1, q2, hn]; rfl)
      clear hst hn
      go_enter Tryd.func30, Tryd.ntmps30
      go_wp2_with (first | (go_at_call 44; ((with_reducible refine (HC.out _ (hw.grow (by (repeat (first | (with_reducible exact Grow.refl _) | assumption | refine Grow.ext ?_ _ | refine Grow.alloc ?_ _ | refine Grow.drew ?_ | refine Grow.setCell ?_ (by first | (simp; done) | (simp; omega)) _ | refine Grow.trans ?_ (by assumption)))))).mono ?_); rintro e w1 ⟨rfl, hb1⟩; obtain ⟨x1, rfl⟩ := ext_of_grow hb1; clear hb1)) | (go_at_call 45; ((with_reducible refine (HN.out _ (hw.grow (by (repeat (first | (with_reducible exact Grow.refl _) | assumption | refine Grow.ext ?_ _ | refine Grow.alloc ?_ _ | refine Grow.drew ?_ | refine Grow.setCell ?_ (by first | (simp; done) | (simp; omega)) _ | refine Grow.trans ?_ (by assumption)))))).mono ?_); rintro e w2 ⟨rfl, hb2⟩; obtain ⟨x2, rfl⟩ := ext_of_grow hb2; clear hb2)))
      refine postP_of (v := .tuple #[(vft 2 n).v (.slice none 0 0) (.slice none 0 0), .bool true]) (by simp only [results, Tryd.results30]; go_simp) rfl (by (repeat (first | (with_reducible exact Grow.refl _) | assumption | refine Grow.ext ?_ _ | refine Grow.alloc ?_ _ | refine Grow.drew ?_ | refine Grow.setCell ?_ (by first | (simp; done) | (simp; omega)) _ | refine Grow.trans ?_ (by assumption)))) ⟨_, _, _, _, _, _, _, true, rfl, HR.out, fun _ => ⟨vft_ok 2 n (by unfold U8; omega) hn64, Sl.nil _ _, Sl.nil _ _⟩⟩
  clear hst
  cases q3 : (wd == t_borrow)
  case true =>
    replace HR : Hid (R = borrowP (parts rs)) := Lib.hid (by rw [HR.out, q1, q2, q3]; rfl)
    go_enter Tryd.func30, Tryd.ntmps30
    go_wp2_with (first
      | (go_at_call 44; ((with_reducible refine (HC.out _ (hw.grow (by (repeat (first | (with_reducible exact Grow.refl _) | assumption | refine Grow.ext ?_ _ | refine Grow.alloc ?_ _ | refine Grow.drew ?_ | refine Grow.setCell ?_ (by first | (simp; done) | (simp; omega)) _ | refine Grow.trans ?_ (by assumption)))))).mono ?_); rintro e w1 ⟨rfl, hb1⟩; obtain ⟨x1, rfl⟩ := ext_of_grow hb1; clear hb1))
      | (go_at_call 47; ((with_reducible refine (split_c rs (by omega) _ (hw.grow (by (repeat (first | (with_reducible exact Grow.refl _) | assumption | refine Grow.ext ?_ _ | refine Grow.alloc ?_ _ | refine Grow.drew ?_ | refine Grow.setCell ?_ (by first | (simp; done) | (simp; omega)) _ | refine Grow.trans ?_ (by assumption)))))).mono ?_); rintro e w7 ⟨_, rfl, ⟨sa, sc, rfl, hsp⟩, hb7⟩; obtain ⟨x7, rfl⟩ := ext_of_grow hb7; clear hb7))
      | (go_at_call 46; ((with_reducible refine (lines_borrow _ _ _ (hsp.mono (by (repeat (first | (with_reducible exact Grow.refl _) | assumption | refine Grow.ext ?_ _ | refine Grow.alloc ?_ _ | refine Grow.drew ?_ | refine Grow.setCell ?_ (by first | (simp; done) | (simp; omega)) _ | refine Grow.trans ?_ (by assumption))))) (fun s hs => by have := parts_small hs; omega) (hw.grow (by (repeat (first | (with_reducible exact Grow.refl _) | assumption | refine Grow.ext ?_ _ | refine Grow.alloc ?_ _ | refine Grow.drew ?_ | refine Grow.setCell ?_ (by first | (simp; done) | (simp; omega)) _ | refine Grow.trans ?_ (by assumption)))))).mono ?_); rintro e w8 ⟨_, rfl, hRR, hb8⟩; obtain ⟨x, pa, pn, pc, ra, rn, rc, b, rfl, hRo, hS⟩ := hRR; replace hRo := Lib.hid hRo; replace hS := Lib.hid hS; obtain ⟨x8, rfl⟩ := ext_of_grow hb8; clear hb8)))
    refine postP_of (v := .tuple #[x.v (.slice pa pn pc) (.slice ra rn rc), .bool b]) (by simp only [results, Tryd.results30]; go_simp) rfl (by (repeat (first | (with_reducible exact Grow.refl _) | assumption | refine Grow.ext ?_ _ | refine Grow.alloc ?_ _ | refine Grow.drew ?_ | refine Grow.setCell ?_ (by first | (simp; done) | (simp; omega)) _ | refine Grow.trans ?_ (by assumption)))) (RdR.mk HR hRo hS (by simp only [size_ext, alloc_size]; omega) (by refine AgrS.agr ?_; repeat (first | with_reducible exact AgrS.refl _ _ | with_reducible refine AgrS.ext ?_ _ | with_reducible refine AgrS.same ?_ _ | with_reducible refine AgrS.dr ?_ | (with_reducible refine AgrS.alloc ?_ (by simp) _ _))))
  cases q4 : (wd == t_ran)
  case true =>
    replace HR : Hid (R = ranP rs) := Lib.hid (by rw [HR.out, q1, q2, q3, q4]; rfl)
    go_enter Tryd.func30, Tryd.ntmps30
    go_wp2_with (first
      | (go_at_call 44; ((with_reducible refine (HC.out _ (hw.grow (by (repeat (first | (with_reducible exact Grow.refl _) | assumption | refine Grow.ext ?_ _ | refine Grow.alloc ?_ _ | refine Grow.drew ?_ | refine Grow.setCell ?_ (by first | (simp; done) | (simp; omega)) _ | refine Grow.trans ?_ (by assumption)))))).mono ?_); rintro e w1 ⟨rfl, hb1⟩; obtain ⟨x1, rfl⟩ := ext_of_grow hb1; clear hb1))
      | (go_at_call 48; ((with_reducible refine (lines_ran rs (by omega) _ (hw.grow (by (repeat (first | (with_reducible exact Grow.refl _) | assumption | refine Grow.ext ?_ _ | refine Grow.alloc ?_ _ | refine Grow.drew ?_ | refine Grow.setCell ?_ (by first | (simp; done) | (simp; omega)) _ | refine Grow.trans ?_ (by assumption)))))).mono ?_); rintro e w8 ⟨_, rfl, hRR, hb8⟩; obtain ⟨x, pa, pn, pc, ra, rn, rc, b, rfl, hRo, hS⟩ := hRR; replace hRo := Lib.hid hRo; replace hS := Lib.hid hS; obtain ⟨x8, rfl⟩ := ext_of_grow hb8; clear hb8)))
    refine postP_of (v := .tuple #[x.v (.slice pa pn pc) (.slice ra rn rc), .bool b]) (by simp only [results, Tryd.results30]; go_simp) rfl (by (repeat (first | (with_reducible exact Grow.refl _) | assumption | refine Grow.ext ?_ _ | refine Grow.alloc ?_ _ | refine Grow.drew ?_ | refine Grow.setCell ?_ (by first | (simp; done) | (simp; omega)) _ | refine Grow.trans ?_ (by assumption)))) (RdR.mk HR hRo hS (by simp only [size_ext, alloc_size]; omega) (by refine AgrS.agr ?_; repeat (first | with_reducible exact AgrS.refl _ _ | with_reducible refine AgrS.ext ?_ _ | with_reducible refine AgrS.same ?_ _ | with_reducible refine AgrS.dr ?_ | (with_reducible refine AgrS.alloc ?_ (by simp) _ _))))
  replace HR : Hid (R = none) := Lib.hid (by rw [HR.out, q1, q2, q3, q4]; rfl)
  go_enter Tryd.func30, Tryd.ntmps30
  go_wp2_with (first | (go_at_call 44; ((with_reducible refine (HC.out _ (hw.grow (by (repeat (first | (with_reducible exact Grow.refl _) | assumption | refine Grow.ext ?_ _ | refine Grow.alloc ?_ _ | refine Grow.drew ?_ | refine Grow.setCell ?_ (by first | (simp; done) | (simp; omega)) _ | refine Grow.trans ?_ (by assumption)))))).mono ?_); rintro e w1 ⟨rfl, hb1⟩; obtain ⟨x1, rfl⟩ := ext_of_grow hb1; clear hb1)))
  refine postP_of (v := .tuple #[(vft 0 0).v (.slice none 0 0) (.slice none 0 0), .bool false]) (by simp only [results, Tryd.results30]; go_simp) rfl (by (repeat (first | (with_reducible exact Grow.refl _) | assumption | refine Grow.ext ?_ _ | refine Grow.alloc ?_ _ | refine Grow.drew ?_ | refine Grow.setCell ?_ (by first | (simp; done) | (simp; omega)) _ | refine Grow.trans ?_ (by assumption)))) ⟨_, _, _, _, _, _, _, false, rfl, HR.out, fun h => by cases h⟩

/-! ### lines.Read -/
def rdV (s : Bs) : Ve := match readP s with | some x => if veOk x then x else ve0 | none => ve0
def rdE (s : Bs) : Int := match readP s with | some x => if veOk x then 0 else 12 | none => 12
theorem numsP_len {s : Bs} {l : List Int} (h : numsP s = some l) : l.length ≤ s.length := by
  have := numsP_back h
  subst this
  clear h
  induction l with
  | nil => simp [listT]
  | cons n l ih =>
    have e : listT (n :: l) = 32 :: Lib.itoa n ++ listT l := by simp [listT]
    rw [e]; simp; omega
theorem borrowP_lists {l : List Bs} {x : Ve} (h : borrowP l = some x) : x.prints = [] ∧ x.result = [] := by
  unfold borrowP at h
  split at h
  · split at h
    · split at h
      · split at h
        · injection h with h; subst h; exact ⟨rfl, rfl⟩
        · cases h
      · cases h
    · cases h
  · cases h
theorem ranP_len {s : Bs} {x : Ve} (h : ranP s = some x) : x.prints.length ≤ s.length ∧ x.result.length ≤ s.length := by
  have l1 := cut_len s (32 :: t_prints)
  have l2 := cut_len (Lib.cut s (32 :: t_prints)).2.1 (32 :: t_result)
  unfold ranP at h
  split at h
  · split at h
    · split at h
      · split at h
        · rename_i ha hb
          injection h with h; subst h
          have h1 := numsP_len ha
          have h2 := numsP_len hb
          dsimp only
          omega
        · cases h
      · cases h
    · cases h
  · cases h
theorem readP_len {s : Bs} {x : Ve} (h : readP s = some x) : x.prints.length ≤ s.length ∧ x.result.length ≤ s.length := by
  have l1 := cut_len s [32]
  rcases hc : Lib.cut s [32] with ⟨wd, rs, f⟩
  rw [hc] at l1
  dsimp only at l1
  rw [readP_of hc] at h
  split at h
  · injection h with h; subst h; exact ⟨Nat.zero_le _, Nat.zero_le _⟩
  · split at h
    · cases hn : numP rs with
      | none => rw [hn] at h; cases h
      | some n => rw [hn] at h; injection h with h; subst h; exact ⟨Nat.zero_le _, Nat.zero_le _⟩
    · split at h
      · obtain ⟨h1, h2⟩ := borrowP_lists h
        rw [h1, h2]; exact ⟨Nat.zero_le _, Nat.zero_le _⟩
      · split at h
        · have := ranP_len h; omega
        · cases h
set_option maxRecDepth 100000 in
set_option maxHeartbeats 4000000 in
theorem lines_Read (s : Bs) (hs : s.length ≤ 900000) (w : World) (hw : Laid w) : Calls Tryd.prog 15 #[.string (str s)] w (RetP w fun v w' => ∃ pa pn pc ra rn rc, v = .tuple #[(rdV s).v (.slice pa pn pc) (.slice ra rn rc), .int .i64 (rdE s)] ∧ (rdV s).ok ∧ Sl (Frs w) w' (.slice pa pn pc) (rdV s).prints ∧ Sl (Frs w) w' (.slice ra rn rc) (rdV s).result) := by
  have H0 := Lib.hid (lines_read s hs)
  cases hr : readP s with
  | none =>
    have e : rdV s = ve0 ∧ rdE s = 12 := by unfold rdV rdE; rw [hr]; exact ⟨rfl, rfl⟩
    rw [e.1, e.2]
    have HC : Hid (∀ w, Laid w → Calls Tryd.prog 30 #[.string (str s)] w (RetP w fun v w' => ∃ (x : Ve) (pa : Option Addr) (pn pc : Nat) (ra : Option Addr) (rn rc : Nat), v = .tuple #[x.v (.slice pa pn pc) (.slice ra rn rc), .bool false])) := Lib.hid (fun w hw => (H0.out w hw).mono (by
      rintro e w' ⟨_, rfl, ⟨x, pa, pn, pc, ra, rn, rc, b, rfl, ho, hS⟩, hg⟩
      rw [hr] at ho
      cases b
      · exact ⟨_, rfl, ⟨x, pa, pn, pc, ra, rn, rc, rfl⟩, hg⟩
      · cases ho))
    clear H0 hr e
    go_enter Tryd.func15, Tryd.ntmps15
    go_wp2_with (first
        | (go_at_call 30; ((with_reducible refine (HC.out _ (hw.grow (by (repeat (first | (with_reducible exact Grow.refl _) | assumption | refine Grow.ext ?_ _ | refine Grow.alloc ?_ _ | refine Grow.drew ?_ | refine Grow.setCell ?_ (by first | (simp; done) | (simp; omega)) _ | refine Grow.trans ?_ (by assumption)))))).mono ?_); rintro e w4 ⟨_, rfl, ⟨x, pa, pn, pc, ra, rn, rc, rfl⟩, hb4⟩; obtain ⟨x4, rfl⟩ := ext_of_grow hb4; clear hb4)))
    refine postP_of (v := .tuple #[(vft 0 0).v (.slice none 0 0) (.slice none 0 0), .int .i64 12]) (by simp only [results, Tryd.results15]; go_simp) rfl (by (repeat (first | (with_reducible exact Grow.refl _) | assumption | refine Grow.ext ?_ _ | refine Grow.alloc ?_ _ | refine Grow.drew ?_ | refine Grow.setCell ?_ (by first | (simp; done) | (simp; omega)) _ | refine Grow.trans ?_ (by assumption)))) ⟨none, 0, 0, none, 0, 0, rfl, ve0_ok, Sl.nil _ _, Sl.nil _ _⟩
  | some x =>
    have hln := readP_len hr
    cases hk : veOk x
    · have e : rdV s = ve0 ∧ rdE s = 12 := by unfold rdV rdE; rw [hr]; dsimp only; rw [hk]; exact ⟨rfl, rfl⟩
      rw [e.1, e.2]
      have HC : Hid (∀ w, Laid w → Calls Tryd.prog 30 #[.string (str s)] w (RetP w fun v w' => ∃ (pa : Option Addr) (pn pc : Nat) (ra : Option Addr) (rn rc : Nat), v = .tuple #[x.v (.slice pa pn pc) (.slice ra rn rc), .bool true] ∧ x.ok ∧ Sl (Frs w) w' (.slice pa pn pc) x.prints ∧ Sl (Frs w) w' (.slice ra rn rc) x.result)) := Lib.hid (fun w hw => (H0.out w hw).mono (by
        rintro e w' ⟨_, rfl, ⟨y, pa, pn, pc, ra, rn, rc, b, rfl, ho, hS⟩, hg⟩
        rw [hr] at ho
        cases b
        · cases ho
        · injection ho with ho; subst ho; exact ⟨_, rfl, ⟨pa, pn, pc, ra, rn, rc, rfl, hS rfl⟩, hg⟩))
      have hk0 : opOk (veOk x) = 8 := by rw [hk]; rfl
      have HD : Hid (∀ (p r : Value) (w w0 : World), x.ok → Sl (Frs w0) w p x.prints → Sl (Frs w0) w r x.result → Calls Tryd.prog 25 #[x.v p r] w (Ret w (.int .i64 8))) := Lib.hid (fun p r w w0 hv hp hq => by have := driver_Check x p r w hv hp hq (by omega) (by omega); rw [hk0] at this; exact this)
      clear H0 hr e hk hk0 hln
      go_enter Tryd.func15, Tryd.ntmps15
      go_wp2_with (first
        | (go_at_call 30; ((with_reducible refine (HC.out _ (hw.grow (by (repeat (first | (with_reducible exact Grow.refl _) | assumption | refine Grow.ext ?_ _ | refine Grow.alloc ?_ _ | refine Grow.drew ?_ | refine Grow.setCell ?_ (by first | (simp; done) | (simp; omega)) _ | refine Grow.trans ?_ (by assumption)))))).mono ?_); rintro e w4 ⟨_, rfl, ⟨pa, pn, pc, ra, rn, rc, rfl, hxok, hxp, hxr⟩, hb4⟩; replace hxok := Lib.hid hxok; obtain ⟨x4, rfl⟩ := ext_of_grow hb4; clear hb4))
        | (go_at_call 25; ((with_reducible refine (HD.out _ _ _ _ hxok.out (hxp.mono (by (repeat (first | (with_reducible exact Grow.refl _) | assumption | refine Grow.ext ?_ _ | refine Grow.alloc ?_ _ | refine Grow.drew ?_ | refine Grow.setCell ?_ (by first | (simp; done) | (simp; omega)) _ | refine Grow.trans ?_ (by assumption))))) (hxr.mono (by (repeat (first | (with_reducible exact Grow.refl _) | assumption | refine Grow.ext ?_ _ | refine Grow.alloc ?_ _ | refine Grow.drew ?_ | refine Grow.setCell ?_ (by first | (simp; done) | (simp; omega)) _ | refine Grow.trans ?_ (by assumption)))))).mono ?_); rintro e w5 ⟨rfl, hb5⟩; obtain ⟨x5, rfl⟩ := ext_of_grow hb5; clear hb5)))
      refine postP_of (v := .tuple #[(vft 0 0).v (.slice none 0 0) (.slice none 0 0), .int .i64 12]) (by simp only [results, Tryd.results15]; go_simp) rfl (by (repeat (first | (with_reducible exact Grow.refl _) | assumption | refine Grow.ext ?_ _ | refine Grow.alloc ?_ _ | refine Grow.drew ?_ | refine Grow.setCell ?_ (by first | (simp; done) | (simp; omega)) _ | refine Grow.trans ?_ (by assumption)))) ⟨none, 0, 0, none, 0, 0, rfl, ve0_ok, Sl.nil _ _, Sl.nil _ _⟩
    · have e : rdV s = x ∧ rdE s = 0 := by unfold rdV rdE; rw [hr]; dsimp only; rw [hk]; exact ⟨rfl, rfl⟩
      rw [e.1, e.2]
      have HC : Hid (∀ w, Laid w → Calls Tryd.prog 30 #[.string (str s)] w (RetP w fun v w' => ∃ (pa : Option Addr) (pn pc : Nat) (ra : Option Addr) (rn rc : Nat), v = .tuple #[x.v (.slice pa pn pc) (.slice ra rn rc), .bool true] ∧ x.ok ∧ Sl (Frs w) w' (.slice pa pn pc) x.prints ∧ Sl (Frs w) w' (.slice ra rn rc) x.result)) := Lib.hid (fun w hw => (H0.out w hw).mono (by
        rintro e w' ⟨_, rfl, ⟨y, pa, pn, pc, ra, rn, rc, b, rfl, ho, hS⟩, hg⟩
        rw [hr] at ho
        cases b
        · cases ho
        · injection ho with ho; subst ho; exact ⟨_, rfl, ⟨pa, pn, pc, ra, rn, rc, rfl, hS rfl⟩, hg⟩))
      have hk0 : opOk (veOk x) = 0 := by rw [hk]; rfl
      have HD : Hid (∀ (p r : Value) (w w0 : World), x.ok → Sl (Frs w0) w p x.prints → Sl (Frs w0) w r x.result → Calls Tryd.prog 25 #[x.v p r] w (Ret w (.int .i64 0))) := Lib.hid (fun p r w w0 hv hp hq => by have := driver_Check x p r w hv hp hq (by omega) (by omega); rw [hk0] at this; exact this)
      clear H0 hr e hk hk0 hln
      go_enter Tryd.func15, Tryd.ntmps15
      go_wp2_with (first
        | (go_at_call 30; ((with_reducible refine (HC.out _ (hw.grow (by (repeat (first | (with_reducible exact Grow.refl _) | assumption | refine Grow.ext ?_ _ | refine Grow.alloc ?_ _ | refine Grow.drew ?_ | refine Grow.setCell ?_ (by first | (simp; done) | (simp; omega)) _ | refine Grow.trans ?_ (by assumption)))))).mono ?_); rintro e w4 ⟨_, rfl, ⟨pa, pn, pc, ra, rn, rc, rfl, hxok, hxp, hxr⟩, hb4⟩; replace hxok := Lib.hid hxok; obtain ⟨x4, rfl⟩ := ext_of_grow hb4; clear hb4))
        | (go_at_call 25; ((with_reducible refine (HD.out _ _ _ _ hxok.out (hxp.mono (by (repeat (first | (with_reducible exact Grow.refl _) | assumption | refine Grow.ext ?_ _ | refine Grow.alloc ?_ _ | refine Grow.drew ?_ | refine Grow.setCell ?_ (by first | (simp; done) | (simp; omega)) _ | refine Grow.trans ?_ (by assumption))))) (hxr.mono (by (repeat (first | (with_reducible exact Grow.refl _) | assumption | refine Grow.ext ?_ _ | refine Grow.alloc ?_ _ | refine Grow.drew ?_ | refine Grow.setCell ?_ (by first | (simp; done) | (simp; omega)) _ | refine Grow.trans ?_ (by assumption)))))).mono ?_); rintro e w5 ⟨rfl, hb5⟩; obtain ⟨x5, rfl⟩ := ext_of_grow hb5; clear hb5)))
      refine postP_of (v := .tuple #[x.v (.slice pa pn pc) (.slice ra rn rc), .int .i64 0]) (by simp only [results, Tryd.results15]; go_simp) rfl (by (repeat (first | (with_reducible exact Grow.refl _) | assumption | refine Grow.ext ?_ _ | refine Grow.alloc ?_ _ | refine Grow.drew ?_ | refine Grow.setCell ?_ (by first | (simp; done) | (simp; omega)) _ | refine Grow.trans ?_ (by assumption)))) ⟨pa, pn, pc, ra, rn, rc, rfl, hxok.out, hxp.boxed1 (by simp only [size_ext, alloc_size]; omega), hxr.boxed1 (by simp only [size_ext, alloc_size]; omega)⟩

/-! ### Two verdicts compared -/
def veEq (a b : Ve) : Bool := (a.kind == b.kind) && ((a.err == b.err) && ((a.fn == b.fn) && (clEq a b && ((a.out == b.out) && ((a.steps == b.steps) && (decide (a.prints = b.prints) && decide (a.result = b.result)))))))
theorem veEq_iff (a b : Ve) : veEq a b = decide (a = b) := by
  obtain ⟨k, e, fn, at_, loan, ⟨l, d, f⟩, w, dp, o, s, p, r⟩ := a
  obtain ⟨k', e', fn', at', loan', ⟨l', d', f'⟩, w', dp', o', s', p', r'⟩ := b
  unfold veEq clEq
  dsimp only
  rw [Bool.eq_iff_iff]
  simp [Ve.mk.injEq, Pl.mk.injEq, and_assoc]
set_option maxRecDepth 100000 in
set_option maxHeartbeats 4000000 in
theorem ref42_Same (a b : Ve) (p1 r1 p2 r2 : Value) (w : World) {F1 F2 F3 F4 : Nat → Prop} (ha : a.ok) (hb : b.ok) (h1 : Sl F1 w p1 a.prints) (h2 : Sl F2 w r1 a.result) (h3 : Sl F3 w p2 b.prints) (h4 : Sl F4 w r2 b.result) :
    Calls Tryd.prog 17 #[a.v p1 r1, b.v p2 r2] w (Ret w (.bool (decide (a = b)))) := by
  rw [← veEq_iff]
  obtain ⟨r, Hr⟩ : ∃ r, Hid (veEq a b = r) := ⟨_, Lib.hid rfl⟩
  rw [Hr.out]
  have HS1 := Lib.hid (fun w' (g : Grow w w') => ref36_SameLong p1 p2 a.prints b.prints w' (h1.mono g) (h3.mono g))
  have HS2 := Lib.hid (fun w' (g : Grow w w') => ref36_SameLong r1 r2 a.result b.result w' (h2.mono g) (h4.mono g))
  obtain ⟨d1, Hd1⟩ : ∃ d, Hid (decide (a.prints = b.prints) = d) := ⟨_, Lib.hid rfl⟩
  obtain ⟨d2, Hd2⟩ : ∃ d, Hid (decide (a.result = b.result) = d) := ⟨_, Lib.hid rfl⟩
  rw [Hd1.out] at HS1
  rw [Hd2.out] at HS2
  have HE : Hid (((a.kind == b.kind) && ((a.err == b.err) && ((a.fn == b.fn) && (clEq a b && ((a.out == b.out) && ((a.steps == b.steps) && (d1 && d2))))))) = r) := Lib.hid (by rw [← Hr.out, ← Hd1.out, ← Hd2.out]; rfl)
  clear Hr Hd1 Hd2
  cases c1 : (a.kind == b.kind)
  · have e : r = false := by rw [← HE.out, c1]; rfl
    go_enter Tryd.func17, Tryd.ntmps17
    go_wp2_with fail
    go_ret; exact Ret.bool e.symm (by (repeat (first | (with_reducible exact Grow.refl _) | assumption | refine Grow.ext ?_ _ | refine Grow.alloc ?_ _ | refine Grow.drew ?_ | refine Grow.setCell ?_ (by first | (simp; done) | (simp; omega)) _ | refine Grow.trans ?_ (by assumption))))
  cases c2 : (a.err == b.err)
  · have e : r = false := by rw [← HE.out, c1, c2]; rfl
    go_enter Tryd.func17, Tryd.ntmps17
    go_wp2_with fail
    go_ret; exact Ret.bool e.symm (by (repeat (first | (with_reducible exact Grow.refl _) | assumption | refine Grow.ext ?_ _ | refine Grow.alloc ?_ _ | refine Grow.drew ?_ | refine Grow.setCell ?_ (by first | (simp; done) | (simp; omega)) _ | refine Grow.trans ?_ (by assumption))))
  cases c3 : (a.fn == b.fn)
  · have e : r = false := by rw [← HE.out, c1, c2, c3]; rfl
    go_enter Tryd.func17, Tryd.ntmps17
    go_wp2_with fail
    go_ret; exact Ret.bool e.symm (by (repeat (first | (with_reducible exact Grow.refl _) | assumption | refine Grow.ext ?_ _ | refine Grow.alloc ?_ _ | refine Grow.drew ?_ | refine Grow.setCell ?_ (by first | (simp; done) | (simp; omega)) _ | refine Grow.trans ?_ (by assumption))))
  cases c4 : clEq a b
  · have e : r = false := by rw [← HE.out, c1, c2, c3, c4]; rfl
    go_enter Tryd.func17, Tryd.ntmps17
    go_wp2_with fail
    go_ret; exact Ret.bool e.symm (by (repeat (first | (with_reducible exact Grow.refl _) | assumption | refine Grow.ext ?_ _ | refine Grow.alloc ?_ _ | refine Grow.drew ?_ | refine Grow.setCell ?_ (by first | (simp; done) | (simp; omega)) _ | refine Grow.trans ?_ (by assumption))))
  cases c5 : (a.out == b.out)
  · have e : r = false := by rw [← HE.out, c1, c2, c3, c4, c5]; rfl
    go_enter Tryd.func17, Tryd.ntmps17
    go_wp2_with fail
    go_ret; exact Ret.bool e.symm (by (repeat (first | (with_reducible exact Grow.refl _) | assumption | refine Grow.ext ?_ _ | refine Grow.alloc ?_ _ | refine Grow.drew ?_ | refine Grow.setCell ?_ (by first | (simp; done) | (simp; omega)) _ | refine Grow.trans ?_ (by assumption))))
  cases c6 : (a.steps == b.steps)
  · have e : r = false := by rw [← HE.out, c1, c2, c3, c4, c5, c6]; rfl
    go_enter Tryd.func17, Tryd.ntmps17
    go_wp2_with fail
    go_ret; exact Ret.bool e.symm (by (repeat (first | (with_reducible exact Grow.refl _) | assumption | refine Grow.ext ?_ _ | refine Grow.alloc ?_ _ | refine Grow.drew ?_ | refine Grow.setCell ?_ (by first | (simp; done) | (simp; omega)) _ | refine Grow.trans ?_ (by assumption))))
  cases d1
  · have e : r = false := by rw [← HE.out, c1, c2, c3, c4, c5, c6]; rfl
    go_enter Tryd.func17, Tryd.ntmps17
    go_wp2_with (first | (go_at_call 32; ((with_reducible refine (HS1.out _ (by (repeat (first | (with_reducible exact Grow.refl _) | assumption | refine Grow.ext ?_ _ | refine Grow.alloc ?_ _ | refine Grow.drew ?_ | refine Grow.setCell ?_ (by first | (simp; done) | (simp; omega)) _ | refine Grow.trans ?_ (by assumption))))).mono ?_); rintro e w1 ⟨rfl, hb1⟩; obtain ⟨x1, rfl⟩ := ext_of_grow hb1; clear hb1)))
    go_ret; exact Ret.bool e.symm (by (repeat (first | (with_reducible exact Grow.refl _) | assumption | refine Grow.ext ?_ _ | refine Grow.alloc ?_ _ | refine Grow.drew ?_ | refine Grow.setCell ?_ (by first | (simp; done) | (simp; omega)) _ | refine Grow.trans ?_ (by assumption))))
  · have e : r = d2 := by rw [← HE.out, c1, c2, c3, c4, c5, c6]; rfl
    go_enter Tryd.func17, Tryd.ntmps17
    go_wp2_with (first | (go_at_call 32; ((with_reducible refine (HS1.out _ (by (repeat (first | (with_reducible exact Grow.refl _) | assumption | refine Grow.ext ?_ _ | refine Grow.alloc ?_ _ | refine Grow.drew ?_ | refine Grow.setCell ?_ (by first | (simp; done) | (simp; omega)) _ | refine Grow.trans ?_ (by assumption))))).mono ?_); rintro e w1 ⟨rfl, hb1⟩; obtain ⟨x1, rfl⟩ := ext_of_grow hb1; clear hb1)) | (go_at_call 32; ((with_reducible refine (HS2.out _ (by (repeat (first | (with_reducible exact Grow.refl _) | assumption | refine Grow.ext ?_ _ | refine Grow.alloc ?_ _ | refine Grow.drew ?_ | refine Grow.setCell ?_ (by first | (simp; done) | (simp; omega)) _ | refine Grow.trans ?_ (by assumption))))).mono ?_); rintro e w2 ⟨rfl, hb2⟩; obtain ⟨x2, rfl⟩ := ext_of_grow hb2; clear hb2)))
    go_ret; exact Ret.bool e.symm (by (repeat (first | (with_reducible exact Grow.refl _) | assumption | refine Grow.ext ?_ _ | refine Grow.alloc ?_ _ | refine Grow.drew ?_ | refine Grow.setCell ?_ (by first | (simp; done) | (simp; omega)) _ | refine Grow.trans ?_ (by assumption))))
end Go.Proofs.YtjllaogechckoaaDoor
