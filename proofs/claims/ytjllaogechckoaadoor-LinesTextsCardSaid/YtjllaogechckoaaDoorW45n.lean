/- Layer 45: the law's own functions: the examples, and what they say. -/
import Derived.Test.YtjllaogechckoaaDoorW45m
namespace Go.Proofs.YtjllaogechckoaaDoor
open Go.RowKit
set_option linter.unusedSimpArgs false
set_option linter.unusedVariables false

theorem sl_i1 {F : Nat → Prop} {w : World} {g : Nat} {e : TypeId} {a : Int} (hF : F g) (ha : I64 a) (hg : w.heap[g]? = some (.cells #[.int .i64 a] e)) : Sl F w (.slice (some ⟨g, 0, none⟩) 1 1) [a] := by
  refine ⟨_, 1, rfl, Nat.le_refl _, by omega, (fun h => by cases h), fun i hi => ⟨g, 0, rfl, hF, (Array.getElem?_eq_some_iff.1 hg).1, [.int .i64 a], ?_, fun j hj => ?_⟩⟩
  · have hi' : i < 1 := hi
    match i, hi' with
    | 0, _ => exact ⟨rfl, ha⟩
  · obtain rfl : j = 0 := by simpa using hj
    simp only [World.cell?, hg, Nat.zero_add, sz_int, Nat.mul_one, Nat.add_zero]
    have hi' : i < 1 := hi
    match i, hi' with
    | 0, _ => rfl
theorem sl_i2 {F : Nat → Prop} {w : World} {g : Nat} {e : TypeId} {a b : Int} (hF : F g) (ha : I64 a) (hb : I64 b) (hg : w.heap[g]? = some (.cells #[.int .i64 a, .int .i64 b] e)) : Sl F w (.slice (some ⟨g, 0, none⟩) 2 2) [a, b] := by
  refine ⟨_, 2, rfl, Nat.le_refl _, by omega, (fun h => by cases h), fun i hi => ⟨g, 0, rfl, hF, (Array.getElem?_eq_some_iff.1 hg).1, [.int .i64 ([a, b][i])], ?_, fun j hj => ?_⟩⟩
  · have hi' : i < 2 := hi
    match i, hi' with
    | 0, _ => exact ⟨rfl, ha⟩
    | 1, _ => exact ⟨rfl, hb⟩
  · obtain rfl : j = 0 := by simpa using hj
    simp only [World.cell?, hg, Nat.zero_add, sz_int, Nat.mul_one, Nat.add_zero]
    have hi' : i < 2 := hi
    match i, hi' with
    | 0, _ => rfl
    | 1, _ => rfl
theorem I64.of8 : I64 8 := by unfold I64; omega
theorem I64.of1 : I64 1 := by unfold I64; omega
theorem law45_borrow (w : World) : Calls Tryd.prog 18 #[] w (Ret w (vBor0.v (.slice none 0 0) (.slice none 0 0))) := by
  go_enter Tryd.func18, Tryd.ntmps18
  go_wp2_with fail
  ((try simp only [Exit.inBlock, Exit.then]); refine post_of (by simp only [results, Tryd.results18]; go_simp; rfl) rfl (by (repeat (first | (with_reducible exact Grow.refl _) | assumption | refine Grow.ext ?_ _ | refine Grow.alloc ?_ _ | refine Grow.drew ?_ | refine Grow.setCell ?_ (by first | (simp; done) | (simp; omega)) _ | refine Grow.trans ?_ (by assumption)))) ?_)
  exact rfl
set_option maxRecDepth 100000 in
set_option maxHeartbeats 1000000 in
theorem law45_ran (w : World) : Calls Tryd.prog 33 #[] w (RetP w fun v w' => ∃ pa ra, v = vRan0.v (.slice (some ⟨pa, 0, none⟩) 1 1) (.slice (some ⟨ra, 0, none⟩) 2 2) ∧ Sl (Frs w) w' (.slice (some ⟨pa, 0, none⟩) 1 1) ([8] : List Int) ∧ Sl (Frs w) w' (.slice (some ⟨ra, 0, none⟩) 2 2) ([8, 1] : List Int)) := by
  go_enter Tryd.func33, Tryd.ntmps33
  go_wp2_with fail
  all_goals
    (refine postP_of (v := vRan0.v (.slice (some ⟨w.heap.size + 1, 0, none⟩) 1 1) (.slice (some ⟨w.heap.size + 1 + 1, 0, none⟩) 2 2)) (by simp only [results, Tryd.results33]; go_simp <;> rfl) rfl (by (repeat (first | (with_reducible exact Grow.refl _) | assumption | refine Grow.ext ?_ _ | refine Grow.alloc ?_ _ | refine Grow.drew ?_ | refine Grow.setCell ?_ (by first | (simp; done) | (simp; omega)) _ | refine Grow.trans ?_ (by assumption)))) ⟨_, _, rfl, sl_i1 (e := 2) ?_ I64.of8 ?_, sl_i2 (e := 2) ?_ I64.of8 I64.of1 ?_⟩ <;> first | (unfold Frs; omega) | (simp only [hp_at, hp_alloc, hp_ext, hp_drew]; done) | (simp only [hp_at, hp_alloc, hp_ext, hp_drew]; kernel_rfl))
theorem vRan0_ok : vRan0.ok :=
  ⟨by unfold U8; dsimp only; omega, by unfold I64; dsimp only; omega, by unfold I64; dsimp only; omega, by unfold I64; dsimp only; omega, by unfold I64; dsimp only; omega, ⟨by unfold I64; dsimp only; omega, by unfold U8; dsimp only; omega⟩, by unfold U8; dsimp only; omega, by unfold I64; dsimp only; omega, (by intro n h; simp only [List.mem_cons, List.not_mem_nil, or_false] at h; subst h; exact I64.of8), (by intro n h; simp only [List.mem_cons, List.not_mem_nil, or_false] at h; rcases h with rfl | rfl; exact I64.of8; exact I64.of1)⟩
theorem vBor0_ok : vBor0.ok :=
  ⟨by unfold U8; dsimp only; omega, by unfold I64; dsimp only; omega, by unfold I64; dsimp only; omega, by unfold I64; dsimp only; omega, by unfold I64; dsimp only; omega, ⟨by unfold I64; dsimp only; omega, by unfold U8; dsimp only; omega⟩, by unfold U8; dsimp only; omega, by unfold I64; dsimp only; omega, (by intro n h; cases h), (by intro n h; cases h)⟩
def greatB (v : Ve) (s : Bs) : Bool := decide (210 < v.prints.length) || (decide (10 < v.result.length) || decide (5000 < s.length))
theorem greatB_no {v : Ve} {s : Bs} (h : greatB v s = false) : v.prints.length ≤ 210 ∧ v.result.length ≤ 10 ∧ s.length ≤ 5000 := by
  unfold greatB at h; simp at h; exact h
set_option maxRecDepth 100000 in
set_option maxHeartbeats 1000000 in
theorem law45_great (v : Ve) (pv rv : Value) (s : Bs) (w : World) {F F' : Nat → Prop} (hp : Sl F w pv v.prints) (hr : Sl F' w rv v.result) : Calls Tryd.prog 8 #[v.v pv rv, .string (str s)] w (Ret w (.bool (greatB v s))) := by
  obtain ⟨pa, pn, pc, rfl, Hpn, hpm, hpcap, hpcm, hp⟩ := hp.open
  obtain ⟨ra, rn, rc, rfl, Hrn, hrm, hrcap, hrcm, hr⟩ := hr.open
  have Hg : Hid (greatB v s = (decide (210 < pn) || (decide (10 < rn) || decide (5000 < s.length)))) := Lib.hid (by unfold greatB; rw [← Hpn.out, ← Hrn.out])
  rw [Hg.out]
  obtain ⟨sl, Hs⟩ : ∃ n, Hid (s.length = n) := ⟨_, Lib.hid rfl⟩
  have hss : (str s).size = sl := by rw [str_size]; exact Hs.out
  rw [Hs.out]
  by_cases h1 : 210 < pn
  · have e1 : decide ((pn : Int) > 210) = true := decide_eq_true (by omega)
    rw [decide_eq_true h1]
    go_enter Tryd.func8, Tryd.ntmps8
    go_wp2_with fail
    go_ret; exact Ret.bool rfl (by (repeat (first | (with_reducible exact Grow.refl _) | assumption | refine Grow.ext ?_ _ | refine Grow.alloc ?_ _ | refine Grow.drew ?_ | refine Grow.setCell ?_ (by first | (simp; done) | (simp; omega)) _ | refine Grow.trans ?_ (by assumption))))
  · have e1 : decide ((pn : Int) > 210) = false := decide_eq_false (by omega)
    rw [decide_eq_false h1]
    by_cases h2 : 10 < rn
    · have e2 : decide ((rn : Int) > 10) = true := decide_eq_true (by omega)
      rw [decide_eq_true h2]
      go_enter Tryd.func8, Tryd.ntmps8
      go_wp2_with fail
      go_ret; exact Ret.bool rfl (by (repeat (first | (with_reducible exact Grow.refl _) | assumption | refine Grow.ext ?_ _ | refine Grow.alloc ?_ _ | refine Grow.drew ?_ | refine Grow.setCell ?_ (by first | (simp; done) | (simp; omega)) _ | refine Grow.trans ?_ (by assumption))))
    · have e2 : decide ((rn : Int) > 10) = false := decide_eq_false (by omega)
      rw [decide_eq_false h2]
      by_cases h3 : 5000 < sl
      · rw [decide_eq_true h3]
        have e3 : decide ((sl : Int) > 5000) = true := decide_eq_true (by omega)
        go_enter Tryd.func8, Tryd.ntmps8
        go_wp2_with fail
        go_ret; exact Ret.bool rfl (by (repeat (first | (with_reducible exact Grow.refl _) | assumption | refine Grow.ext ?_ _ | refine Grow.alloc ?_ _ | refine Grow.drew ?_ | refine Grow.setCell ?_ (by first | (simp; done) | (simp; omega)) _ | refine Grow.trans ?_ (by assumption))))
      · rw [decide_eq_false h3]
        have e3 : decide ((sl : Int) > 5000) = false := decide_eq_false (by omega)
        go_enter Tryd.func8, Tryd.ntmps8
        go_wp2_with fail
        go_ret; exact Ret.bool rfl (by (repeat (first | (with_reducible exact Grow.refl _) | assumption | refine Grow.ext ?_ _ | refine Grow.alloc ?_ _ | refine Grow.drew ?_ | refine Grow.setCell ?_ (by first | (simp; done) | (simp; omega)) _ | refine Grow.trans ?_ (by assumption))))
set_option maxRecDepth 100000 in
set_option maxHeartbeats 4000000 in
theorem law45_reads (v : Ve) (pv rv : Value) (want : Bs) (w : World) {F F' : Nat → Prop} (hv : v.ok) (hp : Sl F w pv v.prints) (hr : Sl F' w rv v.result) (h1 : v.prints.length ≤ 300) (h2 : v.result.length ≤ 300) (hs : want.length ≤ 900000) (hw : Laid w) :
    Calls Tryd.prog 19 #[v.v pv rv, .string (str want)] w (Ret w (.bool (readsB v want))) := by
  obtain ⟨r, Hr⟩ : ∃ r, Hid (readsB v want = r) := ⟨_, Lib.hid rfl⟩
  rw [Hr.out]
  have hp0 := hp.old; have hr0 := hr.old
  clear hp hr
  obtain ⟨pa, pn, pc, rfl, Hpn, hpm, hpcap, hpcm, hp⟩ := hp0.open
  obtain ⟨ra, rn, rc, rfl, Hrn, hrm, hrcap, hrcm, hr⟩ := hr0.open
  have HT := Lib.hid (fun w' (g : Grow w w') => lines_Text v (.slice pa pn pc) (.slice ra rn rc) w' hv (hp.mono g) (hr.mono g) h1 h2 (hw.grow g))
  have HRD := Lib.hid (lines_Read want hs)
  obtain ⟨x, Hx⟩ : ∃ x, Hid (rdV want = x) := ⟨_, Lib.hid rfl⟩
  obtain ⟨ex, Hex⟩ : ∃ x, Hid (rdE want = x) := ⟨_, Lib.hid rfl⟩
  obtain ⟨ev, Hev⟩ : ∃ x, Hid (opOk (veOk v) = x) := ⟨_, Lib.hid rfl⟩
  obtain ⟨tv, Htv⟩ : ∃ x, Hid (txS v = x) := ⟨_, Lib.hid rfl⟩
  rw [Hx.out, Hex.out] at HRD
  rw [Hev.out, Htv.out] at HT
  have HR : Hid (r = ((ev == 0) && ((tv == want) && ((ex == 0) && decide (v = x))))) := Lib.hid (by rw [← Hr.out, ← Hev.out, ← Htv.out, ← Hex.out, ← Hx.out]; rfl)
  clear Hr Hev Htv Hex Hx
  have HS := Lib.hid (fun p2 r2 w' F3 F4 (g : Grow w w') (hx : x.ok) (h3 : Sl F3 w' p2 x.prints) (h4 : Sl F4 w' r2 x.result) => ref42_Same v x (.slice pa pn pc) (.slice ra rn rc) p2 r2 w' hv hx (hp.mono g) (hr.mono g) h3 h4)
  obtain ⟨d, Hd⟩ : ∃ d, Hid (decide (v = x) = d) := ⟨_, Lib.hid rfl⟩
  rw [Hd.out] at HS HR
  clear Hd
  cases c1 : (ev == 0)
  · have e : r = false := by rw [HR.out, c1]; rfl
    go_enter Tryd.func19, Tryd.ntmps19
    go_wp2_with (first
      | (go_at_call 13; ((with_reducible refine (HT.out _ (by (repeat (first | (with_reducible exact Grow.refl _) | assumption | refine Grow.ext ?_ _ | refine Grow.alloc ?_ _ | refine Grow.drew ?_ | refine Grow.setCell ?_ (by first | (simp; done) | (simp; omega)) _ | refine Grow.trans ?_ (by assumption))))).mono ?_); rintro e w1 ⟨rfl, hb1⟩; obtain ⟨x1, rfl⟩ := ext_of_grow hb1; clear hb1))
      | (go_at_call 15; ((with_reducible refine (HRD.out _ (hw.grow (by (repeat (first | (with_reducible exact Grow.refl _) | assumption | refine Grow.ext ?_ _ | refine Grow.alloc ?_ _ | refine Grow.drew ?_ | refine Grow.setCell ?_ (by first | (simp; done) | (simp; omega)) _ | refine Grow.trans ?_ (by assumption)))))).mono ?_); rintro e w4 ⟨_, rfl, ⟨qa, qn, qc, ta, tn, tc, rfl, hxok, hxp, hxr⟩, hb4⟩; replace hxok := Lib.hid hxok; obtain ⟨x4, rfl⟩ := ext_of_grow hb4; clear hb4)))
    go_ret; exact Ret.bool e.symm (by (repeat (first | (with_reducible exact Grow.refl _) | assumption | refine Grow.ext ?_ _ | refine Grow.alloc ?_ _ | refine Grow.drew ?_ | refine Grow.setCell ?_ (by first | (simp; done) | (simp; omega)) _ | refine Grow.trans ?_ (by assumption))))
  cases c2 : (tv == want)
  · have e : r = false := by rw [HR.out, c1, c2]; rfl
    go_enter Tryd.func19, Tryd.ntmps19
    go_wp2_with (first
      | (go_at_call 13; ((with_reducible refine (HT.out _ (by (repeat (first | (with_reducible exact Grow.refl _) | assumption | refine Grow.ext ?_ _ | refine Grow.alloc ?_ _ | refine Grow.drew ?_ | refine Grow.setCell ?_ (by first | (simp; done) | (simp; omega)) _ | refine Grow.trans ?_ (by assumption))))).mono ?_); rintro e w1 ⟨rfl, hb1⟩; obtain ⟨x1, rfl⟩ := ext_of_grow hb1; clear hb1))
      | (go_at_call 15; ((with_reducible refine (HRD.out _ (hw.grow (by (repeat (first | (with_reducible exact Grow.refl _) | assumption | refine Grow.ext ?_ _ | refine Grow.alloc ?_ _ | refine Grow.drew ?_ | refine Grow.setCell ?_ (by first | (simp; done) | (simp; omega)) _ | refine Grow.trans ?_ (by assumption)))))).mono ?_); rintro e w4 ⟨_, rfl, ⟨qa, qn, qc, ta, tn, tc, rfl, hxok, hxp, hxr⟩, hb4⟩; replace hxok := Lib.hid hxok; obtain ⟨x4, rfl⟩ := ext_of_grow hb4; clear hb4)))
    go_ret; exact Ret.bool e.symm (by (repeat (first | (with_reducible exact Grow.refl _) | assumption | refine Grow.ext ?_ _ | refine Grow.alloc ?_ _ | refine Grow.drew ?_ | refine Grow.setCell ?_ (by first | (simp; done) | (simp; omega)) _ | refine Grow.trans ?_ (by assumption))))
  cases c3 : (ex == 0)
  · have e : r = false := by rw [HR.out, c1, c2, c3]; rfl
    go_enter Tryd.func19, Tryd.ntmps19
    go_wp2_with (first
      | (go_at_call 13; ((with_reducible refine (HT.out _ (by (repeat (first | (with_reducible exact Grow.refl _) | assumption | refine Grow.ext ?_ _ | refine Grow.alloc ?_ _ | refine Grow.drew ?_ | refine Grow.setCell ?_ (by first | (simp; done) | (simp; omega)) _ | refine Grow.trans ?_ (by assumption))))).mono ?_); rintro e w1 ⟨rfl, hb1⟩; obtain ⟨x1, rfl⟩ := ext_of_grow hb1; clear hb1))
      | (go_at_call 15; ((with_reducible refine (HRD.out _ (hw.grow (by (repeat (first | (with_reducible exact Grow.refl _) | assumption | refine Grow.ext ?_ _ | refine Grow.alloc ?_ _ | refine Grow.drew ?_ | refine Grow.setCell ?_ (by first | (simp; done) | (simp; omega)) _ | refine Grow.trans ?_ (by assumption)))))).mono ?_); rintro e w4 ⟨_, rfl, ⟨qa, qn, qc, ta, tn, tc, rfl, hxok, hxp, hxr⟩, hb4⟩; replace hxok := Lib.hid hxok; obtain ⟨x4, rfl⟩ := ext_of_grow hb4; clear hb4)))
    go_ret; exact Ret.bool e.symm (by (repeat (first | (with_reducible exact Grow.refl _) | assumption | refine Grow.ext ?_ _ | refine Grow.alloc ?_ _ | refine Grow.drew ?_ | refine Grow.setCell ?_ (by first | (simp; done) | (simp; omega)) _ | refine Grow.trans ?_ (by assumption))))
  · have e : r = d := by rw [HR.out, c1, c2, c3]; rfl
    go_enter Tryd.func19, Tryd.ntmps19
    go_wp2_with (first
      | (go_at_call 13; ((with_reducible refine (HT.out _ (by (repeat (first | (with_reducible exact Grow.refl _) | assumption | refine Grow.ext ?_ _ | refine Grow.alloc ?_ _ | refine Grow.drew ?_ | refine Grow.setCell ?_ (by first | (simp; done) | (simp; omega)) _ | refine Grow.trans ?_ (by assumption))))).mono ?_); rintro e w1 ⟨rfl, hb1⟩; obtain ⟨x1, rfl⟩ := ext_of_grow hb1; clear hb1))
      | (go_at_call 15; ((with_reducible refine (HRD.out _ (hw.grow (by (repeat (first | (with_reducible exact Grow.refl _) | assumption | refine Grow.ext ?_ _ | refine Grow.alloc ?_ _ | refine Grow.drew ?_ | refine Grow.setCell ?_ (by first | (simp; done) | (simp; omega)) _ | refine Grow.trans ?_ (by assumption)))))).mono ?_); rintro e w4 ⟨_, rfl, ⟨qa, qn, qc, ta, tn, tc, rfl, hxok, hxp, hxr⟩, hb4⟩; replace hxok := Lib.hid hxok; obtain ⟨x4, rfl⟩ := ext_of_grow hb4; clear hb4))
      | (go_at_call 17; ((with_reducible refine (HS.out _ _ _ _ _ (by (repeat (first | (with_reducible exact Grow.refl _) | assumption | refine Grow.ext ?_ _ | refine Grow.alloc ?_ _ | refine Grow.drew ?_ | refine Grow.setCell ?_ (by first | (simp; done) | (simp; omega)) _ | refine Grow.trans ?_ (by assumption)))) hxok.out (hxp.mono (by (repeat (first | (with_reducible exact Grow.refl _) | assumption | refine Grow.ext ?_ _ | refine Grow.alloc ?_ _ | refine Grow.drew ?_ | refine Grow.setCell ?_ (by first | (simp; done) | (simp; omega)) _ | refine Grow.trans ?_ (by assumption))))) (hxr.mono (by (repeat (first | (with_reducible exact Grow.refl _) | assumption | refine Grow.ext ?_ _ | refine Grow.alloc ?_ _ | refine Grow.drew ?_ | refine Grow.setCell ?_ (by first | (simp; done) | (simp; omega)) _ | refine Grow.trans ?_ (by assumption)))))).mono ?_); rintro e w5 ⟨rfl, hb5⟩; obtain ⟨x5, rfl⟩ := ext_of_grow hb5; clear hb5)))
    go_ret; exact Ret.bool e.symm (by (repeat (first | (with_reducible exact Grow.refl _) | assumption | refine Grow.ext ?_ _ | refine Grow.alloc ?_ _ | refine Grow.drew ?_ | refine Grow.setCell ?_ (by first | (simp; done) | (simp; omega)) _ | refine Grow.trans ?_ (by assumption))))
set_option maxRecDepth 100000 in
set_option maxHeartbeats 4000000 in
theorem law45_none (s : Bs) (w : World) (hs : s.length ≤ 900000) (hw : Laid w) : Calls Tryd.prog 20 #[.string (str s)] w (Ret w (.bool (noneB s))) := by
  obtain ⟨r, Hr⟩ : ∃ r, Hid (noneB s = r) := ⟨_, Lib.hid rfl⟩
  rw [Hr.out]
  have HRD := Lib.hid (lines_Read s hs)
  obtain ⟨x, Hx⟩ : ∃ x, Hid (rdV s = x) := ⟨_, Lib.hid rfl⟩
  obtain ⟨ex, Hex⟩ : ∃ x, Hid (rdE s = x) := ⟨_, Lib.hid rfl⟩
  rw [Hx.out, Hex.out] at HRD
  have HR : Hid (r = ((ex == 12) && decide (x = vft 0 0))) := Lib.hid (by rw [← Hr.out, ← Hex.out, ← Hx.out]; rfl)
  clear Hr Hex Hx
  have HS := Lib.hid (fun p2 r2 w' F3 F4 (hx : x.ok) (h3 : Sl F3 w' p2 x.prints) (h4 : Sl F4 w' r2 x.result) => ref42_Same x (vft 0 0) p2 r2 (.slice none 0 0) (.slice none 0 0) w' hx ve0_ok h3 h4 (Sl.nil (fun _ => True) w') (Sl.nil (fun _ => True) w'))
  obtain ⟨d, Hd⟩ : ∃ d, Hid (decide (x = vft 0 0) = d) := ⟨_, Lib.hid rfl⟩
  rw [Hd.out] at HS HR
  clear Hd
  cases c1 : (ex == 12)
  · have e : r = false := by rw [HR.out, c1]; rfl
    go_enter Tryd.func20, Tryd.ntmps20
    go_wp2_with (first
      | (go_at_call 15; ((with_reducible refine (HRD.out _ (hw.grow (by (repeat (first | (with_reducible exact Grow.refl _) | assumption | refine Grow.ext ?_ _ | refine Grow.alloc ?_ _ | refine Grow.drew ?_ | refine Grow.setCell ?_ (by first | (simp; done) | (simp; omega)) _ | refine Grow.trans ?_ (by assumption)))))).mono ?_); rintro e w4 ⟨_, rfl, ⟨qa, qn, qc, ta, tn, tc, rfl, hxok, hxp, hxr⟩, hb4⟩; replace hxok := Lib.hid hxok; obtain ⟨x4, rfl⟩ := ext_of_grow hb4; clear hb4)))
    go_ret; exact Ret.bool e.symm (by (repeat (first | (with_reducible exact Grow.refl _) | assumption | refine Grow.ext ?_ _ | refine Grow.alloc ?_ _ | refine Grow.drew ?_ | refine Grow.setCell ?_ (by first | (simp; done) | (simp; omega)) _ | refine Grow.trans ?_ (by assumption))))
  · have e : r = d := by rw [HR.out, c1]; rfl
    go_enter Tryd.func20, Tryd.ntmps20
    go_wp2_with (first
      | (go_at_call 15; ((with_reducible refine (HRD.out _ (hw.grow (by (repeat (first | (with_reducible exact Grow.refl _) | assumption | refine Grow.ext ?_ _ | refine Grow.alloc ?_ _ | refine Grow.drew ?_ | refine Grow.setCell ?_ (by first | (simp; done) | (simp; omega)) _ | refine Grow.trans ?_ (by assumption)))))).mono ?_); rintro e w4 ⟨_, rfl, ⟨qa, qn, qc, ta, tn, tc, rfl, hxok, hxp, hxr⟩, hb4⟩; replace hxok := Lib.hid hxok; obtain ⟨x4, rfl⟩ := ext_of_grow hb4; clear hb4))
      | (go_at_call 17; ((with_reducible refine (HS.out _ _ _ _ _ hxok.out (hxp.mono (by (repeat (first | (with_reducible exact Grow.refl _) | assumption | refine Grow.ext ?_ _ | refine Grow.alloc ?_ _ | refine Grow.drew ?_ | refine Grow.setCell ?_ (by first | (simp; done) | (simp; omega)) _ | refine Grow.trans ?_ (by assumption))))) (hxr.mono (by (repeat (first | (with_reducible exact Grow.refl _) | assumption | refine Grow.ext ?_ _ | refine Grow.alloc ?_ _ | refine Grow.drew ?_ | refine Grow.setCell ?_ (by first | (simp; done) | (simp; omega)) _ | refine Grow.trans ?_ (by assumption)))))).mono ?_); rintro e w5 ⟨rfl, hb5⟩; obtain ⟨x5, rfl⟩ := ext_of_grow hb5; clear hb5)))
    go_ret; exact Ret.bool e.symm (by (repeat (first | (with_reducible exact Grow.refl _) | assumption | refine Grow.ext ?_ _ | refine Grow.alloc ?_ _ | refine Grow.drew ?_ | refine Grow.setCell ?_ (by first | (simp; done) | (simp; omega)) _ | refine Grow.trans ?_ (by assumption))))
set_option maxRecDepth 100000 in
set_option maxHeartbeats 4000000 in
theorem law45_alive (w : World) (hw : Laid w) : Calls Tryd.prog 21 #[] w (Ret w (.bool true)) := by
  have HA := Lib.hid (fun w' pv rv F F' hp hr (hw : Laid w') => by have h := law45_reads vRan0 pv rv tRan0 w' (F := F) (F' := F') vRan0_ok hp hr (by decide) (by decide) (by decide) hw; rw [readsRan0] at h; exact h)
  have HB := Lib.hid (fun w' (hw : Laid w') => by have h := law45_reads vBor0 (.slice none 0 0) (.slice none 0 0) tBor0 w' (F := fun _ => True) (F' := fun _ => True) vBor0_ok (Sl.nil _ _) (Sl.nil _ _) (by decide) (by decide) (by decide) hw; rw [readsBor0] at h; exact h)
  go_enter Tryd.func21, Tryd.ntmps21
  go_wp2_with (first
    | (go_at_call 33; ((with_reducible refine (law45_ran _).mono ?_); rintro e w4 ⟨_, rfl, ⟨pa, ra, rfl, hxp, hxr⟩, hb4⟩; obtain ⟨x4, rfl⟩ := ext_of_grow hb4; clear hb4))
    | (go_at_call 18; ((with_reducible refine (law45_borrow _).mono ?_); rintro e w6 ⟨rfl, hb6⟩; obtain ⟨x6, rfl⟩ := ext_of_grow hb6; clear hb6))
    | (go_at_call 19; ((with_reducible refine (HB.out _ (hw.grow (by (repeat (first | (with_reducible exact Grow.refl _) | assumption | refine Grow.ext ?_ _ | refine Grow.alloc ?_ _ | refine Grow.drew ?_ | refine Grow.setCell ?_ (by first | (simp; done) | (simp; omega)) _ | refine Grow.trans ?_ (by assumption)))))).mono ?_); rintro e w7 ⟨rfl, hb7⟩; obtain ⟨x7, rfl⟩ := ext_of_grow hb7; clear hb7))
    | (go_at_call 19; ((with_reducible refine (HA.out _ _ _ _ _ (hxp.mono (by (repeat (first | (with_reducible exact Grow.refl _) | assumption | refine Grow.ext ?_ _ | refine Grow.alloc ?_ _ | refine Grow.drew ?_ | refine Grow.setCell ?_ (by first | (simp; done) | (simp; omega)) _ | refine Grow.trans ?_ (by assumption))))) (hxr.mono (by (repeat (first | (with_reducible exact Grow.refl _) | assumption | refine Grow.ext ?_ _ | refine Grow.alloc ?_ _ | refine Grow.drew ?_ | refine Grow.setCell ?_ (by first | (simp; done) | (simp; omega)) _ | refine Grow.trans ?_ (by assumption))))) (hw.grow (by (repeat (first | (with_reducible exact Grow.refl _) | assumption | refine Grow.ext ?_ _ | refine Grow.alloc ?_ _ | refine Grow.drew ?_ | refine Grow.setCell ?_ (by first | (simp; done) | (simp; omega)) _ | refine Grow.trans ?_ (by assumption)))))).mono ?_); rintro e w5 ⟨rfl, hb5⟩; obtain ⟨x5, rfl⟩ := ext_of_grow hb5; clear hb5)))
  go_ret; exact Ret.bool rfl (by (repeat (first | (with_reducible exact Grow.refl _) | assumption | refine Grow.ext ?_ _ | refine Grow.alloc ?_ _ | refine Grow.drew ?_ | refine Grow.setCell ?_ (by first | (simp; done) | (simp; omega)) _ | refine Grow.trans ?_ (by assumption))))
end Go.Proofs.YtjllaogechckoaaDoor
