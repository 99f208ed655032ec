/- Layer 45: which verdicts are valid, by the reference. -/
import Derived.Test.YtjllaogechckoaaDoorW45b
import Derived.Test.YtjllaogechckoaaDoorL13
namespace Go.Proofs.YtjllaogechckoaaDoor
open Go.RowKit
set_option linter.unusedSimpArgs false
set_option linter.unusedVariables false

set_option maxRecDepth 100000 in
set_option maxHeartbeats 4000000 in
theorem ref42_Check_1 (v : Ve) (pv rv : Value) (w : World) {F F' : Nat → Prop} (hv : v.ok) (hp : Sl F w pv v.prints) (hr : Sl F' w rv v.result) (h1 : v.prints.length ≤ 140737488355328) (h2 : v.result.length ≤ 140737488355328) (hk : v.kind = 1) :
    Calls Tryd.prog 22 #[v.v pv rv] w (Ret w (.int .i64 (opOk (veOk v)))) := by
  obtain ⟨pa, pn, pc, rfl, Hpn, hpm, hpcap, hpcm, hp⟩ := hp.open
  obtain ⟨ra, rn, rc, rfl, Hrn, hrm, hrcap, hrcm, hr⟩ := hr.open
  have hok := Lib.hid hv
  have hpl := plErr_ok hv.pl
  obtain ⟨gb, Hgb⟩ : ∃ g, Hid (veOk v = g) := ⟨_, Lib.hid rfl⟩
  rw [Hgb.out]
  have Hk := Lib.hid hk
  clear hk
  go_enter Tryd.func22, Tryd.ntmps22
  go_upto_region 1 with fail
  generalize v.v (.slice pa pn pc) (.slice ra rn rc) = a0
  go_cut [3] (fun b wc => b = .bool v.ran ∧ wc = (w.alloc (.cells #[.int .u8 v.kind, .int .i64 v.err, .int .i64 v.fn, .int .i64 v.at_, .int .i64 v.loan, .int .i64 v.pl.loc, .bool v.pl.deref, .int .u8 v.pl.field, .bool v.write, .bool v.deep, .int .u8 v.out, .int .i64 v.steps, .slice pa pn pc, .slice ra rn rc] 31)))
  case first =>
    go_wp2_with fail
    all_goals (go_meet; case rel => refine ⟨?_, by first | rfl | (simp_all; done)⟩; congr 1; unfold Ve.ran; have q1 := Hpn.out; have q2 := Hrn.out; simp_all [wrap64]; try (first | omega | (have := List.length_pos_iff.2 (show v.prints ≠ [] by assumption); omega)))
  case rest =>
  obtain ⟨rfl, rfl⟩ := hcut
  go_upto_region 2 with fail
  go_cut [4] (fun b wc => b = .bool (v.fn != 0 || !clZ v) ∧ wc = (w.alloc (.cells #[.int .u8 v.kind, .int .i64 v.err, .int .i64 v.fn, .int .i64 v.at_, .int .i64 v.loan, .int .i64 v.pl.loc, .bool v.pl.deref, .int .u8 v.pl.field, .bool v.write, .bool v.deep, .int .u8 v.out, .int .i64 v.steps, .slice pa pn pc, .slice ra rn rc] 31)))
  case first =>
    go_wp2_with fail
    all_goals (go_meet; case rel => refine ⟨?_, by first | rfl | (simp_all; done)⟩; simp_all)
  case rest =>
  obtain ⟨rfl, rfl⟩ := hcut
  obtain ⟨rb, hrb⟩ : ∃ rb, v.ran = rb := ⟨_, rfl⟩
  obtain ⟨fb, hfb⟩ : ∃ fb, (v.fn != 0 || !clZ v) = fb := ⟨_, rfl⟩
  rw [hrb, hfb]
  have Hrb := Lib.hid hrb
  have Hfb := Lib.hid hfb
  clear hrb hfb
  have hk := Hk.out
  have He : Hid (gb = (decide (1 ≤ v.err ∧ v.err ≤ 99) && !rb && !fb)) := Lib.hid (by rw [← Hgb.out, veOk_of, if_pos (by omega), Hrb.out, Hfb.out])
  cases rb <;> cases fb
  all_goals
    go_upto_block 0 with fail
    go_cut [5, 6] (fun b _ wc => b = .bool gb ∧ Grow (w.alloc (.cells #[.int .u8 v.kind, .int .i64 v.err, .int .i64 v.fn, .int .i64 v.at_, .int .i64 v.loan, .int .i64 v.pl.loc, .bool v.pl.deref, .int .u8 v.pl.field, .bool v.write, .bool v.deep, .int .u8 v.out, .int .i64 v.steps, .slice pa pn pc, .slice ra rn rc] 31)) wc)
    case first =>
      go_wp2_with (fail)
      all_goals (go_meet; case rel => refine ⟨?_, by (try simp only [hk]); first | exact Grow.refl _ | exact Grow.ext (Grow.refl _) _ | exact Grow.alloc (Grow.refl _) _ | exact Grow.ext (Grow.alloc (Grow.refl _) _) _ | (simp_all [Grow.refl]; done) | (refine Grow.ext ?_ _; simp_all [Grow.refl]; done) | (refine Grow.alloc ?_ _; simp_all [Grow.refl]; done) | (refine Grow.ext (Grow.alloc ?_ _) _; simp_all [Grow.refl]; done)⟩; clear hv hok; congr 1; rw [He.out]; clear He Hgb; first | (simp_all; done) | (simp_all; omega) | grind)
    case rest =>
    obtain ⟨rfl, hb⟩ := hcut
    clear He Hgb hpcm
    cases gb
    all_goals (go_wp2_with fail; go_ret; exact Ret.int rfl (by (repeat (first | (with_reducible exact Grow.refl _) | assumption | refine Grow.ext ?_ _ | refine Grow.alloc ?_ _ | refine Grow.drew ?_ | refine Grow.setCell ?_ (by first | (simp; done) | (simp; omega)) _ | refine Grow.trans ?_ (by assumption)))))
set_option maxRecDepth 100000 in
set_option maxHeartbeats 4000000 in
theorem ref42_Check_2 (v : Ve) (pv rv : Value) (w : World) {F F' : Nat → Prop} (hv : v.ok) (hp : Sl F w pv v.prints) (hr : Sl F' w rv v.result) (h1 : v.prints.length ≤ 140737488355328) (h2 : v.result.length ≤ 140737488355328) (hk : v.kind = 2) :
    Calls Tryd.prog 22 #[v.v pv rv] w (Ret w (.int .i64 (opOk (veOk v)))) := by
  obtain ⟨pa, pn, pc, rfl, Hpn, hpm, hpcap, hpcm, hp⟩ := hp.open
  obtain ⟨ra, rn, rc, rfl, Hrn, hrm, hrcap, hrcm, hr⟩ := hr.open
  have hok := Lib.hid hv
  have hpl := plErr_ok hv.pl
  obtain ⟨gb, Hgb⟩ : ∃ g, Hid (veOk v = g) := ⟨_, Lib.hid rfl⟩
  rw [Hgb.out]
  have Hk := Lib.hid hk
  clear hk
  go_enter Tryd.func22, Tryd.ntmps22
  go_upto_region 1 with fail
  generalize v.v (.slice pa pn pc) (.slice ra rn rc) = a0
  go_cut [3] (fun b wc => b = .bool v.ran ∧ wc = (w.alloc (.cells #[.int .u8 v.kind, .int .i64 v.err, .int .i64 v.fn, .int .i64 v.at_, .int .i64 v.loan, .int .i64 v.pl.loc, .bool v.pl.deref, .int .u8 v.pl.field, .bool v.write, .bool v.deep, .int .u8 v.out, .int .i64 v.steps, .slice pa pn pc, .slice ra rn rc] 31)))
  case first =>
    go_wp2_with fail
    all_goals (go_meet; case rel => refine ⟨?_, by first | rfl | (simp_all; done)⟩; congr 1; unfold Ve.ran; have q1 := Hpn.out; have q2 := Hrn.out; simp_all [wrap64]; try (first | omega | (have := List.length_pos_iff.2 (show v.prints ≠ [] by assumption); omega)))
  case rest =>
  obtain ⟨rfl, rfl⟩ := hcut
  go_upto_region 2 with fail
  go_cut [4] (fun b wc => b = .bool (v.fn != 0 || !clZ v) ∧ wc = (w.alloc (.cells #[.int .u8 v.kind, .int .i64 v.err, .int .i64 v.fn, .int .i64 v.at_, .int .i64 v.loan, .int .i64 v.pl.loc, .bool v.pl.deref, .int .u8 v.pl.field, .bool v.write, .bool v.deep, .int .u8 v.out, .int .i64 v.steps, .slice pa pn pc, .slice ra rn rc] 31)))
  case first =>
    go_wp2_with fail
    all_goals (go_meet; case rel => refine ⟨?_, by first | rfl | (simp_all; done)⟩; simp_all)
  case rest =>
  obtain ⟨rfl, rfl⟩ := hcut
  obtain ⟨rb, hrb⟩ : ∃ rb, v.ran = rb := ⟨_, rfl⟩
  obtain ⟨fb, hfb⟩ : ∃ fb, (v.fn != 0 || !clZ v) = fb := ⟨_, rfl⟩
  rw [hrb, hfb]
  have Hrb := Lib.hid hrb
  have Hfb := Lib.hid hfb
  clear hrb hfb
  have hk := Hk.out
  have He : Hid (gb = (decide (1 ≤ v.err ∧ v.err ≤ 99) && !rb && !fb)) := Lib.hid (by rw [← Hgb.out, veOk_of, if_pos (by omega), Hrb.out, Hfb.out])
  cases rb <;> cases fb
  all_goals
    go_upto_block 0 with fail
    go_cut [5, 6] (fun b _ wc => b = .bool gb ∧ Grow (w.alloc (.cells #[.int .u8 v.kind, .int .i64 v.err, .int .i64 v.fn, .int .i64 v.at_, .int .i64 v.loan, .int .i64 v.pl.loc, .bool v.pl.deref, .int .u8 v.pl.field, .bool v.write, .bool v.deep, .int .u8 v.out, .int .i64 v.steps, .slice pa pn pc, .slice ra rn rc] 31)) wc)
    case first =>
      go_wp2_with (fail)
      all_goals (go_meet; case rel => refine ⟨?_, by (try simp only [hk]); first | exact Grow.refl _ | exact Grow.ext (Grow.refl _) _ | exact Grow.alloc (Grow.refl _) _ | exact Grow.ext (Grow.alloc (Grow.refl _) _) _ | (simp_all [Grow.refl]; done) | (refine Grow.ext ?_ _; simp_all [Grow.refl]; done) | (refine Grow.alloc ?_ _; simp_all [Grow.refl]; done) | (refine Grow.ext (Grow.alloc ?_ _) _; simp_all [Grow.refl]; done)⟩; clear hv hok; congr 1; rw [He.out]; clear He Hgb; first | (simp_all; done) | (simp_all; omega) | grind)
    case rest =>
    obtain ⟨rfl, hb⟩ := hcut
    clear He Hgb hpcm
    cases gb
    all_goals (go_wp2_with fail; go_ret; exact Ret.int rfl (by (repeat (first | (with_reducible exact Grow.refl _) | assumption | refine Grow.ext ?_ _ | refine Grow.alloc ?_ _ | refine Grow.drew ?_ | refine Grow.setCell ?_ (by first | (simp; done) | (simp; omega)) _ | refine Grow.trans ?_ (by assumption)))))
set_option maxRecDepth 100000 in
set_option maxHeartbeats 4000000 in
theorem ref42_Check_30 (v : Ve) (pv rv : Value) (w : World) {F F' : Nat → Prop} (hv : v.ok) (hp : Sl F w pv v.prints) (hr : Sl F' w rv v.result) (h1 : v.prints.length ≤ 140737488355328) (h2 : v.result.length ≤ 140737488355328) (hk : v.kind = 3) (hrb0 : v.ran = false) (hfb0 : (v.fn != 0 || !clZ v) = false) :
    Calls Tryd.prog 22 #[v.v pv rv] w (Ret w (.int .i64 (opOk (veOk v)))) := by
  obtain ⟨pa, pn, pc, rfl, Hpn, hpm, hpcap, hpcm, hp⟩ := hp.open
  obtain ⟨ra, rn, rc, rfl, Hrn, hrm, hrcap, hrcm, hr⟩ := hr.open
  have hok := Lib.hid hv
  have hpl := plErr_ok hv.pl
  obtain ⟨gb, Hgb⟩ : ∃ g, Hid (veOk v = g) := ⟨_, Lib.hid rfl⟩
  rw [Hgb.out]
  have Hk := Lib.hid hk
  clear hk
  have Hrb0 := Lib.hid hrb0
  have Hfb0 := Lib.hid hfb0
  clear hrb0 hfb0
  go_enter Tryd.func22, Tryd.ntmps22
  go_upto_region 1 with fail
  generalize v.v (.slice pa pn pc) (.slice ra rn rc) = a0
  go_cut [3] (fun b wc => b = .bool v.ran ∧ wc = (w.alloc (.cells #[.int .u8 v.kind, .int .i64 v.err, .int .i64 v.fn, .int .i64 v.at_, .int .i64 v.loan, .int .i64 v.pl.loc, .bool v.pl.deref, .int .u8 v.pl.field, .bool v.write, .bool v.deep, .int .u8 v.out, .int .i64 v.steps, .slice pa pn pc, .slice ra rn rc] 31)))
  case first =>
    go_wp2_with fail
    all_goals (go_meet; case rel => refine ⟨?_, by first | rfl | (simp_all; done)⟩; congr 1; unfold Ve.ran; have q1 := Hpn.out; have q2 := Hrn.out; simp_all [wrap64]; try (first | omega | (have := List.length_pos_iff.2 (show v.prints ≠ [] by assumption); omega)))
  case rest =>
  obtain ⟨rfl, rfl⟩ := hcut
  go_upto_region 2 with fail
  go_cut [4] (fun b wc => b = .bool (v.fn != 0 || !clZ v) ∧ wc = (w.alloc (.cells #[.int .u8 v.kind, .int .i64 v.err, .int .i64 v.fn, .int .i64 v.at_, .int .i64 v.loan, .int .i64 v.pl.loc, .bool v.pl.deref, .int .u8 v.pl.field, .bool v.write, .bool v.deep, .int .u8 v.out, .int .i64 v.steps, .slice pa pn pc, .slice ra rn rc] 31)))
  case first =>
    go_wp2_with fail
    all_goals (go_meet; case rel => refine ⟨?_, by first | rfl | (simp_all; done)⟩; simp_all)
  case rest =>
  obtain ⟨rfl, rfl⟩ := hcut
  obtain ⟨rb, hrb⟩ : ∃ rb, v.ran = rb := ⟨_, rfl⟩
  obtain ⟨fb, hfb⟩ : ∃ fb, (v.fn != 0 || !clZ v) = fb := ⟨_, rfl⟩
  rw [hrb, hfb]
  have Hrb := Lib.hid hrb
  have Hfb := Lib.hid hfb
  clear hrb hfb
  have hk := Hk.out
  have He : Hid (gb = (decide (v.err = 48) && !rb && decide (0 ≤ v.fn ∧ v.fn < 8 ∧ 0 ≤ v.at_ ∧ 0 ≤ v.loan) && plOk v.pl)) := Lib.hid (by rw [← Hgb.out, veOk_of, if_neg (by omega), if_pos (by omega), Hrb.out])
  have hplz : (plErr v.pl == 0) = plOk v.pl := by rw [hpl]; cases plOk v.pl <;> rfl
  obtain rfl : rb = false := by rw [← Hrb.out, Hrb0.out]
  obtain rfl : fb = false := by rw [← Hfb.out, Hfb0.out]
  all_goals
    go_upto_block 0 with fail
    go_cut [5, 6] (fun b _ wc => b = .bool gb ∧ Grow (w.alloc (.cells #[.int .u8 v.kind, .int .i64 v.err, .int .i64 v.fn, .int .i64 v.at_, .int .i64 v.loan, .int .i64 v.pl.loc, .bool v.pl.deref, .int .u8 v.pl.field, .bool v.write, .bool v.deep, .int .u8 v.out, .int .i64 v.steps, .slice pa pn pc, .slice ra rn rc] 31)) wc)
    case first =>
      go_wp2_with (first | (go_at_call 34; ((with_reducible refine (ref03_Check v.pl _).mono ?_); rintro e w1 ⟨rfl, hb1⟩; obtain ⟨x1, rfl⟩ := ext_of_grow hb1; clear hb1)))
      all_goals (go_meet; case rel => refine ⟨?_, by (try simp only [hk]); first | exact Grow.refl _ | exact Grow.ext (Grow.refl _) _ | exact Grow.alloc (Grow.refl _) _ | exact Grow.ext (Grow.alloc (Grow.refl _) _) _ | (simp_all [Grow.refl]; done) | (refine Grow.ext ?_ _; simp_all [Grow.refl]; done) | (refine Grow.alloc ?_ _; simp_all [Grow.refl]; done) | (refine Grow.ext (Grow.alloc ?_ _) _; simp_all [Grow.refl]; done)⟩; clear hv hok; congr 1; rw [He.out]; clear He Hgb; first | (simp_all; done) | (simp_all; omega) | grind)
    case rest =>
    obtain ⟨rfl, hb⟩ := hcut
    clear He Hgb hpcm
    cases gb
    all_goals (go_wp2_with fail; go_ret; exact Ret.int rfl (by (repeat (first | (with_reducible exact Grow.refl _) | assumption | refine Grow.ext ?_ _ | refine Grow.alloc ?_ _ | refine Grow.drew ?_ | refine Grow.setCell ?_ (by first | (simp; done) | (simp; omega)) _ | refine Grow.trans ?_ (by assumption)))))
set_option maxRecDepth 100000 in
set_option maxHeartbeats 4000000 in
theorem ref42_Check_31 (v : Ve) (pv rv : Value) (w : World) {F F' : Nat → Prop} (hv : v.ok) (hp : Sl F w pv v.prints) (hr : Sl F' w rv v.result) (h1 : v.prints.length ≤ 140737488355328) (h2 : v.result.length ≤ 140737488355328) (hk : v.kind = 3) (hrb0 : v.ran = false) (hfb0 : (v.fn != 0 || !clZ v) = true) :
    Calls Tryd.prog 22 #[v.v pv rv] w (Ret w (.int .i64 (opOk (veOk v)))) := by
  obtain ⟨pa, pn, pc, rfl, Hpn, hpm, hpcap, hpcm, hp⟩ := hp.open
  obtain ⟨ra, rn, rc, rfl, Hrn, hrm, hrcap, hrcm, hr⟩ := hr.open
  have hok := Lib.hid hv
  have hpl := plErr_ok hv.pl
  obtain ⟨gb, Hgb⟩ : ∃ g, Hid (veOk v = g) := ⟨_, Lib.hid rfl⟩
  rw [Hgb.out]
  have Hk := Lib.hid hk
  clear hk
  have Hrb0 := Lib.hid hrb0
  have Hfb0 := Lib.hid hfb0
  clear hrb0 hfb0
  go_enter Tryd.func22, Tryd.ntmps22
  go_upto_region 1 with fail
  generalize v.v (.slice pa pn pc) (.slice ra rn rc) = a0
  go_cut [3] (fun b wc => b = .bool v.ran ∧ wc = (w.alloc (.cells #[.int .u8 v.kind, .int .i64 v.err, .int .i64 v.fn, .int .i64 v.at_, .int .i64 v.loan, .int .i64 v.pl.loc, .bool v.pl.deref, .int .u8 v.pl.field, .bool v.write, .bool v.deep, .int .u8 v.out, .int .i64 v.steps, .slice pa pn pc, .slice ra rn rc] 31)))
  case first =>
    go_wp2_with fail
    all_goals (go_meet; case rel => refine ⟨?_, by first | rfl | (simp_all; done)⟩; congr 1; unfold Ve.ran; have q1 := Hpn.out; have q2 := Hrn.out; simp_all [wrap64]; try (first | omega | (have := List.length_pos_iff.2 (show v.prints ≠ [] by assumption); omega)))
  case rest =>
  obtain ⟨rfl, rfl⟩ := hcut
  go_upto_region 2 with fail
  go_cut [4] (fun b wc => b = .bool (v.fn != 0 || !clZ v) ∧ wc = (w.alloc (.cells #[.int .u8 v.kind, .int .i64 v.err, .int .i64 v.fn, .int .i64 v.at_, .int .i64 v.loan, .int .i64 v.pl.loc, .bool v.pl.deref, .int .u8 v.pl.field, .bool v.write, .bool v.deep, .int .u8 v.out, .int .i64 v.steps, .slice pa pn pc, .slice ra rn rc] 31)))
  case first =>
    go_wp2_with fail
    all_goals (go_meet; case rel => refine ⟨?_, by first | rfl | (simp_all; done)⟩; simp_all)
  case rest =>
  obtain ⟨rfl, rfl⟩ := hcut
  obtain ⟨rb, hrb⟩ : ∃ rb, v.ran = rb := ⟨_, rfl⟩
  obtain ⟨fb, hfb⟩ : ∃ fb, (v.fn != 0 || !clZ v) = fb := ⟨_, rfl⟩
  rw [hrb, hfb]
  have Hrb := Lib.hid hrb
  have Hfb := Lib.hid hfb
  clear hrb hfb
  have hk := Hk.out
  have He : Hid (gb = (decide (v.err = 48) && !rb && decide (0 ≤ v.fn ∧ v.fn < 8 ∧ 0 ≤ v.at_ ∧ 0 ≤ v.loan) && plOk v.pl)) := Lib.hid (by rw [← Hgb.out, veOk_of, if_neg (by omega), if_pos (by omega), Hrb.out])
  have hplz : (plErr v.pl == 0) = plOk v.pl := by rw [hpl]; cases plOk v.pl <;> rfl
  obtain rfl : rb = false := by rw [← Hrb.out, Hrb0.out]
  obtain rfl : fb = true := by rw [← Hfb.out, Hfb0.out]
  all_goals
    go_upto_block 0 with fail
    go_cut [5, 6] (fun b _ wc => b = .bool gb ∧ Grow (w.alloc (.cells #[.int .u8 v.kind, .int .i64 v.err, .int .i64 v.fn, .int .i64 v.at_, .int .i64 v.loan, .int .i64 v.pl.loc, .bool v.pl.deref, .int .u8 v.pl.field, .bool v.write, .bool v.deep, .int .u8 v.out, .int .i64 v.steps, .slice pa pn pc, .slice ra rn rc] 31)) wc)
    case first =>
      go_wp2_with (first | (go_at_call 34; ((with_reducible refine (ref03_Check v.pl _).mono ?_); rintro e w1 ⟨rfl, hb1⟩; obtain ⟨x1, rfl⟩ := ext_of_grow hb1; clear hb1)))
      all_goals (go_meet; case rel => refine ⟨?_, by (try simp only [hk]); first | exact Grow.refl _ | exact Grow.ext (Grow.refl _) _ | exact Grow.alloc (Grow.refl _) _ | exact Grow.ext (Grow.alloc (Grow.refl _) _) _ | (simp_all [Grow.refl]; done) | (refine Grow.ext ?_ _; simp_all [Grow.refl]; done) | (refine Grow.alloc ?_ _; simp_all [Grow.refl]; done) | (refine Grow.ext (Grow.alloc ?_ _) _; simp_all [Grow.refl]; done)⟩; clear hv hok; congr 1; rw [He.out]; clear He Hgb; first | (simp_all; done) | (simp_all; omega) | grind)
    case rest =>
    obtain ⟨rfl, hb⟩ := hcut
    clear He Hgb hpcm
    cases gb
    all_goals (go_wp2_with fail; go_ret; exact Ret.int rfl (by (repeat (first | (with_reducible exact Grow.refl _) | assumption | refine Grow.ext ?_ _ | refine Grow.alloc ?_ _ | refine Grow.drew ?_ | refine Grow.setCell ?_ (by first | (simp; done) | (simp; omega)) _ | refine Grow.trans ?_ (by assumption)))))
set_option maxRecDepth 100000 in
set_option maxHeartbeats 4000000 in
theorem ref42_Check_32 (v : Ve) (pv rv : Value) (w : World) {F F' : Nat → Prop} (hv : v.ok) (hp : Sl F w pv v.prints) (hr : Sl F' w rv v.result) (h1 : v.prints.length ≤ 140737488355328) (h2 : v.result.length ≤ 140737488355328) (hk : v.kind = 3) (hrb0 : v.ran = true) (hfb0 : (v.fn != 0 || !clZ v) = false) :
    Calls Tryd.prog 22 #[v.v pv rv] w (Ret w (.int .i64 (opOk (veOk v)))) := by
  obtain ⟨pa, pn, pc, rfl, Hpn, hpm, hpcap, hpcm, hp⟩ := hp.open
  obtain ⟨ra, rn, rc, rfl, Hrn, hrm, hrcap, hrcm, hr⟩ := hr.open
  have hok := Lib.hid hv
  have hpl := plErr_ok hv.pl
  obtain ⟨gb, Hgb⟩ : ∃ g, Hid (veOk v = g) := ⟨_, Lib.hid rfl⟩
  rw [Hgb.out]
  have Hk := Lib.hid hk
  clear hk
  have Hrb0 := Lib.hid hrb0
  have Hfb0 := Lib.hid hfb0
  clear hrb0 hfb0
  go_enter Tryd.func22, Tryd.ntmps22
  go_upto_region 1 with fail
  generalize v.v (.slice pa pn pc) (.slice ra rn rc) = a0
  go_cut [3] (fun b wc => b = .bool v.ran ∧ wc = (w.alloc (.cells #[.int .u8 v.kind, .int .i64 v.err, .int .i64 v.fn, .int .i64 v.at_, .int .i64 v.loan, .int .i64 v.pl.loc, .bool v.pl.deref, .int .u8 v.pl.field, .bool v.write, .bool v.deep, .int .u8 v.out, .int .i64 v.steps, .slice pa pn pc, .slice ra rn rc] 31)))
  case first =>
    go_wp2_with fail
    all_goals (go_meet; case rel => refine ⟨?_, by first | rfl | (simp_all; done)⟩; congr 1; unfold Ve.ran; have q1 := Hpn.out; have q2 := Hrn.out; simp_all [wrap64]; try (first | omega | (have := List.length_pos_iff.2 (show v.prints ≠ [] by assumption); omega)))
  case rest =>
  obtain ⟨rfl, rfl⟩ := hcut
  go_upto_region 2 with fail
  go_cut [4] (fun b wc => b = .bool (v.fn != 0 || !clZ v) ∧ wc = (w.alloc (.cells #[.int .u8 v.kind, .int .i64 v.err, .int .i64 v.fn, .int .i64 v.at_, .int .i64 v.loan, .int .i64 v.pl.loc, .bool v.pl.deref, .int .u8 v.pl.field, .bool v.write, .bool v.deep, .int .u8 v.out, .int .i64 v.steps, .slice pa pn pc, .slice ra rn rc] 31)))
  case first =>
    go_wp2_with fail
    all_goals (go_meet; case rel => refine ⟨?_, by first | rfl | (simp_all; done)⟩; simp_all)
  case rest =>
  obtain ⟨rfl, rfl⟩ := hcut
  obtain ⟨rb, hrb⟩ : ∃ rb, v.ran = rb := ⟨_, rfl⟩
  obtain ⟨fb, hfb⟩ : ∃ fb, (v.fn != 0 || !clZ v) = fb := ⟨_, rfl⟩
  rw [hrb, hfb]
  have Hrb := Lib.hid hrb
  have Hfb := Lib.hid hfb
  clear hrb hfb
  have hk := Hk.out
  have He : Hid (gb = (decide (v.err = 48) && !rb && decide (0 ≤ v.fn ∧ v.fn < 8 ∧ 0 ≤ v.at_ ∧ 0 ≤ v.loan) && plOk v.pl)) := Lib.hid (by rw [← Hgb.out, veOk_of, if_neg (by omega), if_pos (by omega), Hrb.out])
  have hplz : (plErr v.pl == 0) = plOk v.pl := by rw [hpl]; cases plOk v.pl <;> rfl
  obtain rfl : rb = true := by rw [← Hrb.out, Hrb0.out]
  obtain rfl : fb = false := by rw [← Hfb.out, Hfb0.out]
  all_goals
    go_upto_block 0 with fail
    go_cut [5, 6] (fun b _ wc => b = .bool gb ∧ Grow (w.alloc (.cells #[.int .u8 v.kind, .int .i64 v.err, .int .i64 v.fn, .int .i64 v.at_, .int .i64 v.loan, .int .i64 v.pl.loc, .bool v.pl.deref, .int .u8 v.pl.field, .bool v.write, .bool v.deep, .int .u8 v.out, .int .i64 v.steps, .slice pa pn pc, .slice ra rn rc] 31)) wc)
    case first =>
      go_wp2_with (first | (go_at_call 34; ((with_reducible refine (ref03_Check v.pl _).mono ?_); rintro e w1 ⟨rfl, hb1⟩; obtain ⟨x1, rfl⟩ := ext_of_grow hb1; clear hb1)))
      all_goals (go_meet; case rel => refine ⟨?_, by (try simp only [hk]); first | exact Grow.refl _ | exact Grow.ext (Grow.refl _) _ | exact Grow.alloc (Grow.refl _) _ | exact Grow.ext (Grow.alloc (Grow.refl _) _) _ | (simp_all [Grow.refl]; done) | (refine Grow.ext ?_ _; simp_all [Grow.refl]; done) | (refine Grow.alloc ?_ _; simp_all [Grow.refl]; done) | (refine Grow.ext (Grow.alloc ?_ _) _; simp_all [Grow.refl]; done)⟩; clear hv hok; congr 1; rw [He.out]; clear He Hgb; first | (simp_all; done) | (simp_all; omega) | grind)
    case rest =>
    obtain ⟨rfl, hb⟩ := hcut
    clear He Hgb hpcm
    cases gb
    all_goals (go_wp2_with fail; go_ret; exact Ret.int rfl (by (repeat (first | (with_reducible exact Grow.refl _) | assumption | refine Grow.ext ?_ _ | refine Grow.alloc ?_ _ | refine Grow.drew ?_ | refine Grow.setCell ?_ (by first | (simp; done) | (simp; omega)) _ | refine Grow.trans ?_ (by assumption)))))
set_option maxRecDepth 100000 in
set_option maxHeartbeats 4000000 in
theorem ref42_Check_33 (v : Ve) (pv rv : Value) (w : World) {F F' : Nat → Prop} (hv : v.ok) (hp : Sl F w pv v.prints) (hr : Sl F' w rv v.result) (h1 : v.prints.length ≤ 140737488355328) (h2 : v.result.length ≤ 140737488355328) (hk : v.kind = 3) (hrb0 : v.ran = true) (hfb0 : (v.fn != 0 || !clZ v) = true) :
    Calls Tryd.prog 22 #[v.v pv rv] w (Ret w (.int .i64 (opOk (veOk v)))) := by
  obtain ⟨pa, pn, pc, rfl, Hpn, hpm, hpcap, hpcm, hp⟩ := hp.open
  obtain ⟨ra, rn, rc, rfl, Hrn, hrm, hrcap, hrcm, hr⟩ := hr.open
  have hok := Lib.hid hv
  have hpl := plErr_ok hv.pl
  obtain ⟨gb, Hgb⟩ : ∃ g, Hid (veOk v = g) := ⟨_, Lib.hid rfl⟩
  rw [Hgb.out]
  have Hk := Lib.hid hk
  clear hk
  have Hrb0 := Lib.hid hrb0
  have Hfb0 := Lib.hid hfb0
  clear hrb0 hfb0
  go_enter Tryd.func22, Tryd.ntmps22
  go_upto_region 1 with fail
  generalize v.v (.slice pa pn pc) (.slice ra rn rc) = a0
  go_cut [3] (fun b wc => b = .bool v.ran ∧ wc = (w.alloc (.cells #[.int .u8 v.kind, .int .i64 v.err, .int .i64 v.fn, .int .i64 v.at_, .int .i64 v.loan, .int .i64 v.pl.loc, .bool v.pl.deref, .int .u8 v.pl.field, .bool v.write, .bool v.deep, .int .u8 v.out, .int .i64 v.steps, .slice pa pn pc, .slice ra rn rc] 31)))
  case first =>
    go_wp2_with fail
    all_goals (go_meet; case rel => refine ⟨?_, by first | rfl | (simp_all; done)⟩; congr 1; unfold Ve.ran; have q1 := Hpn.out; have q2 := Hrn.out; simp_all [wrap64]; try (first | omega | (have := List.length_pos_iff.2 (show v.prints ≠ [] by assumption); omega)))
  case rest =>
  obtain ⟨rfl, rfl⟩ := hcut
  go_upto_region 2 with fail
  go_cut [4] (fun b wc => b = .bool (v.fn != 0 || !clZ v) ∧ wc = (w.alloc (.cells #[.int .u8 v.kind, .int .i64 v.err, .int .i64 v.fn, .int .i64 v.at_, .int .i64 v.loan, .int .i64 v.pl.loc, .bool v.pl.deref, .int .u8 v.pl.field, .bool v.write, .bool v.deep, .int .u8 v.out, .int .i64 v.steps, .slice pa pn pc, .slice ra rn rc] 31)))
  case first =>
    go_wp2_with fail
    all_goals (go_meet; case rel => refine ⟨?_, by first | rfl | (simp_all; done)⟩; simp_all)
  case rest =>
  obtain ⟨rfl, rfl⟩ := hcut
  obtain ⟨rb, hrb⟩ : ∃ rb, v.ran = rb := ⟨_, rfl⟩
  obtain ⟨fb, hfb⟩ : ∃ fb, (v.fn != 0 || !clZ v) = fb := ⟨_, rfl⟩
  rw [hrb, hfb]
  have Hrb := Lib.hid hrb
  have Hfb := Lib.hid hfb
  clear hrb hfb
  have hk := Hk.out
  have He : Hid (gb = (decide (v.err = 48) && !rb && decide (0 ≤ v.fn ∧ v.fn < 8 ∧ 0 ≤ v.at_ ∧ 0 ≤ v.loan) && plOk v.pl)) := Lib.hid (by rw [← Hgb.out, veOk_of, if_neg (by omega), if_pos (by omega), Hrb.out])
  have hplz : (plErr v.pl == 0) = plOk v.pl := by rw [hpl]; cases plOk v.pl <;> rfl
  obtain rfl : rb = true := by rw [← Hrb.out, Hrb0.out]
  obtain rfl : fb = true := by rw [← Hfb.out, Hfb0.out]
  all_goals
    go_upto_block 0 with fail
    go_cut [5, 6] (fun b _ wc => b = .bool gb ∧ Grow (w.alloc (.cells #[.int .u8 v.kind, .int .i64 v.err, .int .i64 v.fn, .int .i64 v.at_, .int .i64 v.loan, .int .i64 v.pl.loc, .bool v.pl.deref, .int .u8 v.pl.field, .bool v.write, .bool v.deep, .int .u8 v.out, .int .i64 v.steps, .slice pa pn pc, .slice ra rn rc] 31)) wc)
    case first =>
      go_wp2_with (first | (go_at_call 34; ((with_reducible refine (ref03_Check v.pl _).mono ?_); rintro e w1 ⟨rfl, hb1⟩; obtain ⟨x1, rfl⟩ := ext_of_grow hb1; clear hb1)))
      all_goals (go_meet; case rel => refine ⟨?_, by (try simp only [hk]); first | exact Grow.refl _ | exact Grow.ext (Grow.refl _) _ | exact Grow.alloc (Grow.refl _) _ | exact Grow.ext (Grow.alloc (Grow.refl _) _) _ | (simp_all [Grow.refl]; done) | (refine Grow.ext ?_ _; simp_all [Grow.refl]; done) | (refine Grow.alloc ?_ _; simp_all [Grow.refl]; done) | (refine Grow.ext (Grow.alloc ?_ _) _; simp_all [Grow.refl]; done)⟩; clear hv hok; congr 1; rw [He.out]; clear He Hgb; first | (simp_all; done) | (simp_all; omega) | grind)
    case rest =>
    obtain ⟨rfl, hb⟩ := hcut
    clear He Hgb hpcm
    cases gb
    all_goals (go_wp2_with fail; go_ret; exact Ret.int rfl (by (repeat (first | (with_reducible exact Grow.refl _) | assumption | refine Grow.ext ?_ _ | refine Grow.alloc ?_ _ | refine Grow.drew ?_ | refine Grow.setCell ?_ (by first | (simp; done) | (simp; omega)) _ | refine Grow.trans ?_ (by assumption)))))
theorem ref42_Check_3 (v : Ve) (pv rv : Value) (w : World) {F F' : Nat → Prop} (hv : v.ok) (hp : Sl F w pv v.prints) (hr : Sl F' w rv v.result) (h1 : v.prints.length ≤ 140737488355328) (h2 : v.result.length ≤ 140737488355328) (hk : v.kind = 3) :
    Calls Tryd.prog 22 #[v.v pv rv] w (Ret w (.int .i64 (opOk (veOk v)))) := by
  cases hrb : v.ran
  all_goals cases hfb : (v.fn != 0 || !clZ v)
  · exact ref42_Check_30 v pv rv w hv hp hr h1 h2 hk hrb hfb
  · exact ref42_Check_31 v pv rv w hv hp hr h1 h2 hk hrb hfb
  · exact ref42_Check_32 v pv rv w hv hp hr h1 h2 hk hrb hfb
  · exact ref42_Check_33 v pv rv w hv hp hr h1 h2 hk hrb hfb
set_option maxRecDepth 100000 in
set_option maxHeartbeats 4000000 in
theorem ref42_Check_4 (v : Ve) (pv rv : Value) (w : World) {F F' : Nat → Prop} (hv : v.ok) (hp : Sl F w pv v.prints) (hr : Sl F' w rv v.result) (h1 : v.prints.length ≤ 140737488355328) (h2 : v.result.length ≤ 140737488355328) (hk : v.kind = 4) :
    Calls Tryd.prog 22 #[v.v pv rv] w (Ret w (.int .i64 (opOk (veOk v)))) := by
  obtain ⟨pa, pn, pc, rfl, Hpn, hpm, hpcap, hpcm, hp⟩ := hp.open
  obtain ⟨ra, rn, rc, rfl, Hrn, hrm, hrcap, hrcm, hr⟩ := hr.open
  have hok := Lib.hid hv
  have hpl := plErr_ok hv.pl
  obtain ⟨gb, Hgb⟩ : ∃ g, Hid (veOk v = g) := ⟨_, Lib.hid rfl⟩
  rw [Hgb.out]
  have Hk := Lib.hid hk
  clear hk
  go_enter Tryd.func22, Tryd.ntmps22
  go_upto_region 1 with fail
  generalize v.v (.slice pa pn pc) (.slice ra rn rc) = a0
  go_cut [3] (fun b wc => b = .bool v.ran ∧ wc = (w.alloc (.cells #[.int .u8 v.kind, .int .i64 v.err, .int .i64 v.fn, .int .i64 v.at_, .int .i64 v.loan, .int .i64 v.pl.loc, .bool v.pl.deref, .int .u8 v.pl.field, .bool v.write, .bool v.deep, .int .u8 v.out, .int .i64 v.steps, .slice pa pn pc, .slice ra rn rc] 31)))
  case first =>
    go_wp2_with fail
    all_goals (go_meet; case rel => refine ⟨?_, by first | rfl | (simp_all; done)⟩; congr 1; unfold Ve.ran; have q1 := Hpn.out; have q2 := Hrn.out; simp_all [wrap64]; try (first | omega | (have := List.length_pos_iff.2 (show v.prints ≠ [] by assumption); omega)))
  case rest =>
  obtain ⟨rfl, rfl⟩ := hcut
  go_upto_region 2 with fail
  go_cut [4] (fun b wc => b = .bool (v.fn != 0 || !clZ v) ∧ wc = (w.alloc (.cells #[.int .u8 v.kind, .int .i64 v.err, .int .i64 v.fn, .int .i64 v.at_, .int .i64 v.loan, .int .i64 v.pl.loc, .bool v.pl.deref, .int .u8 v.pl.field, .bool v.write, .bool v.deep, .int .u8 v.out, .int .i64 v.steps, .slice pa pn pc, .slice ra rn rc] 31)))
  case first =>
    go_wp2_with fail
    all_goals (go_meet; case rel => refine ⟨?_, by first | rfl | (simp_all; done)⟩; simp_all)
  case rest =>
  obtain ⟨rfl, rfl⟩ := hcut
  obtain ⟨rb, hrb⟩ : ∃ rb, v.ran = rb := ⟨_, rfl⟩
  obtain ⟨fb, hfb⟩ : ∃ fb, (v.fn != 0 || !clZ v) = fb := ⟨_, rfl⟩
  rw [hrb, hfb]
  have Hrb := Lib.hid hrb
  have Hfb := Lib.hid hfb
  clear hrb hfb
  have hk := Hk.out
  have He : Hid (gb = (decide (v.err = 2) && !rb && !fb)) := Lib.hid (by rw [← Hgb.out, veOk_of, if_neg (by omega), if_neg (by omega), if_pos (by omega), Hrb.out, Hfb.out])
  cases rb <;> cases fb
  all_goals
    go_upto_block 0 with fail
    go_cut [5, 6] (fun b _ wc => b = .bool gb ∧ Grow (w.alloc (.cells #[.int .u8 v.kind, .int .i64 v.err, .int .i64 v.fn, .int .i64 v.at_, .int .i64 v.loan, .int .i64 v.pl.loc, .bool v.pl.deref, .int .u8 v.pl.field, .bool v.write, .bool v.deep, .int .u8 v.out, .int .i64 v.steps, .slice pa pn pc, .slice ra rn rc] 31)) wc)
    case first =>
      go_wp2_with (fail)
      all_goals (go_meet; case rel => refine ⟨?_, by (try simp only [hk]); first | exact Grow.refl _ | exact Grow.ext (Grow.refl _) _ | exact Grow.alloc (Grow.refl _) _ | exact Grow.ext (Grow.alloc (Grow.refl _) _) _ | (simp_all [Grow.refl]; done) | (refine Grow.ext ?_ _; simp_all [Grow.refl]; done) | (refine Grow.alloc ?_ _; simp_all [Grow.refl]; done) | (refine Grow.ext (Grow.alloc ?_ _) _; simp_all [Grow.refl]; done)⟩; clear hv hok; congr 1; rw [He.out]; clear He Hgb; first | (simp_all; done) | (simp_all; omega) | grind)
    case rest =>
    obtain ⟨rfl, hb⟩ := hcut
    clear He Hgb hpcm
    cases gb
    all_goals (go_wp2_with fail; go_ret; exact Ret.int rfl (by (repeat (first | (with_reducible exact Grow.refl _) | assumption | refine Grow.ext ?_ _ | refine Grow.alloc ?_ _ | refine Grow.drew ?_ | refine Grow.setCell ?_ (by first | (simp; done) | (simp; omega)) _ | refine Grow.trans ?_ (by assumption)))))
end Go.Proofs.YtjllaogechckoaaDoor
