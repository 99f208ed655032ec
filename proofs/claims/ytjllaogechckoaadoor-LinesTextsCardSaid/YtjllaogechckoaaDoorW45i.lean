/- Layer 45: which verdicts are valid, by the reference. -/
import Derived.Test.YtjllaogechckoaaDoorW45b
import Derived.Test.YtjllaogechckoaaDoorL13
namespace Go.Proofs.YtjllaogechckoaaDoor
open Go.RowKit
set_option linter.unusedSimpArgs false
set_option linter.unusedVariables false

set_option maxRecDepth 100000 in
set_option maxHeartbeats 4000000 in
theorem ref42_Check_50 (v : Ve) (pv rv : Value) (w : World) {F F' : Nat → Prop} (hv : v.ok) (hp : Sl F w pv v.prints) (hr : Sl F' w rv v.result) (h1 : v.prints.length ≤ 140737488355328) (h2 : v.result.length ≤ 140737488355328) (hk : v.kind = 5) (hfb0 : (v.fn != 0 || !clZ v) = false) (hout0 : v.out = 1) :
    Calls Tryd.prog 22 #[v.v pv rv] w (Ret w (.int .i64 (opOk (veOk v)))) := by
  obtain ⟨pa, pn, pc, rfl, Hpn, hpm, hpcap, hpcm, hp⟩ := hp.open
  obtain ⟨ra, rn, rc, rfl, Hrn, hrm, hrcap, hrcm, hr⟩ := hr.open
  have hok := Lib.hid hv
  have hpl := plErr_ok hv.pl
  obtain ⟨gb, Hgb⟩ : ∃ g, Hid (veOk v = g) := ⟨_, Lib.hid rfl⟩
  rw [Hgb.out]
  have Hk := Lib.hid hk
  clear hk
  have Hfb0 := Lib.hid hfb0
  have Hout := Lib.hid hout0
  clear hfb0 hout0
  go_enter Tryd.func22, Tryd.ntmps22
  go_upto_region 1 with fail
  generalize v.v (.slice pa pn pc) (.slice ra rn rc) = a0
  go_cut [3] (fun b wc => b = .bool v.ran ∧ wc = (w.alloc (.cells #[.int .u8 v.kind, .int .i64 v.err, .int .i64 v.fn, .int .i64 v.at_, .int .i64 v.loan, .int .i64 v.pl.loc, .bool v.pl.deref, .int .u8 v.pl.field, .bool v.write, .bool v.deep, .int .u8 v.out, .int .i64 v.steps, .slice pa pn pc, .slice ra rn rc] 31)))
  case first =>
    go_wp2_with fail
    all_goals (go_meet; case rel => refine ⟨?_, by first | rfl | (simp_all; done)⟩; congr 1; unfold Ve.ran; have q1 := Hpn.out; have q2 := Hrn.out; simp_all [wrap64]; try (first | omega | (have := List.length_pos_iff.2 (show v.prints ≠ [] by assumption); omega)))
  case rest =>
  obtain ⟨rfl, rfl⟩ := hcut
  go_upto_region 2 with fail
  go_cut [4] (fun b wc => b = .bool (v.fn != 0 || !clZ v) ∧ wc = (w.alloc (.cells #[.int .u8 v.kind, .int .i64 v.err, .int .i64 v.fn, .int .i64 v.at_, .int .i64 v.loan, .int .i64 v.pl.loc, .bool v.pl.deref, .int .u8 v.pl.field, .bool v.write, .bool v.deep, .int .u8 v.out, .int .i64 v.steps, .slice pa pn pc, .slice ra rn rc] 31)))
  case first =>
    go_wp2_with fail
    all_goals (go_meet; case rel => refine ⟨?_, by first | rfl | (simp_all; done)⟩; simp_all)
  case rest =>
  obtain ⟨rfl, rfl⟩ := hcut
  obtain ⟨rb, hrb⟩ : ∃ rb, v.ran = rb := ⟨_, rfl⟩
  obtain ⟨fb, hfb⟩ : ∃ fb, (v.fn != 0 || !clZ v) = fb := ⟨_, rfl⟩
  rw [hrb, hfb]
  have Hrb := Lib.hid hrb
  have Hfb := Lib.hid hfb
  clear hrb hfb
  have hk := Hk.out
  have He : Hid (gb = (decide (v.err = 0) && !fb && decide (1 ≤ v.out ∧ v.out ≤ 8 ∧ 0 ≤ v.steps ∧ v.steps ≤ 500 ∧ v.prints.length ≤ 200) && (if v.out = 1 then decide (v.result.length = 1 ∨ v.result.length = 2) else decide (v.result.length = 0)))) := Lib.hid (by rw [← Hgb.out, veOk_of, if_neg (by omega), if_neg (by omega), if_neg (by omega), if_pos (by omega), Hfb.out])
  have q1 := Hpn.out
  have q2 := Hrn.out
  rw [← q1, ← q2] at He
  clear q1 q2 Hrb
  have hout := Hout.out
  obtain rfl : fb = false := by rw [← Hfb.out, Hfb0.out]
  all_goals
    go_upto_block 0 with fail
    go_cut [5, 6] (fun b _ wc => b = .bool gb ∧ Grow (w.alloc (.cells #[.int .u8 v.kind, .int .i64 v.err, .int .i64 v.fn, .int .i64 v.at_, .int .i64 v.loan, .int .i64 v.pl.loc, .bool v.pl.deref, .int .u8 v.pl.field, .bool v.write, .bool v.deep, .int .u8 v.out, .int .i64 v.steps, .slice pa pn pc, .slice ra rn rc] 31)) wc)
    case first =>
      go_wp2_with (fail)
      all_goals (go_meet; case rel => refine ⟨?_, by (try simp only [hk]); first | exact Grow.refl _ | exact Grow.ext (Grow.refl _) _ | exact Grow.alloc (Grow.refl _) _ | exact Grow.ext (Grow.alloc (Grow.refl _) _) _ | (simp_all [Grow.refl]; done) | (refine Grow.ext ?_ _; simp_all [Grow.refl]; done) | (refine Grow.alloc ?_ _; simp_all [Grow.refl]; done) | (refine Grow.ext (Grow.alloc ?_ _) _; simp_all [Grow.refl]; done)⟩; clear hv hok; congr 1; rw [He.out]; clear He Hgb; first | (simp_all; done) | (simp_all; omega) | grind)
    case rest =>
    obtain ⟨rfl, hb⟩ := hcut
    clear He Hgb hpcm
    cases gb
    all_goals (go_wp2_with fail; go_ret; exact Ret.int rfl (by (repeat (first | (with_reducible exact Grow.refl _) | assumption | refine Grow.ext ?_ _ | refine Grow.alloc ?_ _ | refine Grow.drew ?_ | refine Grow.setCell ?_ (by first | (simp; done) | (simp; omega)) _ | refine Grow.trans ?_ (by assumption)))))
set_option maxRecDepth 100000 in
set_option maxHeartbeats 4000000 in
theorem ref42_Check_51 (v : Ve) (pv rv : Value) (w : World) {F F' : Nat → Prop} (hv : v.ok) (hp : Sl F w pv v.prints) (hr : Sl F' w rv v.result) (h1 : v.prints.length ≤ 140737488355328) (h2 : v.result.length ≤ 140737488355328) (hk : v.kind = 5) (hfb0 : (v.fn != 0 || !clZ v) = false) (hout0 : v.out ≠ 1) :
    Calls Tryd.prog 22 #[v.v pv rv] w (Ret w (.int .i64 (opOk (veOk v)))) := by
  obtain ⟨pa, pn, pc, rfl, Hpn, hpm, hpcap, hpcm, hp⟩ := hp.open
  obtain ⟨ra, rn, rc, rfl, Hrn, hrm, hrcap, hrcm, hr⟩ := hr.open
  have hok := Lib.hid hv
  have hpl := plErr_ok hv.pl
  obtain ⟨gb, Hgb⟩ : ∃ g, Hid (veOk v = g) := ⟨_, Lib.hid rfl⟩
  rw [Hgb.out]
  have Hk := Lib.hid hk
  clear hk
  have Hfb0 := Lib.hid hfb0
  have Hout := Lib.hid hout0
  clear hfb0 hout0
  go_enter Tryd.func22, Tryd.ntmps22
  go_upto_region 1 with fail
  generalize v.v (.slice pa pn pc) (.slice ra rn rc) = a0
  go_cut [3] (fun b wc => b = .bool v.ran ∧ wc = (w.alloc (.cells #[.int .u8 v.kind, .int .i64 v.err, .int .i64 v.fn, .int .i64 v.at_, .int .i64 v.loan, .int .i64 v.pl.loc, .bool v.pl.deref, .int .u8 v.pl.field, .bool v.write, .bool v.deep, .int .u8 v.out, .int .i64 v.steps, .slice pa pn pc, .slice ra rn rc] 31)))
  case first =>
    go_wp2_with fail
    all_goals (go_meet; case rel => refine ⟨?_, by first | rfl | (simp_all; done)⟩; congr 1; unfold Ve.ran; have q1 := Hpn.out; have q2 := Hrn.out; simp_all [wrap64]; try (first | omega | (have := List.length_pos_iff.2 (show v.prints ≠ [] by assumption); omega)))
  case rest =>
  obtain ⟨rfl, rfl⟩ := hcut
  go_upto_region 2 with fail
  go_cut [4] (fun b wc => b = .bool (v.fn != 0 || !clZ v) ∧ wc = (w.alloc (.cells #[.int .u8 v.kind, .int .i64 v.err, .int .i64 v.fn, .int .i64 v.at_, .int .i64 v.loan, .int .i64 v.pl.loc, .bool v.pl.deref, .int .u8 v.pl.field, .bool v.write, .bool v.deep, .int .u8 v.out, .int .i64 v.steps, .slice pa pn pc, .slice ra rn rc] 31)))
  case first =>
    go_wp2_with fail
    all_goals (go_meet; case rel => refine ⟨?_, by first | rfl | (simp_all; done)⟩; simp_all)
  case rest =>
  obtain ⟨rfl, rfl⟩ := hcut
  obtain ⟨rb, hrb⟩ : ∃ rb, v.ran = rb := ⟨_, rfl⟩
  obtain ⟨fb, hfb⟩ : ∃ fb, (v.fn != 0 || !clZ v) = fb := ⟨_, rfl⟩
  rw [hrb, hfb]
  have Hrb := Lib.hid hrb
  have Hfb := Lib.hid hfb
  clear hrb hfb
  have hk := Hk.out
  have He : Hid (gb = (decide (v.err = 0) && !fb && decide (1 ≤ v.out ∧ v.out ≤ 8 ∧ 0 ≤ v.steps ∧ v.steps ≤ 500 ∧ v.prints.length ≤ 200) && (if v.out = 1 then decide (v.result.length = 1 ∨ v.result.length = 2) else decide (v.result.length = 0)))) := Lib.hid (by rw [← Hgb.out, veOk_of, if_neg (by omega), if_neg (by omega), if_neg (by omega), if_pos (by omega), Hfb.out])
  have q1 := Hpn.out
  have q2 := Hrn.out
  rw [← q1, ← q2] at He
  clear q1 q2 Hrb
  have hout := Hout.out
  obtain rfl : fb = false := by rw [← Hfb.out, Hfb0.out]
  all_goals
    go_upto_block 0 with fail
    go_cut [5, 6] (fun b _ wc => b = .bool gb ∧ Grow (w.alloc (.cells #[.int .u8 v.kind, .int .i64 v.err, .int .i64 v.fn, .int .i64 v.at_, .int .i64 v.loan, .int .i64 v.pl.loc, .bool v.pl.deref, .int .u8 v.pl.field, .bool v.write, .bool v.deep, .int .u8 v.out, .int .i64 v.steps, .slice pa pn pc, .slice ra rn rc] 31)) wc)
    case first =>
      go_wp2_with (fail)
      all_goals (go_meet; case rel => refine ⟨?_, by (try simp only [hk]); first | exact Grow.refl _ | exact Grow.ext (Grow.refl _) _ | exact Grow.alloc (Grow.refl _) _ | exact Grow.ext (Grow.alloc (Grow.refl _) _) _ | (simp_all [Grow.refl]; done) | (refine Grow.ext ?_ _; simp_all [Grow.refl]; done) | (refine Grow.alloc ?_ _; simp_all [Grow.refl]; done) | (refine Grow.ext (Grow.alloc ?_ _) _; simp_all [Grow.refl]; done)⟩; clear hv hok; congr 1; rw [He.out]; clear He Hgb; first | (simp_all; done) | (simp_all; omega) | grind)
    case rest =>
    obtain ⟨rfl, hb⟩ := hcut
    clear He Hgb hpcm
    cases gb
    all_goals (go_wp2_with fail; go_ret; exact Ret.int rfl (by (repeat (first | (with_reducible exact Grow.refl _) | assumption | refine Grow.ext ?_ _ | refine Grow.alloc ?_ _ | refine Grow.drew ?_ | refine Grow.setCell ?_ (by first | (simp; done) | (simp; omega)) _ | refine Grow.trans ?_ (by assumption)))))
set_option maxRecDepth 100000 in
set_option maxHeartbeats 4000000 in
theorem ref42_Check_52 (v : Ve) (pv rv : Value) (w : World) {F F' : Nat → Prop} (hv : v.ok) (hp : Sl F w pv v.prints) (hr : Sl F' w rv v.result) (h1 : v.prints.length ≤ 140737488355328) (h2 : v.result.length ≤ 140737488355328) (hk : v.kind = 5) (hfb0 : (v.fn != 0 || !clZ v) = true) (hout0 : v.out = 1) :
    Calls Tryd.prog 22 #[v.v pv rv] w (Ret w (.int .i64 (opOk (veOk v)))) := by
  obtain ⟨pa, pn, pc, rfl, Hpn, hpm, hpcap, hpcm, hp⟩ := hp.open
  obtain ⟨ra, rn, rc, rfl, Hrn, hrm, hrcap, hrcm, hr⟩ := hr.open
  have hok := Lib.hid hv
  have hpl := plErr_ok hv.pl
  obtain ⟨gb, Hgb⟩ : ∃ g, Hid (veOk v = g) := ⟨_, Lib.hid rfl⟩
  rw [Hgb.out]
  have Hk := Lib.hid hk
  clear hk
  have Hfb0 := Lib.hid hfb0
  have Hout := Lib.hid hout0
  clear hfb0 hout0
  go_enter Tryd.func22, Tryd.ntmps22
  go_upto_region 1 with fail
  generalize v.v (.slice pa pn pc) (.slice ra rn rc) = a0
  go_cut [3] (fun b wc => b = .bool v.ran ∧ wc = (w.alloc (.cells #[.int .u8 v.kind, .int .i64 v.err, .int .i64 v.fn, .int .i64 v.at_, .int .i64 v.loan, .int .i64 v.pl.loc, .bool v.pl.deref, .int .u8 v.pl.field, .bool v.write, .bool v.deep, .int .u8 v.out, .int .i64 v.steps, .slice pa pn pc, .slice ra rn rc] 31)))
  case first =>
    go_wp2_with fail
    all_goals (go_meet; case rel => refine ⟨?_, by first | rfl | (simp_all; done)⟩; congr 1; unfold Ve.ran; have q1 := Hpn.out; have q2 := Hrn.out; simp_all [wrap64]; try (first | omega | (have := List.length_pos_iff.2 (show v.prints ≠ [] by assumption); omega)))
  case rest =>
  obtain ⟨rfl, rfl⟩ := hcut
  go_upto_region 2 with fail
  go_cut [4] (fun b wc => b = .bool (v.fn != 0 || !clZ v) ∧ wc = (w.alloc (.cells #[.int .u8 v.kind, .int .i64 v.err, .int .i64 v.fn, .int .i64 v.at_, .int .i64 v.loan, .int .i64 v.pl.loc, .bool v.pl.deref, .int .u8 v.pl.field, .bool v.write, .bool v.deep, .int .u8 v.out, .int .i64 v.steps, .slice pa pn pc, .slice ra rn rc] 31)))
  case first =>
    go_wp2_with fail
    all_goals (go_meet; case rel => refine ⟨?_, by first | rfl | (simp_all; done)⟩; simp_all)
  case rest =>
  obtain ⟨rfl, rfl⟩ := hcut
  obtain ⟨rb, hrb⟩ : ∃ rb, v.ran = rb := ⟨_, rfl⟩
  obtain ⟨fb, hfb⟩ : ∃ fb, (v.fn != 0 || !clZ v) = fb := ⟨_, rfl⟩
  rw [hrb, hfb]
  have Hrb := Lib.hid hrb
  have Hfb := Lib.hid hfb
  clear hrb hfb
  have hk := Hk.out
  have He : Hid (gb = (decide (v.err = 0) && !fb && decide (1 ≤ v.out ∧ v.out ≤ 8 ∧ 0 ≤ v.steps ∧ v.steps ≤ 500 ∧ v.prints.length ≤ 200) && (if v.out = 1 then decide (v.result.length = 1 ∨ v.result.length = 2) else decide (v.result.length = 0)))) := Lib.hid (by rw [← Hgb.out, veOk_of, if_neg (by omega), if_neg (by omega), if_neg (by omega), if_pos (by omega), Hfb.out])
  have q1 := Hpn.out
  have q2 := Hrn.out
  rw [← q1, ← q2] at He
  clear q1 q2 Hrb
  have hout := Hout.out
  obtain rfl : fb = true := by rw [← Hfb.out, Hfb0.out]
  all_goals
    go_upto_block 0 with fail
    go_cut [5, 6] (fun b _ wc => b = .bool gb ∧ Grow (w.alloc (.cells #[.int .u8 v.kind, .int .i64 v.err, .int .i64 v.fn, .int .i64 v.at_, .int .i64 v.loan, .int .i64 v.pl.loc, .bool v.pl.deref, .int .u8 v.pl.field, .bool v.write, .bool v.deep, .int .u8 v.out, .int .i64 v.steps, .slice pa pn pc, .slice ra rn rc] 31)) wc)
    case first =>
      go_wp2_with (fail)
      all_goals (go_meet; case rel => refine ⟨?_, by (try simp only [hk]); first | exact Grow.refl _ | exact Grow.ext (Grow.refl _) _ | exact Grow.alloc (Grow.refl _) _ | exact Grow.ext (Grow.alloc (Grow.refl _) _) _ | (simp_all [Grow.refl]; done) | (refine Grow.ext ?_ _; simp_all [Grow.refl]; done) | (refine Grow.alloc ?_ _; simp_all [Grow.refl]; done) | (refine Grow.ext (Grow.alloc ?_ _) _; simp_all [Grow.refl]; done)⟩; clear hv hok; congr 1; rw [He.out]; clear He Hgb; first | (simp_all; done) | (simp_all; omega) | grind)
    case rest =>
    obtain ⟨rfl, hb⟩ := hcut
    clear He Hgb hpcm
    cases gb
    all_goals (go_wp2_with fail; go_ret; exact Ret.int rfl (by (repeat (first | (with_reducible exact Grow.refl _) | assumption | refine Grow.ext ?_ _ | refine Grow.alloc ?_ _ | refine Grow.drew ?_ | refine Grow.setCell ?_ (by first | (simp; done) | (simp; omega)) _ | refine Grow.trans ?_ (by assumption)))))
set_option maxRecDepth 100000 in
set_option maxHeartbeats 4000000 in
theorem ref42_Check_53 (v : Ve) (pv rv : Value) (w : World) {F F' : Nat → Prop} (hv : v.ok) (hp : Sl F w pv v.prints) (hr : Sl F' w rv v.result) (h1 : v.prints.length ≤ 140737488355328) (h2 : v.result.length ≤ 140737488355328) (hk : v.kind = 5) (hfb0 : (v.fn != 0 || !clZ v) = true) (hout0 : v.out ≠ 1) :
    Calls Tryd.prog 22 #[v.v pv rv] w (Ret w (.int .i64 (opOk (veOk v)))) := by
  obtain ⟨pa, pn, pc, rfl, Hpn, hpm, hpcap, hpcm, hp⟩ := hp.open
  obtain ⟨ra, rn, rc, rfl, Hrn, hrm, hrcap, hrcm, hr⟩ := hr.open
  have hok := Lib.hid hv
  have hpl := plErr_ok hv.pl
  obtain ⟨gb, Hgb⟩ : ∃ g, Hid (veOk v = g) := ⟨_, Lib.hid rfl⟩
  rw [Hgb.out]
  have Hk := Lib.hid hk
  clear hk
  have Hfb0 := Lib.hid hfb0
  have Hout := Lib.hid hout0
  clear hfb0 hout0
  go_enter Tryd.func22, Tryd.ntmps22
  go_upto_region 1 with fail
  generalize v.v (.slice pa pn pc) (.slice ra rn rc) = a0
  go_cut [3] (fun b wc => b = .bool v.ran ∧ wc = (w.alloc (.cells #[.int .u8 v.kind, .int .i64 v.err, .int .i64 v.fn, .int .i64 v.at_, .int .i64 v.loan, .int .i64 v.pl.loc, .bool v.pl.deref, .int .u8 v.pl.field, .bool v.write, .bool v.deep, .int .u8 v.out, .int .i64 v.steps, .slice pa pn pc, .slice ra rn rc] 31)))
  case first =>
    go_wp2_with fail
    all_goals (go_meet; case rel => refine ⟨?_, by first | rfl | (simp_all; done)⟩; congr 1; unfold Ve.ran; have q1 := Hpn.out; have q2 := Hrn.out; simp_all [wrap64]; try (first | omega | (have := List.length_pos_iff.2 (show v.prints ≠ [] by assumption); omega)))
  case rest =>
  obtain ⟨rfl, rfl⟩ := hcut
  go_upto_region 2 with fail
  go_cut [4] (fun b wc => b = .bool (v.fn != 0 || !clZ v) ∧ wc = (w.alloc (.cells #[.int .u8 v.kind, .int .i64 v.err, .int .i64 v.fn, .int .i64 v.at_, .int .i64 v.loan, .int .i64 v.pl.loc, .bool v.pl.deref, .int .u8 v.pl.field, .bool v.write, .bool v.deep, .int .u8 v.out, .int .i64 v.steps, .slice pa pn pc, .slice ra rn rc] 31)))
  case first =>
    go_wp2_with fail
    all_goals (go_meet; case rel => refine ⟨?_, by first | rfl | (simp_all; done)⟩; simp_all)
  case rest =>
  obtain ⟨rfl, rfl⟩ := hcut
  obtain ⟨rb, hrb⟩ : ∃ rb, v.ran = rb := ⟨_, rfl⟩
  obtain ⟨fb, hfb⟩ : ∃ fb, (v.fn != 0 || !clZ v) = fb := ⟨_, rfl⟩
  rw [hrb, hfb]
  have Hrb := Lib.hid hrb
  have Hfb := Lib.hid hfb
  clear hrb hfb
  have hk := Hk.out
  have He : Hid (gb = (decide (v.err = 0) && !fb && decide (1 ≤ v.out ∧ v.out ≤ 8 ∧ 0 ≤ v.steps ∧ v.steps ≤ 500 ∧ v.prints.length ≤ 200) && (if v.out = 1 then decide (v.result.length = 1 ∨ v.result.length = 2) else decide (v.result.length = 0)))) := Lib.hid (by rw [← Hgb.out, veOk_of, if_neg (by omega), if_neg (by omega), if_neg (by omega), if_pos (by omega), Hfb.out])
  have q1 := Hpn.out
  have q2 := Hrn.out
  rw [← q1, ← q2] at He
  clear q1 q2 Hrb
  have hout := Hout.out
  obtain rfl : fb = true := by rw [← Hfb.out, Hfb0.out]
  all_goals
    go_upto_block 0 with fail
    go_cut [5, 6] (fun b _ wc => b = .bool gb ∧ Grow (w.alloc (.cells #[.int .u8 v.kind, .int .i64 v.err, .int .i64 v.fn, .int .i64 v.at_, .int .i64 v.loan, .int .i64 v.pl.loc, .bool v.pl.deref, .int .u8 v.pl.field, .bool v.write, .bool v.deep, .int .u8 v.out, .int .i64 v.steps, .slice pa pn pc, .slice ra rn rc] 31)) wc)
    case first =>
      go_wp2_with (fail)
      all_goals (go_meet; case rel => refine ⟨?_, by (try simp only [hk]); first | exact Grow.refl _ | exact Grow.ext (Grow.refl _) _ | exact Grow.alloc (Grow.refl _) _ | exact Grow.ext (Grow.alloc (Grow.refl _) _) _ | (simp_all [Grow.refl]; done) | (refine Grow.ext ?_ _; simp_all [Grow.refl]; done) | (refine Grow.alloc ?_ _; simp_all [Grow.refl]; done) | (refine Grow.ext (Grow.alloc ?_ _) _; simp_all [Grow.refl]; done)⟩; clear hv hok; congr 1; rw [He.out]; clear He Hgb; first | (simp_all; done) | (simp_all; omega) | grind)
    case rest =>
    obtain ⟨rfl, hb⟩ := hcut
    clear He Hgb hpcm
    cases gb
    all_goals (go_wp2_with fail; go_ret; exact Ret.int rfl (by (repeat (first | (with_reducible exact Grow.refl _) | assumption | refine Grow.ext ?_ _ | refine Grow.alloc ?_ _ | refine Grow.drew ?_ | refine Grow.setCell ?_ (by first | (simp; done) | (simp; omega)) _ | refine Grow.trans ?_ (by assumption)))))
theorem ref42_Check_5 (v : Ve) (pv rv : Value) (w : World) {F F' : Nat → Prop} (hv : v.ok) (hp : Sl F w pv v.prints) (hr : Sl F' w rv v.result) (h1 : v.prints.length ≤ 140737488355328) (h2 : v.result.length ≤ 140737488355328) (hk : v.kind = 5) :
    Calls Tryd.prog 22 #[v.v pv rv] w (Ret w (.int .i64 (opOk (veOk v)))) := by
  cases hfb : (v.fn != 0 || !clZ v)
  all_goals by_cases hout : v.out = 1
  · exact ref42_Check_50 v pv rv w hv hp hr h1 h2 hk hfb hout
  · exact ref42_Check_51 v pv rv w hv hp hr h1 h2 hk hfb hout
  · exact ref42_Check_52 v pv rv w hv hp hr h1 h2 hk hfb hout
  · exact ref42_Check_53 v pv rv w hv hp hr h1 h2 hk hfb hout
set_option maxRecDepth 100000 in
set_option maxHeartbeats 4000000 in
theorem ref42_Check_6 (v : Ve) (pv rv : Value) (w : World) {F F' : Nat → Prop} (hv : v.ok) (hp : Sl F w pv v.prints) (hr : Sl F' w rv v.result) (h1 : v.prints.length ≤ 140737488355328) (h2 : v.result.length ≤ 140737488355328) (hk : v.kind ≠ 1 ∧ v.kind ≠ 2 ∧ v.kind ≠ 3 ∧ v.kind ≠ 4 ∧ v.kind ≠ 5) :
    Calls Tryd.prog 22 #[v.v pv rv] w (Ret w (.int .i64 (opOk (veOk v)))) := by
  obtain ⟨pa, pn, pc, rfl, Hpn, hpm, hpcap, hpcm, hp⟩ := hp.open
  obtain ⟨ra, rn, rc, rfl, Hrn, hrm, hrcap, hrcm, hr⟩ := hr.open
  have hok := Lib.hid hv
  have hpl := plErr_ok hv.pl
  obtain ⟨gb, Hgb⟩ : ∃ g, Hid (veOk v = g) := ⟨_, Lib.hid rfl⟩
  rw [Hgb.out]
  have Hk := Lib.hid hk
  clear hk
  go_enter Tryd.func22, Tryd.ntmps22
  go_upto_region 1 with fail
  generalize v.v (.slice pa pn pc) (.slice ra rn rc) = a0
  go_cut [3] (fun b wc => b = .bool v.ran ∧ wc = (w.alloc (.cells #[.int .u8 v.kind, .int .i64 v.err, .int .i64 v.fn, .int .i64 v.at_, .int .i64 v.loan, .int .i64 v.pl.loc, .bool v.pl.deref, .int .u8 v.pl.field, .bool v.write, .bool v.deep, .int .u8 v.out, .int .i64 v.steps, .slice pa pn pc, .slice ra rn rc] 31)))
  case first =>
    go_wp2_with fail
    all_goals (go_meet; case rel => refine ⟨?_, by first | rfl | (simp_all; done)⟩; congr 1; unfold Ve.ran; have q1 := Hpn.out; have q2 := Hrn.out; simp_all [wrap64]; try (first | omega | (have := List.length_pos_iff.2 (show v.prints ≠ [] by assumption); omega)))
  case rest =>
  obtain ⟨rfl, rfl⟩ := hcut
  go_upto_region 2 with fail
  go_cut [4] (fun b wc => b = .bool (v.fn != 0 || !clZ v) ∧ wc = (w.alloc (.cells #[.int .u8 v.kind, .int .i64 v.err, .int .i64 v.fn, .int .i64 v.at_, .int .i64 v.loan, .int .i64 v.pl.loc, .bool v.pl.deref, .int .u8 v.pl.field, .bool v.write, .bool v.deep, .int .u8 v.out, .int .i64 v.steps, .slice pa pn pc, .slice ra rn rc] 31)))
  case first =>
    go_wp2_with fail
    all_goals (go_meet; case rel => refine ⟨?_, by first | rfl | (simp_all; done)⟩; simp_all)
  case rest =>
  obtain ⟨rfl, rfl⟩ := hcut
  obtain ⟨rb, hrb⟩ : ∃ rb, v.ran = rb := ⟨_, rfl⟩
  obtain ⟨fb, hfb⟩ : ∃ fb, (v.fn != 0 || !clZ v) = fb := ⟨_, rfl⟩
  rw [hrb, hfb]
  have Hrb := Lib.hid hrb
  have Hfb := Lib.hid hfb
  clear hrb hfb
  have hk := Hk.out
  obtain ⟨hk1, hk2, hk3, hk4, hk5⟩ := hk
  have He : Hid (gb = false) := Lib.hid (by rw [← Hgb.out, veOk_of, if_neg (by omega), if_neg (by omega), if_neg (by omega), if_neg (by omega)])
  go_wp2_with fail
  all_goals (go_ret; exact Ret.int (by rw [He.out]; rfl) (by (repeat (first | (with_reducible exact Grow.refl _) | assumption | refine Grow.ext ?_ _ | refine Grow.alloc ?_ _ | refine Grow.drew ?_ | refine Grow.setCell ?_ (by first | (simp; done) | (simp; omega)) _ | refine Grow.trans ?_ (by assumption)))))
end Go.Proofs.YtjllaogechckoaaDoor
