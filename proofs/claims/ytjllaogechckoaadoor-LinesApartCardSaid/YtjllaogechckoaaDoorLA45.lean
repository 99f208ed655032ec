/- Layer 45: the law LinesApart. -/
import Derived.Test.YtjllaogechckoaaDoorW45n
import Derived.Test.YtjllaogechckoaaDoorW45j
namespace Go.Proofs.YtjllaogechckoaaDoor
open Go.RowKit
set_option linter.unusedSimpArgs false
set_option linter.unusedVariables false

theorem written_same {v x : Ve} (h1 : veOk v = true) (w1 : v.ok) (h2 : veOk x = true) (w2 : x.ok) : (written v == written x) = decide (v = x) := by
  rw [Bool.eq_iff_iff, beq_iff_eq, decide_eq_true_iff]
  exact ⟨written_inj h1 w1.wf' h2 w2.wf', fun h => by rw [h]⟩
theorem str_at' {l : Bs} {k : Nat} (h : k < l.length) (h' : k < (str l).size) : (str l)[k]'h' = l[k] := rfl
set_option maxRecDepth 100000 in
set_option maxHeartbeats 8000000 in
theorem law_LinesApart (v : Ve) (pv rv : Value) (x : Ve) (px rx : Value) (w : World) {F F' G G' : Nat → Prop} (hv : v.ok) (hp : Sl F w pv v.prints) (hr : Sl F' w rv v.result) (hx : x.ok) (hpx : Sl G w px x.prints) (hrx : Sl G' w rx x.result) (hw : Laid w) :
    Calls Tryd.prog 6 #[v.v pv rv, x.v px rx] w (Ret w (.bool true)) := by
  have HAL := Lib.hid (fun w hw => law45_alive w hw)
  have HG := Lib.hid (fun w' (g : Grow w w') => law45_great v pv rv [] w' (hp.mono g) (hr.mono g))
  have HG2 := Lib.hid (fun w' (g : Grow w w') => law45_great x px rx [] w' (hpx.mono g) (hrx.mono g))
  cases hg : greatB v []
  case true =>
    rw [hg] at HG
    go_enter Tryd.func6, Tryd.ntmps6
    go_wp2_with (first
      | (go_at_call 21; ((with_reducible refine (HAL.out _ (hw.grow (by (repeat (first | (with_reducible exact Grow.refl _) | assumption | refine Grow.ext ?_ _ | refine Grow.alloc ?_ _ | refine Grow.drew ?_ | refine Grow.setCell ?_ (by first | (simp; done) | (simp; omega)) _ | refine Grow.trans ?_ (by assumption)))))).mono ?_); rintro e w1 ⟨rfl, hb1⟩; obtain ⟨x1, rfl⟩ := ext_of_grow hb1; clear hb1))
      | (go_at_call 8; ((with_reducible refine (HG.out _ (by (repeat (first | (with_reducible exact Grow.refl _) | assumption | refine Grow.ext ?_ _ | refine Grow.alloc ?_ _ | refine Grow.drew ?_ | refine Grow.setCell ?_ (by first | (simp; done) | (simp; omega)) _ | refine Grow.trans ?_ (by assumption))))).mono ?_); rintro e w2 ⟨rfl, hb2⟩; obtain ⟨x2, rfl⟩ := ext_of_grow hb2; clear hb2)))
    go_ret; exact Ret.bool rfl (by (repeat (first | (with_reducible exact Grow.refl _) | assumption | refine Grow.ext ?_ _ | refine Grow.alloc ?_ _ | refine Grow.drew ?_ | refine Grow.setCell ?_ (by first | (simp; done) | (simp; omega)) _ | refine Grow.trans ?_ (by assumption))))
  rw [hg] at HG
  obtain ⟨l1, l2, l3⟩ := greatB_no hg
  clear hg
  cases hg : greatB x []
  case true =>
    rw [hg] at HG2
    go_enter Tryd.func6, Tryd.ntmps6
    go_wp2_with (first
      | (go_at_call 21; ((with_reducible refine (HAL.out _ (hw.grow (by (repeat (first | (with_reducible exact Grow.refl _) | assumption | refine Grow.ext ?_ _ | refine Grow.alloc ?_ _ | refine Grow.drew ?_ | refine Grow.setCell ?_ (by first | (simp; done) | (simp; omega)) _ | refine Grow.trans ?_ (by assumption)))))).mono ?_); rintro e w1 ⟨rfl, hb1⟩; obtain ⟨x1, rfl⟩ := ext_of_grow hb1; clear hb1))
      | (go_at_call 8; ((with_reducible refine (HG.out _ (by (repeat (first | (with_reducible exact Grow.refl _) | assumption | refine Grow.ext ?_ _ | refine Grow.alloc ?_ _ | refine Grow.drew ?_ | refine Grow.setCell ?_ (by first | (simp; done) | (simp; omega)) _ | refine Grow.trans ?_ (by assumption))))).mono ?_); rintro e w2 ⟨rfl, hb2⟩; obtain ⟨x2, rfl⟩ := ext_of_grow hb2; clear hb2))
      | (go_at_call 8; ((with_reducible refine (HG2.out _ (by (repeat (first | (with_reducible exact Grow.refl _) | assumption | refine Grow.ext ?_ _ | refine Grow.alloc ?_ _ | refine Grow.drew ?_ | refine Grow.setCell ?_ (by first | (simp; done) | (simp; omega)) _ | refine Grow.trans ?_ (by assumption))))).mono ?_); rintro e w3 ⟨rfl, hb3⟩; obtain ⟨x3, rfl⟩ := ext_of_grow hb3; clear hb3)))
    go_ret; exact Ret.bool rfl (by (repeat (first | (with_reducible exact Grow.refl _) | assumption | refine Grow.ext ?_ _ | refine Grow.alloc ?_ _ | refine Grow.drew ?_ | refine Grow.setCell ?_ (by first | (simp; done) | (simp; omega)) _ | refine Grow.trans ?_ (by assumption))))
  rw [hg] at HG2
  obtain ⟨m1, m2, m3⟩ := greatB_no hg
  clear hg
  have HC := Lib.hid (fun w' (g : Grow w w') => ref42_Check v pv rv w' hv (hp.mono g) (hr.mono g) (by omega) (by omega))
  have HC2 := Lib.hid (fun w' (g : Grow w w') => ref42_Check x px rx w' hx (hpx.mono g) (hrx.mono g) (by omega) (by omega))
  have e0 : opOk true = 0 := rfl
  have e8 : opOk false = 8 := rfl
  cases hk : veOk v
  case false =>
    rw [hk, e8] at HC
    clear hk e0 e8
    go_enter Tryd.func6, Tryd.ntmps6
    go_wp2_with (first
      | (go_at_call 21; ((with_reducible refine (HAL.out _ (hw.grow (by (repeat (first | (with_reducible exact Grow.refl _) | assumption | refine Grow.ext ?_ _ | refine Grow.alloc ?_ _ | refine Grow.drew ?_ | refine Grow.setCell ?_ (by first | (simp; done) | (simp; omega)) _ | refine Grow.trans ?_ (by assumption)))))).mono ?_); rintro e w1 ⟨rfl, hb1⟩; obtain ⟨x1, rfl⟩ := ext_of_grow hb1; clear hb1))
      | (go_at_call 8; ((with_reducible refine (HG.out _ (by (repeat (first | (with_reducible exact Grow.refl _) | assumption | refine Grow.ext ?_ _ | refine Grow.alloc ?_ _ | refine Grow.drew ?_ | refine Grow.setCell ?_ (by first | (simp; done) | (simp; omega)) _ | refine Grow.trans ?_ (by assumption))))).mono ?_); rintro e w2 ⟨rfl, hb2⟩; obtain ⟨x2, rfl⟩ := ext_of_grow hb2; clear hb2))
      | (go_at_call 8; ((with_reducible refine (HG2.out _ (by (repeat (first | (with_reducible exact Grow.refl _) | assumption | refine Grow.ext ?_ _ | refine Grow.alloc ?_ _ | refine Grow.drew ?_ | refine Grow.setCell ?_ (by first | (simp; done) | (simp; omega)) _ | refine Grow.trans ?_ (by assumption))))).mono ?_); rintro e w3 ⟨rfl, hb3⟩; obtain ⟨x3, rfl⟩ := ext_of_grow hb3; clear hb3))
      | (go_at_call 22; ((with_reducible refine (HC.out _ (by (repeat (first | (with_reducible exact Grow.refl _) | assumption | refine Grow.ext ?_ _ | refine Grow.alloc ?_ _ | refine Grow.drew ?_ | refine Grow.setCell ?_ (by first | (simp; done) | (simp; omega)) _ | refine Grow.trans ?_ (by assumption))))).mono ?_); rintro e w4 ⟨rfl, hb4⟩; obtain ⟨x4, rfl⟩ := ext_of_grow hb4; clear hb4)))
    go_ret; exact Ret.bool rfl (by (repeat (first | (with_reducible exact Grow.refl _) | assumption | refine Grow.ext ?_ _ | refine Grow.alloc ?_ _ | refine Grow.drew ?_ | refine Grow.setCell ?_ (by first | (simp; done) | (simp; omega)) _ | refine Grow.trans ?_ (by assumption))))
  rw [hk, e0] at HC
  cases hkx : veOk x
  case false =>
    rw [hkx, e8] at HC2
    clear hk hkx e0 e8
    go_enter Tryd.func6, Tryd.ntmps6
    go_wp2_with (first
      | (go_at_call 21; ((with_reducible refine (HAL.out _ (hw.grow (by (repeat (first | (with_reducible exact Grow.refl _) | assumption | refine Grow.ext ?_ _ | refine Grow.alloc ?_ _ | refine Grow.drew ?_ | refine Grow.setCell ?_ (by first | (simp; done) | (simp; omega)) _ | refine Grow.trans ?_ (by assumption)))))).mono ?_); rintro e w1 ⟨rfl, hb1⟩; obtain ⟨x1, rfl⟩ := ext_of_grow hb1; clear hb1))
      | (go_at_call 8; ((with_reducible refine (HG.out _ (by (repeat (first | (with_reducible exact Grow.refl _) | assumption | refine Grow.ext ?_ _ | refine Grow.alloc ?_ _ | refine Grow.drew ?_ | refine Grow.setCell ?_ (by first | (simp; done) | (simp; omega)) _ | refine Grow.trans ?_ (by assumption))))).mono ?_); rintro e w2 ⟨rfl, hb2⟩; obtain ⟨x2, rfl⟩ := ext_of_grow hb2; clear hb2))
      | (go_at_call 8; ((with_reducible refine (HG2.out _ (by (repeat (first | (with_reducible exact Grow.refl _) | assumption | refine Grow.ext ?_ _ | refine Grow.alloc ?_ _ | refine Grow.drew ?_ | refine Grow.setCell ?_ (by first | (simp; done) | (simp; omega)) _ | refine Grow.trans ?_ (by assumption))))).mono ?_); rintro e w3 ⟨rfl, hb3⟩; obtain ⟨x3, rfl⟩ := ext_of_grow hb3; clear hb3))
      | (go_at_call 22; ((with_reducible refine (HC.out _ (by (repeat (first | (with_reducible exact Grow.refl _) | assumption | refine Grow.ext ?_ _ | refine Grow.alloc ?_ _ | refine Grow.drew ?_ | refine Grow.setCell ?_ (by first | (simp; done) | (simp; omega)) _ | refine Grow.trans ?_ (by assumption))))).mono ?_); rintro e w4 ⟨rfl, hb4⟩; obtain ⟨x4, rfl⟩ := ext_of_grow hb4; clear hb4))
      | (go_at_call 22; ((with_reducible refine (HC2.out _ (by (repeat (first | (with_reducible exact Grow.refl _) | assumption | refine Grow.ext ?_ _ | refine Grow.alloc ?_ _ | refine Grow.drew ?_ | refine Grow.setCell ?_ (by first | (simp; done) | (simp; omega)) _ | refine Grow.trans ?_ (by assumption))))).mono ?_); rintro e w5 ⟨rfl, hb5⟩; obtain ⟨x5, rfl⟩ := ext_of_grow hb5; clear hb5)))
    go_ret; exact Ret.bool rfl (by (repeat (first | (with_reducible exact Grow.refl _) | assumption | refine Grow.ext ?_ _ | refine Grow.alloc ?_ _ | refine Grow.drew ?_ | refine Grow.setCell ?_ (by first | (simp; done) | (simp; omega)) _ | refine Grow.trans ?_ (by assumption))))
  rw [hkx, e0] at HC2
  have HT := Lib.hid (fun w' (g : Grow w w') => lines_Text v pv rv w' hv (hp.mono g) (hr.mono g) (by omega) (by omega) (hw.grow g))
  have HT2 := Lib.hid (fun w' (g : Grow w w') => lines_Text x px rx w' hx (hpx.mono g) (hrx.mono g) (by omega) (by omega) (hw.grow g))
  have t1 : txS v = written v := by unfold txS; rw [hk]; rfl
  have t2 : txS x = written x := by unfold txS; rw [hkx]; rfl
  rw [hk, e0, t1] at HT
  rw [hkx, e0, t2] at HT2
  have hsame := written_same hk hv hkx hx
  have H10 := Lib.hid (written_no10 hk)
  have hln := written_len hk hv
  have hne : 0 < (written v).length := List.length_pos_iff.2 (written_ne hk)
  have HS := Lib.hid (fun w' (g : Grow w w') => ref42_Same v x pv rv px rx w' hv hx (hp.mono g) (hr.mono g) (hpx.mono g) (hrx.mono g))
  obtain ⟨d, Hd⟩ : ∃ d, Hid (decide (v = x) = d) := ⟨_, Lib.hid rfl⟩
  rw [Hd.out] at HS hsame
  obtain ⟨s, Hs⟩ : ∃ x, Hid (written v = x) := ⟨_, Lib.hid rfl⟩
  obtain ⟨t, Ht⟩ : ∃ s, Hid (written x = s) := ⟨_, Lib.hid rfl⟩
  rw [Hs.out] at HT hsame H10 hln hne
  rw [Ht.out] at HT2 hsame
  have hss : (str s).size = s.length := str_size s
  clear hk hkx e0 e8 t1 t2 Hd Hs Ht
  cases d
  all_goals
    go_enter Tryd.func6, Tryd.ntmps6
    go_wp2_with (first
      | (go_at_call 21; ((with_reducible refine (HAL.out _ (hw.grow (by (repeat (first | (with_reducible exact Grow.refl _) | assumption | refine Grow.ext ?_ _ | refine Grow.alloc ?_ _ | refine Grow.drew ?_ | refine Grow.setCell ?_ (by first | (simp; done) | (simp; omega)) _ | refine Grow.trans ?_ (by assumption)))))).mono ?_); rintro e w1 ⟨rfl, hb1⟩; obtain ⟨x1, rfl⟩ := ext_of_grow hb1; clear hb1))
      | (go_at_call 8; ((with_reducible refine (HG.out _ (by (repeat (first | (with_reducible exact Grow.refl _) | assumption | refine Grow.ext ?_ _ | refine Grow.alloc ?_ _ | refine Grow.drew ?_ | refine Grow.setCell ?_ (by first | (simp; done) | (simp; omega)) _ | refine Grow.trans ?_ (by assumption))))).mono ?_); rintro e w2 ⟨rfl, hb2⟩; obtain ⟨x2, rfl⟩ := ext_of_grow hb2; clear hb2))
      | (go_at_call 8; ((with_reducible refine (HG2.out _ (by (repeat (first | (with_reducible exact Grow.refl _) | assumption | refine Grow.ext ?_ _ | refine Grow.alloc ?_ _ | refine Grow.drew ?_ | refine Grow.setCell ?_ (by first | (simp; done) | (simp; omega)) _ | refine Grow.trans ?_ (by assumption))))).mono ?_); rintro e w3 ⟨rfl, hb3⟩; obtain ⟨x3, rfl⟩ := ext_of_grow hb3; clear hb3))
      | (go_at_call 22; ((with_reducible refine (HC.out _ (by (repeat (first | (with_reducible exact Grow.refl _) | assumption | refine Grow.ext ?_ _ | refine Grow.alloc ?_ _ | refine Grow.drew ?_ | refine Grow.setCell ?_ (by first | (simp; done) | (simp; omega)) _ | refine Grow.trans ?_ (by assumption))))).mono ?_); rintro e w4 ⟨rfl, hb4⟩; obtain ⟨x4, rfl⟩ := ext_of_grow hb4; clear hb4))
      | (go_at_call 22; ((with_reducible refine (HC2.out _ (by (repeat (first | (with_reducible exact Grow.refl _) | assumption | refine Grow.ext ?_ _ | refine Grow.alloc ?_ _ | refine Grow.drew ?_ | refine Grow.setCell ?_ (by first | (simp; done) | (simp; omega)) _ | refine Grow.trans ?_ (by assumption))))).mono ?_); rintro e w5 ⟨rfl, hb5⟩; obtain ⟨x5, rfl⟩ := ext_of_grow hb5; clear hb5))
      | (go_at_call 13; ((with_reducible refine (HT.out _ (by (repeat (first | (with_reducible exact Grow.refl _) | assumption | refine Grow.ext ?_ _ | refine Grow.alloc ?_ _ | refine Grow.drew ?_ | refine Grow.setCell ?_ (by first | (simp; done) | (simp; omega)) _ | refine Grow.trans ?_ (by assumption))))).mono ?_); rintro e w6 ⟨rfl, hb6⟩; obtain ⟨x6, rfl⟩ := ext_of_grow hb6; clear hb6))
      | (go_at_call 13; ((with_reducible refine (HT2.out _ (by (repeat (first | (with_reducible exact Grow.refl _) | assumption | refine Grow.ext ?_ _ | refine Grow.alloc ?_ _ | refine Grow.drew ?_ | refine Grow.setCell ?_ (by first | (simp; done) | (simp; omega)) _ | refine Grow.trans ?_ (by assumption))))).mono ?_); rintro e w7 ⟨rfl, hb7⟩; obtain ⟨x7, rfl⟩ := ext_of_grow hb7; clear hb7)))
    go_loopw [10] (fun iv wr => ∃ k : Nat, iv = .int .i64 k ∧ k ≤ s.length ∧ wr = (ext (ext (ext (ext (ext (ext (ext ((w.alloc (.cells #[.int .u8 v.kind, .int .i64 v.err, .int .i64 v.fn, .int .i64 v.at_, .int .i64 v.loan, .int .i64 v.pl.loc, .bool v.pl.deref, .int .u8 v.pl.field, .bool v.write, .bool v.deep, .int .u8 v.out, .int .i64 v.steps, pv, rv] 31)).alloc (.cells #[.int .u8 x.kind, .int .i64 x.err, .int .i64 x.fn, .int .i64 x.at_, .int .i64 x.loan, .int .i64 x.pl.loc, .bool x.pl.deref, .int .u8 x.pl.field, .bool x.write, .bool x.deep, .int .u8 x.out, .int .i64 x.steps, px, rx] 31)) x1) x2) x3) x4) x5) x6) x7)) (fun iv _ => s.length - (intOf iv).toNat)
    case atStart => exact ⟨0, rfl, by omega, rfl⟩
    case round =>
      obtain ⟨k, rfl, hk, rfl⟩ := hrel
      by_cases hlt : k < s.length
      · have hb := H10.out s[k] (List.getElem_mem hlt)
        have hb1 : ((s[k].toNat : Int) == 10) = false := by
          rw [beq_eq_false_iff_ne]; intro e; exact hb (UInt8.toNat_inj.1 (by show s[k].toNat = 10; omega))
        have hka : (k : Int) < s.length := by omega
        have hcz := str_at' hlt (by rw [hss]; exact hlt)
        go_wp2_with fail
        exact ⟨⟨k + 1, by go_num, by omega, trivial⟩, by simp [intOf]; omega⟩
      · obtain rfl : s.length = k := by omega
        have hpos : decide ((s.length : Int) > 0) = true := decide_eq_true (by omega)
        go_wp2_with (first
          | (go_at_call 17; ((with_reducible refine (HS.out _ (by (repeat (first | (with_reducible exact Grow.refl _) | assumption | refine Grow.ext ?_ _ | refine Grow.alloc ?_ _ | refine Grow.drew ?_ | refine Grow.setCell ?_ (by first | (simp; done) | (simp; omega)) _ | refine Grow.trans ?_ (by assumption))))).mono ?_); rintro e w8 ⟨rfl, hb8⟩; obtain ⟨x8, rfl⟩ := ext_of_grow hb8; clear hb8)))
        go_ret; exact Ret.bool rfl (by (repeat (first | (with_reducible exact Grow.refl _) | assumption | refine Grow.ext ?_ _ | refine Grow.alloc ?_ _ | refine Grow.drew ?_ | refine Grow.setCell ?_ (by first | (simp; done) | (simp; omega)) _ | refine Grow.trans ?_ (by assumption))))
end Go.Proofs.YtjllaogechckoaaDoor
