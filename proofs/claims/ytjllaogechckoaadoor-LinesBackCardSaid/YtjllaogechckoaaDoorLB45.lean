/- Layer 45: the law LinesBack. -/
import Derived.Test.YtjllaogechckoaaDoorW45n
import Derived.Test.YtjllaogechckoaaDoorW45j
namespace Go.Proofs.YtjllaogechckoaaDoor
open Go.RowKit
set_option linter.unusedSimpArgs false
set_option linter.unusedVariables false

theorem veOk_len {v : Ve} (h : veOk v = true) : v.prints.length ≤ 200 ∧ v.result.length ≤ 2 := by
  rcases veOk_kind h with hk | hk | hk | hk | hk
  · have e := (veOk1 h hk).1; rw [e]; exact ⟨Nat.zero_le _, Nat.zero_le _⟩
  · have e := (veOk2 h hk).1; rw [e]; exact ⟨Nat.zero_le _, Nat.zero_le _⟩
  · have e := (veOk3 h hk).1; rw [e]; exact ⟨Nat.zero_le _, Nat.zero_le _⟩
  · rw [veOk4 h hk]; exact ⟨Nat.zero_le _, Nat.zero_le _⟩
  · obtain ⟨-, ho, f1, f2, f3, f4⟩ := veOk5 h hk; exact ⟨f3, f4⟩
set_option maxRecDepth 100000 in
set_option maxHeartbeats 4000000 in
theorem law_LinesBack (v : Ve) (pv rv : Value) (s : Bs) (w : World) {F F' : Nat → Prop} (hv : v.ok) (hp : Sl F w pv v.prints) (hr : Sl F' w rv v.result) (hw : Laid w) :
    Calls Tryd.prog 5 #[v.v pv rv, .string (str s)] w (Ret w (.bool true)) := by
  have HAL := Lib.hid (fun w hw => law45_alive w hw)
  have HG := Lib.hid (fun w' (g : Grow w w') => law45_great v pv rv s w' (hp.mono g) (hr.mono g))
  cases hg : greatB v s
  case true =>
    rw [hg] at HG
    go_enter Tryd.func5, Tryd.ntmps5
    go_wp2_with (first
      | (go_at_call 21; ((with_reducible refine (HAL.out _ (hw.grow (by (repeat (first | (with_reducible exact Grow.refl _) | assumption | refine Grow.ext ?_ _ | refine Grow.alloc ?_ _ | refine Grow.drew ?_ | refine Grow.setCell ?_ (by first | (simp; done) | (simp; omega)) _ | refine Grow.trans ?_ (by assumption)))))).mono ?_); rintro e w1 ⟨rfl, hb1⟩; obtain ⟨x1, rfl⟩ := ext_of_grow hb1; clear hb1))
      | (go_at_call 8; ((with_reducible refine (HG.out _ (by (repeat (first | (with_reducible exact Grow.refl _) | assumption | refine Grow.ext ?_ _ | refine Grow.alloc ?_ _ | refine Grow.drew ?_ | refine Grow.setCell ?_ (by first | (simp; done) | (simp; omega)) _ | refine Grow.trans ?_ (by assumption))))).mono ?_); rintro e w2 ⟨rfl, hb2⟩; obtain ⟨x2, rfl⟩ := ext_of_grow hb2; clear hb2)))
    go_ret; exact Ret.bool rfl (by (repeat (first | (with_reducible exact Grow.refl _) | assumption | refine Grow.ext ?_ _ | refine Grow.alloc ?_ _ | refine Grow.drew ?_ | refine Grow.setCell ?_ (by first | (simp; done) | (simp; omega)) _ | refine Grow.trans ?_ (by assumption))))
  rw [hg] at HG
  obtain ⟨l1, l2, l3⟩ := greatB_no hg
  clear hg
  have HT := Lib.hid (fun w' (g : Grow w w') => lines_Text v pv rv w' hv (hp.mono g) (hr.mono g) (by omega) (by omega) (hw.grow g))
  have HC := Lib.hid (fun w' (g : Grow w w') => ref42_Check v pv rv w' hv (hp.mono g) (hr.mono g) (by omega) (by omega))
  have HRS := Lib.hid (lines_Read s (by omega))
  have HE : (rdE s = 12) ∨ (rdE s = 0 ∧ Hid (∀ p r w' F F', Sl F w' p (rdV s).prints → Sl F' w' r (rdV s).result → (rdV s).ok → Laid w' → Calls Tryd.prog 13 #[(rdV s).v p r] w' (Ret w' (.tuple #[.string (str s), .int .i64 0])))) := by
    rcases rdE_or s with h | h
    · refine Or.inr ⟨h, Lib.hid (fun p r w' F F' h1 h2 h3 h4 => ?_)⟩
      obtain ⟨k1, k2⟩ := rd_ok h
      have hl := veOk_len k1
      have := lines_Text (rdV s) p r w' h3 h1 h2 (by omega) (by omega) h4
      have e : txS (rdV s) = s := by unfold txS; rw [if_pos k1, k2]
      rw [e, k1] at this
      exact this
    · exact Or.inl h
  obtain ⟨y, Hy⟩ : ∃ x, Hid (rdV s = x) := ⟨_, Lib.hid rfl⟩
  obtain ⟨g, Hg⟩ : ∃ x, Hid (rdE s = x) := ⟨_, Lib.hid rfl⟩
  rw [Hy.out, Hg.out] at HRS HE
  clear Hy Hg
  cases hk : veOk v
  · have e1 : txS v = [] ∧ opOk (veOk v) = 8 := by unfold txS; rw [hk]; exact ⟨rfl, rfl⟩
    have e2 : opOk false = 8 := rfl
    rw [e1.1] at HT
    rw [hk, e2] at HT HC
    clear e1 e2 hk
    rcases HE with rfl | ⟨rfl, HY⟩
    · go_enter Tryd.func5, Tryd.ntmps5
      go_wp2_with (first
        | (go_at_call 21; ((with_reducible refine (HAL.out _ (hw.grow (by (repeat (first | (with_reducible exact Grow.refl _) | assumption | refine Grow.ext ?_ _ | refine Grow.alloc ?_ _ | refine Grow.drew ?_ | refine Grow.setCell ?_ (by first | (simp; done) | (simp; omega)) _ | refine Grow.trans ?_ (by assumption)))))).mono ?_); rintro e w1 ⟨rfl, hb1⟩; obtain ⟨x1, rfl⟩ := ext_of_grow hb1; clear hb1))
        | (go_at_call 8; ((with_reducible refine (HG.out _ (by (repeat (first | (with_reducible exact Grow.refl _) | assumption | refine Grow.ext ?_ _ | refine Grow.alloc ?_ _ | refine Grow.drew ?_ | refine Grow.setCell ?_ (by first | (simp; done) | (simp; omega)) _ | refine Grow.trans ?_ (by assumption))))).mono ?_); rintro e w2 ⟨rfl, hb2⟩; obtain ⟨x2, rfl⟩ := ext_of_grow hb2; clear hb2))
        | (go_at_call 13; ((with_reducible refine (HT.out _ (by (repeat (first | (with_reducible exact Grow.refl _) | assumption | refine Grow.ext ?_ _ | refine Grow.alloc ?_ _ | refine Grow.drew ?_ | refine Grow.setCell ?_ (by first | (simp; done) | (simp; omega)) _ | refine Grow.trans ?_ (by assumption))))).mono ?_); rintro e w3 ⟨rfl, hb3⟩; obtain ⟨x3, rfl⟩ := ext_of_grow hb3; clear hb3))
        | (go_at_call 22; ((with_reducible refine (HC.out _ (by (repeat (first | (with_reducible exact Grow.refl _) | assumption | refine Grow.ext ?_ _ | refine Grow.alloc ?_ _ | refine Grow.drew ?_ | refine Grow.setCell ?_ (by first | (simp; done) | (simp; omega)) _ | refine Grow.trans ?_ (by assumption))))).mono ?_); rintro e w4 ⟨rfl, hb4⟩; obtain ⟨x4, rfl⟩ := ext_of_grow hb4; clear hb4))
        | (go_at_call 15; ((with_reducible refine (HRS.out _ (hw.grow (by (repeat (first | (with_reducible exact Grow.refl _) | assumption | refine Grow.ext ?_ _ | refine Grow.alloc ?_ _ | refine Grow.drew ?_ | refine Grow.setCell ?_ (by first | (simp; done) | (simp; omega)) _ | refine Grow.trans ?_ (by assumption)))))).mono ?_); rintro e w6 ⟨_, rfl, ⟨qa, qn, qc, ta, tn, tc, rfl, hyok, hyp, hyr⟩, hb6⟩; replace hyok := Lib.hid hyok; obtain ⟨x6, rfl⟩ := ext_of_grow hb6; clear hb6)))
      go_ret; exact Ret.bool rfl (by (repeat (first | (with_reducible exact Grow.refl _) | assumption | refine Grow.ext ?_ _ | refine Grow.alloc ?_ _ | refine Grow.drew ?_ | refine Grow.setCell ?_ (by first | (simp; done) | (simp; omega)) _ | refine Grow.trans ?_ (by assumption))))
    · go_enter Tryd.func5, Tryd.ntmps5
      go_wp2_with (first
        | (go_at_call 21; ((with_reducible refine (HAL.out _ (hw.grow (by (repeat (first | (with_reducible exact Grow.refl _) | assumption | refine Grow.ext ?_ _ | refine Grow.alloc ?_ _ | refine Grow.drew ?_ | refine Grow.setCell ?_ (by first | (simp; done) | (simp; omega)) _ | refine Grow.trans ?_ (by assumption)))))).mono ?_); rintro e w1 ⟨rfl, hb1⟩; obtain ⟨x1, rfl⟩ := ext_of_grow hb1; clear hb1))
        | (go_at_call 8; ((with_reducible refine (HG.out _ (by (repeat (first | (with_reducible exact Grow.refl _) | assumption | refine Grow.ext ?_ _ | refine Grow.alloc ?_ _ | refine Grow.drew ?_ | refine Grow.setCell ?_ (by first | (simp; done) | (simp; omega)) _ | refine Grow.trans ?_ (by assumption))))).mono ?_); rintro e w2 ⟨rfl, hb2⟩; obtain ⟨x2, rfl⟩ := ext_of_grow hb2; clear hb2))
        | (go_at_call 13; ((with_reducible refine (HT.out _ (by (repeat (first | (with_reducible exact Grow.refl _) | assumption | refine Grow.ext ?_ _ | refine Grow.alloc ?_ _ | refine Grow.drew ?_ | refine Grow.setCell ?_ (by first | (simp; done) | (simp; omega)) _ | refine Grow.trans ?_ (by assumption))))).mono ?_); rintro e w3 ⟨rfl, hb3⟩; obtain ⟨x3, rfl⟩ := ext_of_grow hb3; clear hb3))
        | (go_at_call 22; ((with_reducible refine (HC.out _ (by (repeat (first | (with_reducible exact Grow.refl _) | assumption | refine Grow.ext ?_ _ | refine Grow.alloc ?_ _ | refine Grow.drew ?_ | refine Grow.setCell ?_ (by first | (simp; done) | (simp; omega)) _ | refine Grow.trans ?_ (by assumption))))).mono ?_); rintro e w4 ⟨rfl, hb4⟩; obtain ⟨x4, rfl⟩ := ext_of_grow hb4; clear hb4))
        | (go_at_call 15; ((with_reducible refine (HRS.out _ (hw.grow (by (repeat (first | (with_reducible exact Grow.refl _) | assumption | refine Grow.ext ?_ _ | refine Grow.alloc ?_ _ | refine Grow.drew ?_ | refine Grow.setCell ?_ (by first | (simp; done) | (simp; omega)) _ | refine Grow.trans ?_ (by assumption)))))).mono ?_); rintro e w6 ⟨_, rfl, ⟨qa, qn, qc, ta, tn, tc, rfl, hyok, hyp, hyr⟩, hb6⟩; replace hyok := Lib.hid hyok; obtain ⟨x6, rfl⟩ := ext_of_grow hb6; clear hb6))
        | (go_at_call 13; ((with_reducible refine (HY.out _ _ _ _ _ (hyp.mono (by (repeat (first | (with_reducible exact Grow.refl _) | assumption | refine Grow.ext ?_ _ | refine Grow.alloc ?_ _ | refine Grow.drew ?_ | refine Grow.setCell ?_ (by first | (simp; done) | (simp; omega)) _ | refine Grow.trans ?_ (by assumption))))) (hyr.mono (by (repeat (first | (with_reducible exact Grow.refl _) | assumption | refine Grow.ext ?_ _ | refine Grow.alloc ?_ _ | refine Grow.drew ?_ | refine Grow.setCell ?_ (by first | (simp; done) | (simp; omega)) _ | refine Grow.trans ?_ (by assumption))))) hyok.out (hw.grow (by (repeat (first | (with_reducible exact Grow.refl _) | assumption | refine Grow.ext ?_ _ | refine Grow.alloc ?_ _ | refine Grow.drew ?_ | refine Grow.setCell ?_ (by first | (simp; done) | (simp; omega)) _ | refine Grow.trans ?_ (by assumption)))))).mono ?_); rintro e w7 ⟨rfl, hb7⟩; obtain ⟨x7, rfl⟩ := ext_of_grow hb7; clear hb7)))
      go_ret; exact Ret.bool rfl (by (repeat (first | (with_reducible exact Grow.refl _) | assumption | refine Grow.ext ?_ _ | refine Grow.alloc ?_ _ | refine Grow.drew ?_ | refine Grow.setCell ?_ (by first | (simp; done) | (simp; omega)) _ | refine Grow.trans ?_ (by assumption))))
  · have e1 : txS v = written v := by unfold txS; rw [hk]; rfl
    have e2 : opOk true = 0 := rfl
    have hwl := written_len hk hv
    have hrw := rd_written hk hv
    rw [e1] at HT
    rw [hk, e2] at HT HC
    have HRW := Lib.hid (lines_Read (written v) (by omega))
    rw [hrw.1, hrw.2] at HRW
    obtain ⟨t, Ht⟩ : ∃ x, Hid (written v = x) := ⟨_, Lib.hid rfl⟩
    rw [Ht.out] at HT HRW
    have HS := Lib.hid (fun p2 r2 w' F3 F4 (g : Grow w w') (hx : v.ok) (h3 : Sl F3 w' p2 v.prints) (h4 : Sl F4 w' r2 v.result) => by have h := ref42_Same v v pv rv p2 r2 w' hv hx (hp.mono g) (hr.mono g) h3 h4; rw [decide_eq_true rfl] at h; exact h)
    clear e1 e2 hk hwl hrw Ht
    rcases HE with rfl | ⟨rfl, HY⟩
    · go_enter Tryd.func5, Tryd.ntmps5
      go_wp2_with (first
        | (go_at_call 21; ((with_reducible refine (HAL.out _ (hw.grow (by (repeat (first | (with_reducible exact Grow.refl _) | assumption | refine Grow.ext ?_ _ | refine Grow.alloc ?_ _ | refine Grow.drew ?_ | refine Grow.setCell ?_ (by first | (simp; done) | (simp; omega)) _ | refine Grow.trans ?_ (by assumption)))))).mono ?_); rintro e w1 ⟨rfl, hb1⟩; obtain ⟨x1, rfl⟩ := ext_of_grow hb1; clear hb1))
        | (go_at_call 8; ((with_reducible refine (HG.out _ (by (repeat (first | (with_reducible exact Grow.refl _) | assumption | refine Grow.ext ?_ _ | refine Grow.alloc ?_ _ | refine Grow.drew ?_ | refine Grow.setCell ?_ (by first | (simp; done) | (simp; omega)) _ | refine Grow.trans ?_ (by assumption))))).mono ?_); rintro e w2 ⟨rfl, hb2⟩; obtain ⟨x2, rfl⟩ := ext_of_grow hb2; clear hb2))
        | (go_at_call 13; ((with_reducible refine (HT.out _ (by (repeat (first | (with_reducible exact Grow.refl _) | assumption | refine Grow.ext ?_ _ | refine Grow.alloc ?_ _ | refine Grow.drew ?_ | refine Grow.setCell ?_ (by first | (simp; done) | (simp; omega)) _ | refine Grow.trans ?_ (by assumption))))).mono ?_); rintro e w3 ⟨rfl, hb3⟩; obtain ⟨x3, rfl⟩ := ext_of_grow hb3; clear hb3))
        | (go_at_call 22; ((with_reducible refine (HC.out _ (by (repeat (first | (with_reducible exact Grow.refl _) | assumption | refine Grow.ext ?_ _ | refine Grow.alloc ?_ _ | refine Grow.drew ?_ | refine Grow.setCell ?_ (by first | (simp; done) | (simp; omega)) _ | refine Grow.trans ?_ (by assumption))))).mono ?_); rintro e w4 ⟨rfl, hb4⟩; obtain ⟨x4, rfl⟩ := ext_of_grow hb4; clear hb4))
        | (go_at_call 15; ((with_reducible refine (HRW.out _ (hw.grow (by (repeat (first | (with_reducible exact Grow.refl _) | assumption | refine Grow.ext ?_ _ | refine Grow.alloc ?_ _ | refine Grow.drew ?_ | refine Grow.setCell ?_ (by first | (simp; done) | (simp; omega)) _ | refine Grow.trans ?_ (by assumption)))))).mono ?_); rintro e w5 ⟨_, rfl, ⟨ua, un, uc, va, vn, vc, rfl, hxok, hxp, hxr⟩, hb5⟩; replace hxok := Lib.hid hxok; obtain ⟨x5, rfl⟩ := ext_of_grow hb5; clear hb5))
        | (go_at_call 17; ((with_reducible refine (HS.out _ _ _ _ _ (by (repeat (first | (with_reducible exact Grow.refl _) | assumption | refine Grow.ext ?_ _ | refine Grow.alloc ?_ _ | refine Grow.drew ?_ | refine Grow.setCell ?_ (by first | (simp; done) | (simp; omega)) _ | refine Grow.trans ?_ (by assumption)))) hxok.out (hxp.mono (by (repeat (first | (with_reducible exact Grow.refl _) | assumption | refine Grow.ext ?_ _ | refine Grow.alloc ?_ _ | refine Grow.drew ?_ | refine Grow.setCell ?_ (by first | (simp; done) | (simp; omega)) _ | refine Grow.trans ?_ (by assumption))))) (hxr.mono (by (repeat (first | (with_reducible exact Grow.refl _) | assumption | refine Grow.ext ?_ _ | refine Grow.alloc ?_ _ | refine Grow.drew ?_ | refine Grow.setCell ?_ (by first | (simp; done) | (simp; omega)) _ | refine Grow.trans ?_ (by assumption)))))).mono ?_); rintro e w8 ⟨rfl, hb8⟩; obtain ⟨x8, rfl⟩ := ext_of_grow hb8; clear hb8))
        | (go_at_call 15; ((with_reducible refine (HRS.out _ (hw.grow (by (repeat (first | (with_reducible exact Grow.refl _) | assumption | refine Grow.ext ?_ _ | refine Grow.alloc ?_ _ | refine Grow.drew ?_ | refine Grow.setCell ?_ (by first | (simp; done) | (simp; omega)) _ | refine Grow.trans ?_ (by assumption)))))).mono ?_); rintro e w6 ⟨_, rfl, ⟨qa, qn, qc, ta, tn, tc, rfl, hyok, hyp, hyr⟩, hb6⟩; replace hyok := Lib.hid hyok; obtain ⟨x6, rfl⟩ := ext_of_grow hb6; clear hb6)))
      go_ret; exact Ret.bool rfl (by (repeat (first | (with_reducible exact Grow.refl _) | assumption | refine Grow.ext ?_ _ | refine Grow.alloc ?_ _ | refine Grow.drew ?_ | refine Grow.setCell ?_ (by first | (simp; done) | (simp; omega)) _ | refine Grow.trans ?_ (by assumption))))
    · go_enter Tryd.func5, Tryd.ntmps5
      go_wp2_with (first
        | (go_at_call 21; ((with_reducible refine (HAL.out _ (hw.grow (by (repeat (first | (with_reducible exact Grow.refl _) | assumption | refine Grow.ext ?_ _ | refine Grow.alloc ?_ _ | refine Grow.drew ?_ | refine Grow.setCell ?_ (by first | (simp; done) | (simp; omega)) _ | refine Grow.trans ?_ (by assumption)))))).mono ?_); rintro e w1 ⟨rfl, hb1⟩; obtain ⟨x1, rfl⟩ := ext_of_grow hb1; clear hb1))
        | (go_at_call 8; ((with_reducible refine (HG.out _ (by (repeat (first | (with_reducible exact Grow.refl _) | assumption | refine Grow.ext ?_ _ | refine Grow.alloc ?_ _ | refine Grow.drew ?_ | refine Grow.setCell ?_ (by first | (simp; done) | (simp; omega)) _ | refine Grow.trans ?_ (by assumption))))).mono ?_); rintro e w2 ⟨rfl, hb2⟩; obtain ⟨x2, rfl⟩ := ext_of_grow hb2; clear hb2))
        | (go_at_call 13; ((with_reducible refine (HT.out _ (by (repeat (first | (with_reducible exact Grow.refl _) | assumption | refine Grow.ext ?_ _ | refine Grow.alloc ?_ _ | refine Grow.drew ?_ | refine Grow.setCell ?_ (by first | (simp; done) | (simp; omega)) _ | refine Grow.trans ?_ (by assumption))))).mono ?_); rintro e w3 ⟨rfl, hb3⟩; obtain ⟨x3, rfl⟩ := ext_of_grow hb3; clear hb3))
        | (go_at_call 22; ((with_reducible refine (HC.out _ (by (repeat (first | (with_reducible exact Grow.refl _) | assumption | refine Grow.ext ?_ _ | refine Grow.alloc ?_ _ | refine Grow.drew ?_ | refine Grow.setCell ?_ (by first | (simp; done) | (simp; omega)) _ | refine Grow.trans ?_ (by assumption))))).mono ?_); rintro e w4 ⟨rfl, hb4⟩; obtain ⟨x4, rfl⟩ := ext_of_grow hb4; clear hb4))
        | (go_at_call 15; ((with_reducible refine (HRW.out _ (hw.grow (by (repeat (first | (with_reducible exact Grow.refl _) | assumption | refine Grow.ext ?_ _ | refine Grow.alloc ?_ _ | refine Grow.drew ?_ | refine Grow.setCell ?_ (by first | (simp; done) | (simp; omega)) _ | refine Grow.trans ?_ (by assumption)))))).mono ?_); rintro e w5 ⟨_, rfl, ⟨ua, un, uc, va, vn, vc, rfl, hxok, hxp, hxr⟩, hb5⟩; replace hxok := Lib.hid hxok; obtain ⟨x5, rfl⟩ := ext_of_grow hb5; clear hb5))
        | (go_at_call 17; ((with_reducible refine (HS.out _ _ _ _ _ (by (repeat (first | (with_reducible exact Grow.refl _) | assumption | refine Grow.ext ?_ _ | refine Grow.alloc ?_ _ | refine Grow.drew ?_ | refine Grow.setCell ?_ (by first | (simp; done) | (simp; omega)) _ | refine Grow.trans ?_ (by assumption)))) hxok.out (hxp.mono (by (repeat (first | (with_reducible exact Grow.refl _) | assumption | refine Grow.ext ?_ _ | refine Grow.alloc ?_ _ | refine Grow.drew ?_ | refine Grow.setCell ?_ (by first | (simp; done) | (simp; omega)) _ | refine Grow.trans ?_ (by assumption))))) (hxr.mono (by (repeat (first | (with_reducible exact Grow.refl _) | assumption | refine Grow.ext ?_ _ | refine Grow.alloc ?_ _ | refine Grow.drew ?_ | refine Grow.setCell ?_ (by first | (simp; done) | (simp; omega)) _ | refine Grow.trans ?_ (by assumption)))))).mono ?_); rintro e w8 ⟨rfl, hb8⟩; obtain ⟨x8, rfl⟩ := ext_of_grow hb8; clear hb8))
        | (go_at_call 15; ((with_reducible refine (HRS.out _ (hw.grow (by (repeat (first | (with_reducible exact Grow.refl _) | assumption | refine Grow.ext ?_ _ | refine Grow.alloc ?_ _ | refine Grow.drew ?_ | refine Grow.setCell ?_ (by first | (simp; done) | (simp; omega)) _ | refine Grow.trans ?_ (by assumption)))))).mono ?_); rintro e w6 ⟨_, rfl, ⟨qa, qn, qc, ta, tn, tc, rfl, hyok, hyp, hyr⟩, hb6⟩; replace hyok := Lib.hid hyok; obtain ⟨x6, rfl⟩ := ext_of_grow hb6; clear hb6))
        | (go_at_call 13; ((with_reducible refine (HY.out _ _ _ _ _ (hyp.mono (by (repeat (first | (with_reducible exact Grow.refl _) | assumption | refine Grow.ext ?_ _ | refine Grow.alloc ?_ _ | refine Grow.drew ?_ | refine Grow.setCell ?_ (by first | (simp; done) | (simp; omega)) _ | refine Grow.trans ?_ (by assumption))))) (hyr.mono (by (repeat (first | (with_reducible exact Grow.refl _) | assumption | refine Grow.ext ?_ _ | refine Grow.alloc ?_ _ | refine Grow.drew ?_ | refine Grow.setCell ?_ (by first | (simp; done) | (simp; omega)) _ | refine Grow.trans ?_ (by assumption))))) hyok.out (hw.grow (by (repeat (first | (with_reducible exact Grow.refl _) | assumption | refine Grow.ext ?_ _ | refine Grow.alloc ?_ _ | refine Grow.drew ?_ | refine Grow.setCell ?_ (by first | (simp; done) | (simp; omega)) _ | refine Grow.trans ?_ (by assumption)))))).mono ?_); rintro e w7 ⟨rfl, hb7⟩; obtain ⟨x7, rfl⟩ := ext_of_grow hb7; clear hb7)))
      go_ret; exact Ret.bool rfl (by (repeat (first | (with_reducible exact Grow.refl _) | assumption | refine Grow.ext ?_ _ | refine Grow.alloc ?_ _ | refine Grow.drew ?_ | refine Grow.setCell ?_ (by first | (simp; done) | (simp; omega)) _ | refine Grow.trans ?_ (by assumption))))
end Go.Proofs.YtjllaogechckoaaDoor
