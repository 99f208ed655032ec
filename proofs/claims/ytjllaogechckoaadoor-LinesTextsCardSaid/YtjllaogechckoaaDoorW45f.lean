/- Layer 45: a verdict as text. -/
import Derived.Test.YtjllaogechckoaaDoorW45b
import Derived.Test.YtjllaogechckoaaDoorW45e
import Derived.Test.YtjllaogechckoaaDoorW45p
import Derived.Deep.DeepCutAuto
import Derived.Deep.CutBlock
namespace Go.Proofs.YtjllaogechckoaaDoor
open Go.RowKit
set_option linter.unusedSimpArgs false
set_option linter.unusedVariables false

theorem outS_len (o : Int) : (outS o).length ≤ 20 := by
  have h : ∀ w ∈ words, w.length ≤ 20 := by decide +kernel
  unfold outS outW
  split
  · cases hw : words[(o - 1).toNat]? with
    | none => simp
    | some w => exact h w (List.mem_of_getElem? hw)
  · simp
theorem wr1 {v : Ve} (h : veOk v = true) (hk : v.kind = 1) : written v = t_form ++ 32 :: Lib.itoa v.err := by
  have e := (veOk1 h hk).1; rw [e]; exact written_1 _
theorem wr2 {v : Ve} (h : veOk v = true) (hk : v.kind = 2) : written v = t_type ++ 32 :: Lib.itoa v.err := by
  have e := (veOk2 h hk).1; rw [e]; exact written_2 _
theorem wr3 {v : Ve} (h : veOk v = true) (hk : v.kind = 3) : written v = t_borrow ++ 32 :: joinS (partsB v.fn v.at_ v.loan v.pl v.write v.deep) := by
  have e := (veOk3 h hk).1; rw [e]; exact written_3 _ _ _ _ _ _
theorem wr4 {v : Ve} (h : veOk v = true) (hk : v.kind = 4) : written v = t_inputs := by
  rw [veOk4 h hk]; rfl
theorem wr5 {v : Ve} {ow : Bs} (h : veOk v = true) (hk : v.kind = 5) (ho : outW v.out = some ow) : written v = t_ran ++ 32 :: ((ow ++ 32 :: Lib.itoa v.steps) ++ 32 :: (t_prints ++ (listT v.prints ++ 32 :: (t_result ++ listT v.result)))) := by
  have e := (veOk5 h hk).1; rw [e]; exact written_5 ho _ _ _
def txS (v : Ve) : Bs := if veOk v then written v else []
set_option maxRecDepth 100000 in
set_option maxHeartbeats 4000000 in
theorem lines_Text (v : Ve) (pv rv : Value) (w : World) {F F' : Nat → Prop} (hv : v.ok) (hp : Sl F w pv v.prints) (hr : Sl F' w rv v.result) (h1 : v.prints.length ≤ 300) (h2 : v.result.length ≤ 300) (hw : Laid w) :
    Calls Tryd.prog 13 #[v.v pv rv] w (Ret w (.tuple #[.string (str (txS v)), .int .i64 (opOk (veOk v))])) := by
  have hp0 := hp.old; have hr0 := hr.old
  obtain ⟨pa, pn, pc, rfl, Hpn, hpm, hpcap, hpcm, hp⟩ := hp0.open
  obtain ⟨ra, rn, rc, rfl, Hrn, hrm, hrcap, hrcm, hr⟩ := hr0.open
  have HC := Lib.hid (fun w' (g : Grow w w') => driver_Check v (.slice pa pn pc) (.slice ra rn rc) w' hv (hp.mono g) (hr.mono g) (by omega) (by omega))
  cases hok : veOk v
  · have Ht : Hid (txS v = []) := Lib.hid (by unfold txS; rw [hok]; rfl)
    rw [Ht.out]
    rw [hok] at HC
    rw [show opOk false = 8 from rfl] at HC ⊢
    go_enter Tryd.func13, Tryd.ntmps13
    go_wp2_with (first | (go_at_call 25; ((with_reducible refine (HC.out _ (by (repeat (first | (with_reducible exact Grow.refl _) | assumption | refine Grow.ext ?_ _ | refine Grow.alloc ?_ _ | refine Grow.drew ?_ | refine Grow.setCell ?_ (by first | (simp; done) | (simp; omega)) _ | refine Grow.trans ?_ (by assumption))))).mono ?_); rintro e w1 ⟨rfl, hb1⟩; obtain ⟨x1, rfl⟩ := ext_of_grow hb1; clear hb1)))
    go_ret2
    exact Ret.mk rfl (by (repeat (first | (with_reducible exact Grow.refl _) | assumption | refine Grow.ext ?_ _ | refine Grow.alloc ?_ _ | refine Grow.drew ?_ | refine Grow.setCell ?_ (by first | (simp; done) | (simp; omega)) _ | refine Grow.trans ?_ (by assumption))))
  · have Ht : Hid (txS v = written v) := Lib.hid (by unfold txS; rw [hok]; rfl)
    rw [Ht.out]
    rw [hok] at HC
    rw [show opOk true = 0 from rfl] at HC ⊢
    have Hok := Lib.hid hok
    clear hok Ht
    obtain ⟨T, HT⟩ : ∃ T, Hid (written v = T) := ⟨_, Lib.hid rfl⟩
    rw [HT.out]
    rcases veOk_kind Hok.out with hk | hk | hk | hk | hk
    · have Hw := Lib.hid (wr1 Hok.out hk)
      have hl := itoa_len hv.err
      have HI := Lib.hid (fun w hw => itoa_c v.err hv.err w hw)
      have hq1 : (v.kind == 1) = true := beq_iff_eq.2 hk
      clear hk
      go_enter Tryd.func13, Tryd.ntmps13
      go_wp2_with (first | (go_at_call 25; ((with_reducible refine (HC.out _ (by (repeat (first | (with_reducible exact Grow.refl _) | assumption | refine Grow.ext ?_ _ | refine Grow.alloc ?_ _ | refine Grow.drew ?_ | refine Grow.setCell ?_ (by first | (simp; done) | (simp; omega)) _ | refine Grow.trans ?_ (by assumption))))).mono ?_); rintro e w1 ⟨rfl, hb1⟩; obtain ⟨x1, rfl⟩ := ext_of_grow hb1; clear hb1)) | (go_at_call 26; ((with_reducible refine (HI.out _ (hw.grow (by (repeat (first | (with_reducible exact Grow.refl _) | assumption | refine Grow.ext ?_ _ | refine Grow.alloc ?_ _ | refine Grow.drew ?_ | refine Grow.setCell ?_ (by first | (simp; done) | (simp; omega)) _ | refine Grow.trans ?_ (by assumption)))))).mono ?_); rintro e w2 ⟨rfl, hb2⟩; obtain ⟨x2, rfl⟩ := ext_of_grow hb2; clear hb2)))
      go_ret2
      rw [← HT.out, Hw.out]
      exact Ret.mk (by simp [ByteArray.ext_iff]) (by (repeat (first | (with_reducible exact Grow.refl _) | assumption | refine Grow.ext ?_ _ | refine Grow.alloc ?_ _ | refine Grow.drew ?_ | refine Grow.setCell ?_ (by first | (simp; done) | (simp; omega)) _ | refine Grow.trans ?_ (by assumption))))
    · have Hw := Lib.hid (wr2 Hok.out hk)
      have hl := itoa_len hv.err
      have HI := Lib.hid (fun w hw => itoa_c v.err hv.err w hw)
      have hq1 : (v.kind == 1) = false := beq_eq_false_iff_ne.2 (by omega)
      have hq2 : (v.kind == 2) = true := beq_iff_eq.2 hk
      clear hk
      go_enter Tryd.func13, Tryd.ntmps13
      go_wp2_with (first | (go_at_call 25; ((with_reducible refine (HC.out _ (by (repeat (first | (with_reducible exact Grow.refl _) | assumption | refine Grow.ext ?_ _ | refine Grow.alloc ?_ _ | refine Grow.drew ?_ | refine Grow.setCell ?_ (by first | (simp; done) | (simp; omega)) _ | refine Grow.trans ?_ (by assumption))))).mono ?_); rintro e w1 ⟨rfl, hb1⟩; obtain ⟨x1, rfl⟩ := ext_of_grow hb1; clear hb1)) | (go_at_call 26; ((with_reducible refine (HI.out _ (hw.grow (by (repeat (first | (with_reducible exact Grow.refl _) | assumption | refine Grow.ext ?_ _ | refine Grow.alloc ?_ _ | refine Grow.drew ?_ | refine Grow.setCell ?_ (by first | (simp; done) | (simp; omega)) _ | refine Grow.trans ?_ (by assumption)))))).mono ?_); rintro e w2 ⟨rfl, hb2⟩; obtain ⟨x2, rfl⟩ := ext_of_grow hb2; clear hb2)))
      go_ret2
      rw [← HT.out, Hw.out]
      exact Ret.mk (by simp [ByteArray.ext_iff]) (by (repeat (first | (with_reducible exact Grow.refl _) | assumption | refine Grow.ext ?_ _ | refine Grow.alloc ?_ _ | refine Grow.drew ?_ | refine Grow.setCell ?_ (by first | (simp; done) | (simp; omega)) _ | refine Grow.trans ?_ (by assumption))))
    · have Hw := Lib.hid (wr3 Hok.out hk)
      obtain ⟨-, f1, f2, f3, f4, f5⟩ := veOk3 Hok.out hk
      have hl1 := itoa_len hv.fn
      have hl2 := itoa_len hv.at_
      have hl3 := itoa_len hv.loan
      have hl4 := plText_len f5
      have HI1 := Lib.hid (fun w hw => itoa_c v.fn hv.fn w hw)
      have HI2 := Lib.hid (fun w hw => itoa_c v.at_ hv.at_ w hw)
      have HI3 := Lib.hid (fun w hw => itoa_c v.loan hv.loan w hw)
      have HP := Lib.hid (fun w => place_Text v.pl hv.pl w)
      rw [f5] at HP
      simp only [if_true] at HP
      obtain ⟨tx, Htx⟩ : ∃ tx, Hid (plText v.pl = tx) := ⟨_, Lib.hid rfl⟩
      rw [Htx.out] at HP hl4
      have Hw' : Hid (written v = t_borrow ++ 32 :: joinS [102 :: Lib.itoa v.fn, t_at, Lib.itoa v.at_, t_loan, Lib.itoa v.loan, (if v.write = true then t_write else t_read), (if v.deep = true then t_deep else t_shallow), tx]) := Lib.hid (by rw [Hw.out, ← Htx.out]; rfl)
      have hq1 : (v.kind == 1) = false := beq_eq_false_iff_ne.2 (by omega)
      have hq2 : (v.kind == 2) = false := beq_eq_false_iff_ne.2 (by omega)
      have hq4 : (v.kind == 4) = false := beq_eq_false_iff_ne.2 (by omega)
      have hq5 : (v.kind == 5) = false := beq_eq_false_iff_ne.2 (by omega)
      clear hk
      obtain ⟨wb, Hwb⟩ : ∃ b, Hid (v.write = b) := ⟨_, Lib.hid rfl⟩
      obtain ⟨db, Hdb⟩ : ∃ b, Hid (v.deep = b) := ⟨_, Lib.hid rfl⟩
      go_enter Tryd.func13, Tryd.ntmps13
      go_upto_region 20 with (first | (go_at_call 25; ((with_reducible refine (HC.out _ (by (repeat (first | (with_reducible exact Grow.refl _) | assumption | refine Grow.ext ?_ _ | refine Grow.alloc ?_ _ | refine Grow.drew ?_ | refine Grow.setCell ?_ (by first | (simp; done) | (simp; omega)) _ | refine Grow.trans ?_ (by assumption))))).mono ?_); rintro e w1 ⟨rfl, hb1⟩; obtain ⟨x1, rfl⟩ := ext_of_grow hb1; clear hb1)) | (go_at_call 28; ((with_reducible refine (HP.out _).mono ?_); rintro e w2 ⟨rfl, hb2⟩; obtain ⟨x2, rfl⟩ := ext_of_grow hb2; clear hb2)))
      all_goals (refine wp_region_ext (by kernel_rfl) (by kernel_rfl) ?_; (repeat (any_goals (first | go_big_quiet_step (first | (go_at_call 26; with_reducible refine ext_call (HI1.out _ (hw.grow (by (repeat (first | (with_reducible exact Grow.refl _) | assumption | refine Grow.ext ?_ _ | refine Grow.alloc ?_ _ | refine Grow.drew ?_ | refine Grow.setCell ?_ (by first | (simp; done) | (simp; omega)) _ | refine Grow.trans ?_ (by assumption))))))) | (go_at_call 26; with_reducible refine ext_call (HI2.out _ (hw.grow (by (repeat (first | (with_reducible exact Grow.refl _) | assumption | refine Grow.ext ?_ _ | refine Grow.alloc ?_ _ | refine Grow.drew ?_ | refine Grow.setCell ?_ (by first | (simp; done) | (simp; omega)) _ | refine Grow.trans ?_ (by assumption))))))) | (go_at_call 26; with_reducible refine ext_call (HI3.out _ (hw.grow (by (repeat (first | (with_reducible exact Grow.refl _) | assumption | refine Grow.ext ?_ _ | refine Grow.alloc ?_ _ | refine Grow.drew ?_ | refine Grow.setCell ?_ (by first | (simp; done) | (simp; omega)) _ | refine Grow.trans ?_ (by assumption)))))))) | (refine wpQuiet_step (fun K hK => ?_); go_simp; split <;> (refine hK _ ?_; clear hK K))))); all_goals (refine wpQuiet_nil ?_; intro w20 hb20; obtain ⟨x20, rfl⟩ := ext_of_grow hb20; clear hb20))
      all_goals
        go_wp2_with fail
        go_ret2
        rw [← HT.out, Hw'.out]
        exact Ret.mk (by simp [ByteArray.ext_iff, joinS, *]) (by (repeat (first | (with_reducible exact Grow.refl _) | assumption | refine Grow.ext ?_ _ | refine Grow.alloc ?_ _ | refine Grow.drew ?_ | refine Grow.setCell ?_ (by first | (simp; done) | (simp; omega)) _ | refine Grow.trans ?_ (by assumption))))
    · have Hw := Lib.hid (wr4 Hok.out hk)
      have hq1 : (v.kind == 1) = false := beq_eq_false_iff_ne.2 (by omega)
      have hq2 : (v.kind == 2) = false := beq_eq_false_iff_ne.2 (by omega)
      have hq4 : (v.kind == 4) = true := beq_iff_eq.2 hk
      clear hk
      go_enter Tryd.func13, Tryd.ntmps13
      go_wp2_with (first | (go_at_call 25; ((with_reducible refine (HC.out _ (by (repeat (first | (with_reducible exact Grow.refl _) | assumption | refine Grow.ext ?_ _ | refine Grow.alloc ?_ _ | refine Grow.drew ?_ | refine Grow.setCell ?_ (by first | (simp; done) | (simp; omega)) _ | refine Grow.trans ?_ (by assumption))))).mono ?_); rintro e w1 ⟨rfl, hb1⟩; obtain ⟨x1, rfl⟩ := ext_of_grow hb1; clear hb1)))
      go_ret2
      rw [← HT.out, Hw.out]
      exact Ret.mk rfl (by (repeat (first | (with_reducible exact Grow.refl _) | assumption | refine Grow.ext ?_ _ | refine Grow.alloc ?_ _ | refine Grow.drew ?_ | refine Grow.setCell ?_ (by first | (simp; done) | (simp; omega)) _ | refine Grow.trans ?_ (by assumption))))
    · obtain ⟨-, ho, f1, f2, f3, f4⟩ := veOk5 Hok.out hk
      obtain ⟨ow, ho1, ho2, ho3⟩ := outW_of ho
      have Hw := Lib.hid (wr5 Hok.out hk ho1)
      have HO := Lib.hid (fun w => lines_Outcome v.out hv.out w)
      have e1 : outS v.out = ow ∧ outE v.out = 0 := ⟨by unfold outS; rw [ho1]; rfl, by unfold outE; rw [if_pos ho]⟩
      have hl0 := outS_len v.out
      rw [e1.1] at hl0
      rw [e1.1, e1.2] at HO
      have hl1 := itoa_len hv.steps
      have hl2 := listT_len v.prints hv.prints
      have hl3 := listT_len v.result hv.result
      have HI := Lib.hid (fun w hw => itoa_c v.steps hv.steps w hw)
      have HL1 := Lib.hid (fun w' (g : Grow w w') => lines_list (.slice pa pn pc) v.prints w' (hp.mono g) h1 (hw.grow g))
      have HL2 := Lib.hid (fun w' (g : Grow w w') => lines_list (.slice ra rn rc) v.result w' (hr.mono g) h2 (hw.grow g))
      obtain ⟨tp, Htp⟩ : ∃ tx, Hid (listT v.prints = tx) := ⟨_, Lib.hid rfl⟩
      obtain ⟨tr, Htr⟩ : ∃ tx, Hid (listT v.result = tx) := ⟨_, Lib.hid rfl⟩
      rw [Htp.out] at HL1 hl2
      rw [Htr.out] at HL2 hl3
      clear e1 ho1 ho2
      have hq1 : (v.kind == 1) = false := beq_eq_false_iff_ne.2 (by omega)
      have hq2 : (v.kind == 2) = false := beq_eq_false_iff_ne.2 (by omega)
      have hq4 : (v.kind == 4) = false := beq_eq_false_iff_ne.2 (by omega)
      have hq5 : (v.kind == 5) = true := beq_iff_eq.2 hk
      clear hk
      go_enter Tryd.func13, Tryd.ntmps13
      go_upto_region 12 with (first | (go_at_call 25; ((with_reducible refine (HC.out _ (by (repeat (first | (with_reducible exact Grow.refl _) | assumption | refine Grow.ext ?_ _ | refine Grow.alloc ?_ _ | refine Grow.drew ?_ | refine Grow.setCell ?_ (by first | (simp; done) | (simp; omega)) _ | refine Grow.trans ?_ (by assumption))))).mono ?_); rintro e w1 ⟨rfl, hb1⟩; obtain ⟨x1, rfl⟩ := ext_of_grow hb1; clear hb1)) | (go_at_call 9; ((with_reducible refine (HO.out _).mono ?_); rintro e w2 ⟨rfl, hb2⟩; obtain ⟨x2, rfl⟩ := ext_of_grow hb2; clear hb2)))
      (refine wp_region_ext (by kernel_rfl) (by kernel_rfl) ?_; (repeat (any_goals (first | go_big_quiet_step (first | (go_at_call 26; with_reducible refine ext_call (HI.out _ (hw.grow (by (repeat (first | (with_reducible exact Grow.refl _) | assumption | refine Grow.ext ?_ _ | refine Grow.alloc ?_ _ | refine Grow.drew ?_ | refine Grow.setCell ?_ (by first | (simp; done) | (simp; omega)) _ | refine Grow.trans ?_ (by assumption))))))) | (go_at_call 27; with_reducible refine ext_call (HL1.out _ (by (repeat (first | (with_reducible exact Grow.refl _) | assumption | refine Grow.ext ?_ _ | refine Grow.alloc ?_ _ | refine Grow.drew ?_ | refine Grow.setCell ?_ (by first | (simp; done) | (simp; omega)) _ | refine Grow.trans ?_ (by assumption)))))) | (go_at_call 27; with_reducible refine ext_call (HL2.out _ (by (repeat (first | (with_reducible exact Grow.refl _) | assumption | refine Grow.ext ?_ _ | refine Grow.alloc ?_ _ | refine Grow.drew ?_ | refine Grow.setCell ?_ (by first | (simp; done) | (simp; omega)) _ | refine Grow.trans ?_ (by assumption))))))) | (refine wpQuiet_step (fun K hK => ?_); go_simp; split <;> (refine hK _ ?_; clear hK K))))); all_goals (refine wpQuiet_nil ?_; intro w12 hb12; obtain ⟨x12, rfl⟩ := ext_of_grow hb12; clear hb12))
      go_wp2_with fail
      go_ret2
      rw [← HT.out, Hw.out, Htp.out, Htr.out]
      exact Ret.mk (by simp [ByteArray.ext_iff]) (by (repeat (first | (with_reducible exact Grow.refl _) | assumption | refine Grow.ext ?_ _ | refine Grow.alloc ?_ _ | refine Grow.drew ?_ | refine Grow.setCell ?_ (by first | (simp; done) | (simp; omega)) _ | refine Grow.trans ?_ (by assumption))))
end Go.Proofs.YtjllaogechckoaaDoor
