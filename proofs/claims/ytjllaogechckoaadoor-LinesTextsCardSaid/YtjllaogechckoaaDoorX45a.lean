/- Layer 45, the reference: words read, verdicts written, texts. -/
import Derived.Test.YtjllaogechckoaaDoorW45n
import Derived.Test.YtjllaogechckoaaDoorW45j
namespace Go.Proofs.YtjllaogechckoaaDoor
open Go.RowKit
set_option linter.unusedSimpArgs false
set_option linter.unusedVariables false

theorem rout_good (j : Nat) (x : Bs) (hj : j < 8) (hx : words[j]? = some x) (w : World) : Calls Tryd.prog 10 #[.int .u8 ((j : Int) + 1)] w (Ret w (.tuple #[.string (str x), .int .i64 0])) := by
  have := ref45_Outcome ((j : Int) + 1) ⟨by omega, by omega⟩ w
  rw [(outS_of hj hx).1, (outS_of hj hx).2] at this; exact this
set_option maxRecDepth 100000 in
set_option maxHeartbeats 2000000 in
theorem ref45_OutcomeOf (s : Bs) (w : World) : Calls Tryd.prog 12 #[.string (str s)] w (Ret w (.tuple #[.int .u8 (ofW s), .int .i64 (ofE s)])) := by
  go_enter Tryd.func12, Tryd.ntmps12
  go_wp2_with fail
  go_loopw [4] (fun iv wr => ∃ (k : Nat) (x : Ext), iv = .int .u8 ((k : Int) + 1) ∧ k ≤ 8 ∧ wr = ext w x ∧ Hid (∀ j, j < k → words[j]? ≠ some s)) (fun iv _ => 9 - (intOf iv).toNat)
  case atStart => exact ⟨0, _, rfl, by omega, (ext_self _).symm, Lib.hid (fun j hj => by omega)⟩
  case round =>
    obtain ⟨k, x, rfl, hk, rfl, Hn⟩ := hrel
    by_cases hlt : k < 8
    · obtain ⟨t, ht⟩ : ∃ t, Hid (words[k]? = some t) := ⟨_, Lib.hid (List.getElem?_eq_getElem (by simp [words]; omega))⟩
      have HO := Lib.hid (rout_good k t hlt ht.out)
      have hle : ((k : Int) + 1) ≤ 8 := by omega
      have hu : IntKind.u8.wrap ((k : Int) + 1 + 1) = (k : Int) + 1 + 1 := by rw [IntKind.wrap_u8]; omega
      cases heq : (t == s)
      · go_wp2_with (first | (go_at_call 10; ((with_reducible refine (HO.out _).mono ?_); rintro e w1 ⟨rfl, hb1⟩; obtain ⟨x1, rfl⟩ := ext_of_grow hb1; clear hb1)))
        refine ⟨⟨k + 1, _, by go_num, by omega, ext_ext _ _ _, Lib.hid (fun j hj => ?_)⟩, by simp [intOf]; omega⟩
        by_cases e : j = k
        · subst e; rw [ht.out]; intro h; injection h with h; exact (beq_eq_false_iff_ne.1 heq) h
        · exact Hn.out j (by omega)
      · go_wp2_with (first | (go_at_call 10; ((with_reducible refine (HO.out _).mono ?_); rintro e w1 ⟨rfl, hb1⟩; obtain ⟨x1, rfl⟩ := ext_of_grow hb1; clear hb1)))
        obtain rfl : t = s := beq_iff_eq.1 heq
        go_ret2
        exact Ret.mk (by rw [(of_hit hlt ht.out).1, (of_hit hlt ht.out).2]; rfl) (by (repeat (first | (with_reducible exact Grow.refl _) | assumption | refine Grow.ext ?_ _ | refine Grow.alloc ?_ _ | refine Grow.drew ?_ | refine Grow.setCell ?_ (by first | (simp; done) | (simp; omega)) _ | refine Grow.trans ?_ (by assumption))))
    · obtain rfl : 8 = k := by omega
      go_wp2_with fail
      go_ret2
      exact Ret.mk (by rw [(of_miss Hn.out).1, (of_miss Hn.out).2]; rfl) (by (repeat (first | (with_reducible exact Grow.refl _) | assumption | refine Grow.ext ?_ _ | refine Grow.alloc ?_ _ | refine Grow.drew ?_ | refine Grow.setCell ?_ (by first | (simp; done) | (simp; omega)) _ | refine Grow.trans ?_ (by assumption))))
set_option maxRecDepth 100000 in
set_option maxHeartbeats 8000000 in
theorem ref45_Written (v : Ve) (pv rv : Value) (w : World) {F F' : Nat → Prop} (hv : v.ok) (hp : Sl F w pv v.prints) (hr : Sl F' w rv v.result) (hok : veOk v = true) :
    Calls Tryd.prog 29 #[v.v pv rv] w (Ret w (.string (str (written v)))) := by
  have hp0 := hp.old; have hr0 := hr.old
  clear hp hr
  obtain ⟨pa, pn, pc, rfl, Hpn, hpm, hpcap, hpcm, hp⟩ := hp0.open
  obtain ⟨ra, rn, rc, rfl, Hrn, hrm, hrcap, hrcm, hr⟩ := hr0.open
  have Hok := Lib.hid hok
  clear hok hp0 hr0
  obtain ⟨T, HT⟩ : ∃ T, Hid (written v = T) := ⟨_, Lib.hid rfl⟩
  rw [HT.out]
  rcases veOk_kind Hok.out with hk | hk | hk | hk | hk
  · have Hw := Lib.hid (wr1 Hok.out hk)
    have hl := itoa_len hv.err
    have HI := Lib.hid (fun w => ref45_whole v.err hv.err w)
    have hq1 : (v.kind == 1) = true := beq_iff_eq.2 hk
    clear hk
    go_enter Tryd.func29, Tryd.ntmps29
    go_wp2_with (first | (go_at_call 40; ((with_reducible refine (HI.out _).mono ?_); rintro e w2 ⟨rfl, hb2⟩; obtain ⟨x2, rfl⟩ := ext_of_grow hb2; clear hb2)))
    go_ret
    rw [← HT.out, Hw.out]
    exact Ret.mk (by simp [ByteArray.ext_iff]) (by (repeat (first | (with_reducible exact Grow.refl _) | assumption | refine Grow.ext ?_ _ | refine Grow.alloc ?_ _ | refine Grow.drew ?_ | refine Grow.setCell ?_ (by first | (simp; done) | (simp; omega)) _ | refine Grow.trans ?_ (by assumption))))
  · have Hw := Lib.hid (wr2 Hok.out hk)
    have hl := itoa_len hv.err
    have HI := Lib.hid (fun w => ref45_whole v.err hv.err w)
    have hq1 : (v.kind == 1) = false := beq_eq_false_iff_ne.2 (by omega)
    have hq2 : (v.kind == 2) = true := beq_iff_eq.2 hk
    clear hk
    go_enter Tryd.func29, Tryd.ntmps29
    go_wp2_with (first | (go_at_call 40; ((with_reducible refine (HI.out _).mono ?_); rintro e w2 ⟨rfl, hb2⟩; obtain ⟨x2, rfl⟩ := ext_of_grow hb2; clear hb2)))
    go_ret
    rw [← HT.out, Hw.out]
    exact Ret.mk (by simp [ByteArray.ext_iff]) (by (repeat (first | (with_reducible exact Grow.refl _) | assumption | refine Grow.ext ?_ _ | refine Grow.alloc ?_ _ | refine Grow.drew ?_ | refine Grow.setCell ?_ (by first | (simp; done) | (simp; omega)) _ | refine Grow.trans ?_ (by assumption))))
  · have Hw := Lib.hid (wr3 Hok.out hk)
    obtain ⟨-, f1, f2, f3, f4, f5⟩ := veOk3 Hok.out hk
    have hl1 := itoa_len hv.fn
    have hl2 := itoa_len hv.at_
    have hl3 := itoa_len hv.loan
    have hl4 := plText_len f5
    have HI1 := Lib.hid (fun w => ref45_whole v.fn hv.fn w)
    have HI2 := Lib.hid (fun w => ref45_whole v.at_ hv.at_ w)
    have HI3 := Lib.hid (fun w => ref45_whole v.loan hv.loan w)
    have HE1 := Lib.hid (fun w => ref45_either v.write t_write t_read w)
    have HE2 := Lib.hid (fun w => ref45_either v.deep t_deep t_shallow w)
    have HP := Lib.hid (fun w => ref03_Written v.pl f5 w)
    obtain ⟨tx, Htx⟩ : ∃ tx, Hid (plText v.pl = tx) := ⟨_, Lib.hid rfl⟩
    rw [Htx.out] at HP hl4
    have Hw' : Hid (written v = t_borrow ++ 32 :: joinS [102 :: Lib.itoa v.fn, t_at, Lib.itoa v.at_, t_loan, Lib.itoa v.loan, (if v.write = true then t_write else t_read), (if v.deep = true then t_deep else t_shallow), tx]) := Lib.hid (by rw [Hw.out, ← Htx.out]; rfl)
    have hq1 : (v.kind == 1) = false := beq_eq_false_iff_ne.2 (by omega)
    have hq2 : (v.kind == 2) = false := beq_eq_false_iff_ne.2 (by omega)
    have hq4 : (v.kind == 4) = false := beq_eq_false_iff_ne.2 (by omega)
    have hq3 : (v.kind == 3) = true := beq_iff_eq.2 hk
    clear hk
    have hm1 : (if v.write = true then t_write else t_read).length ≤ 10 := by split <;> decide
    have hm2 : (if v.deep = true then t_deep else t_shallow).length ≤ 10 := by split <;> decide
    obtain ⟨m1, Hm1⟩ : ∃ b, Hid ((if v.write = true then t_write else t_read) = b) := ⟨_, Lib.hid rfl⟩
    obtain ⟨m2, Hm2⟩ : ∃ b, Hid ((if v.deep = true then t_deep else t_shallow) = b) := ⟨_, Lib.hid rfl⟩
    rw [Hm1.out] at HE1 hm1 Hw'
    rw [Hm2.out] at HE2 hm2 Hw'
    clear Hw Htx Hm1 Hm2
    go_enter Tryd.func29, Tryd.ntmps29
    go_upto_region 10 with fail
    (refine wp_region_ext (by kernel_rfl) (by kernel_rfl) ?_; (repeat (any_goals (first | go_big_quiet_step (first | (go_at_call 40; with_reducible refine ext_call (HI1.out _)) | (go_at_call 40; with_reducible refine ext_call (HI2.out _)) | (go_at_call 40; with_reducible refine ext_call (HI3.out _)) | (go_at_call 41; with_reducible refine ext_call (HE1.out _)) | (go_at_call 41; with_reducible refine ext_call (HE2.out _)) | (go_at_call 42; with_reducible refine ext_call (HP.out _))) | (refine wpQuiet_step (fun K hK => ?_); go_simp; split <;> (refine hK _ ?_; clear hK K))))); all_goals (refine wpQuiet_nil ?_; intro w10 hb10; obtain ⟨x10, rfl⟩ := ext_of_grow hb10; clear hb10))
    go_wp2_with fail
    go_ret
    rw [← HT.out, Hw'.out]
    exact Ret.mk (by simp [ByteArray.ext_iff, joinS]) (by (repeat (first | (with_reducible exact Grow.refl _) | assumption | refine Grow.ext ?_ _ | refine Grow.alloc ?_ _ | refine Grow.drew ?_ | refine Grow.setCell ?_ (by first | (simp; done) | (simp; omega)) _ | refine Grow.trans ?_ (by assumption))))
  · have Hw := Lib.hid (wr4 Hok.out hk)
    have hq1 : (v.kind == 1) = false := beq_eq_false_iff_ne.2 (by omega)
    have hq2 : (v.kind == 2) = false := beq_eq_false_iff_ne.2 (by omega)
    have hq4 : (v.kind == 4) = true := beq_iff_eq.2 hk
    clear hk
    go_enter Tryd.func29, Tryd.ntmps29
    go_wp2_with fail
    go_ret
    rw [← HT.out, Hw.out]
    exact Ret.mk rfl (by (repeat (first | (with_reducible exact Grow.refl _) | assumption | refine Grow.ext ?_ _ | refine Grow.alloc ?_ _ | refine Grow.drew ?_ | refine Grow.setCell ?_ (by first | (simp; done) | (simp; omega)) _ | refine Grow.trans ?_ (by assumption))))
  · obtain ⟨-, ho, f1, f2, f3, f4⟩ := veOk5 Hok.out hk
    obtain ⟨ow, ho1, ho2, ho3⟩ := outW_of ho
    have Hw := Lib.hid (wr5 Hok.out hk ho1)
    have HO := Lib.hid (fun w => ref45_Outcome v.out hv.out w)
    have e1 : outS v.out = ow ∧ outE v.out = 0 := ⟨by unfold outS; rw [ho1]; rfl, by unfold outE; rw [if_pos ho]⟩
    have hl0 := outS_len v.out
    rw [e1.1] at hl0
    rw [e1.1, e1.2] at HO
    have hl1 := itoa_len hv.steps
    have HI := Lib.hid (fun w => ref45_whole v.steps hv.steps w)
    have hq1 : (v.kind == 1) = false := beq_eq_false_iff_ne.2 (by omega)
    have hq2 : (v.kind == 2) = false := beq_eq_false_iff_ne.2 (by omega)
    have hq4 : (v.kind == 4) = false := beq_eq_false_iff_ne.2 (by omega)
    have hq3 : (v.kind == 3) = false := beq_eq_false_iff_ne.2 (by omega)
    have hpn : pn ≤ 200 := by have := Hpn.out; omega
    have hrn : rn ≤ 2 := by have := Hrn.out; omega
    have hvp := hv.prints
    have hvr := hv.result
    clear e1 ho1 ho2 hk
    obtain ⟨H1, HH1⟩ : ∃ H1 : Bs, Hid (H1 = t_ran ++ 32 :: ((ow ++ 32 :: Lib.itoa v.steps) ++ 32 :: t_prints)) := ⟨_, Lib.hid rfl⟩
    have hH1 : H1.length ≤ 80 := by rw [HH1.out]; simp only [List.length_append, List.length_cons, List.length_nil]; omega
    have Hst := Lib.hid (show (⟨#[114, 97, 110, 32]⟩ : ByteArray) ++ str ow ++ ⟨#[32]⟩ ++ str (Lib.itoa v.steps) ++ ⟨#[32, 112, 114, 105, 110, 116, 115]⟩ = str H1 by rw [HH1.out]; simp [ByteArray.ext_iff])
    go_enter Tryd.func29, Tryd.ntmps29
    go_wp2_with (first
      | (go_at_call 10; ((with_reducible refine (HO.out _).mono ?_); rintro e w2 ⟨rfl, hb2⟩; obtain ⟨x2, rfl⟩ := ext_of_grow hb2; clear hb2))
      | (go_at_call 40; ((with_reducible refine (HI.out _).mono ?_); rintro e w3 ⟨rfl, hb3⟩; obtain ⟨x3, rfl⟩ := ext_of_grow hb3; clear hb3)))
    go_loopw [6, 7] (fun sv iv wr => ∃ (k : Nat) (x : Ext) (X : Bs), iv = .int .i64 k ∧ k ≤ pn ∧ wr = ext (w.alloc (.cells #[.int .u8 v.kind, .int .i64 v.err, .int .i64 v.fn, .int .i64 v.at_, .int .i64 v.loan, .int .i64 v.pl.loc, .bool v.pl.deref, .int .u8 v.pl.field, .bool v.write, .bool v.deep, .int .u8 v.out, .int .i64 v.steps, .slice pa pn pc, .slice ra rn rc] 31)) x ∧ sv = .string (str X) ∧ Hid (X = H1 ++ listT (v.prints.take k))) (fun _ iv _ => pn - (intOf iv).toNat)
    case atStart => exact ⟨0, _, H1, rfl, Nat.zero_le _, ext_ext _ _ _, by rw [Hst.out], Lib.hid (by simp [listT])⟩
    case round =>
      obtain ⟨k, x, X, rfl, hk, rfl, rfl, HX⟩ := hrel
      have hX : X.length ≤ 6000 := by
        rw [HX.out, List.length_append]
        have := listT_len (v.prints.take k) (fun m hm => hvp m (List.mem_of_mem_take hm))
        have h2 : (v.prints.take k).length ≤ k := by simp; omega
        omega
      by_cases hlt : k < pn
      · obtain ⟨b, o, y, rfl, ⟨Hy, hlb, hy64, c0⟩⟩ := hp.int k hlt
        have hyl : (Lib.itoa y).length ≤ 21 := itoa_len hy64
        have HD := Lib.hid (fun w => ref04_Digits y hy64 w)
        go_wp2_with (first | (go_at_call 43; ((with_reducible refine (HD.out _).mono ?_); rintro e w4 ⟨rfl, hb4⟩; obtain ⟨x4, rfl⟩ := ext_of_grow hb4; clear hb4)))
        exact ⟨⟨k + 1, _, X ++ 32 :: Lib.itoa y, by go_num, by omega, ext_ext _ _ _, by simp [ByteArray.ext_iff], Lib.hid (by rw [listT_take Hy, HX.out, List.append_assoc])⟩, by simp [intOf]; omega⟩
      · obtain rfl : pn = k := by omega
        have e : v.prints.take pn = v.prints := List.take_of_length_le (by rw [← Hpn.out]; exact Nat.le_refl _)
        rw [e] at HX
        obtain ⟨H2, HH2⟩ : ∃ H2 : Bs, Hid (H2 = X ++ 32 :: t_result) := ⟨_, Lib.hid rfl⟩
        have hH2 : H2.length ≤ 6010 := by rw [HH2.out]; simp only [List.length_append, List.length_cons, List.length_nil]; omega
        have Hst2 := Lib.hid (show str X ++ ⟨#[32, 114, 101, 115, 117, 108, 116]⟩ = str H2 by rw [HH2.out]; simp [ByteArray.ext_iff])
        clear e
        go_wp2_with fail
        go_loopw [6, 8] (fun sv iv wr => ∃ (k : Nat) (x : Ext) (Y : Bs), iv = .int .i64 k ∧ k ≤ rn ∧ wr = ext (w.alloc (.cells #[.int .u8 v.kind, .int .i64 v.err, .int .i64 v.fn, .int .i64 v.at_, .int .i64 v.loan, .int .i64 v.pl.loc, .bool v.pl.deref, .int .u8 v.pl.field, .bool v.write, .bool v.deep, .int .u8 v.out, .int .i64 v.steps, .slice pa pn pc, .slice ra rn rc] 31)) x ∧ sv = .string (str Y) ∧ Hid (Y = H2 ++ listT (v.result.take k))) (fun _ iv _ => rn - (intOf iv).toNat)
        case atStart => exact ⟨0, _, H2, rfl, Nat.zero_le _, rfl, by rw [Hst2.out], Lib.hid (by simp [listT])⟩
        case round =>
          obtain ⟨k, x, Y, rfl, hk, rfl, rfl, HY⟩ := hrel
          have hY : Y.length ≤ 7000 := by
            rw [HY.out, List.length_append]
            have := listT_len (v.result.take k) (fun m hm => hvr m (List.mem_of_mem_take hm))
            have h2 : (v.result.take k).length ≤ k := by simp; omega
            omega
          by_cases hlt : k < rn
          · obtain ⟨b, o, y, rfl, ⟨Hy, hlb, hy64, c0⟩⟩ := hr.int k hlt
            have hyl : (Lib.itoa y).length ≤ 21 := itoa_len hy64
            have HD := Lib.hid (fun w => ref04_Digits y hy64 w)
            go_wp2_with (first | (go_at_call 43; ((with_reducible refine (HD.out _).mono ?_); rintro e w4 ⟨rfl, hb4⟩; obtain ⟨x4, rfl⟩ := ext_of_grow hb4; clear hb4)))
            exact ⟨⟨k + 1, _, Y ++ 32 :: Lib.itoa y, by go_num, by omega, ext_ext _ _ _, by simp [ByteArray.ext_iff], Lib.hid (by rw [listT_take Hy, HY.out, List.append_assoc])⟩, by simp [intOf]; omega⟩
          · obtain rfl : rn = k := by omega
            have e : v.result.take rn = v.result := List.take_of_length_le (by rw [← Hrn.out]; exact Nat.le_refl _)
            rw [e] at HY
            clear e
            go_wp2_with fail
            go_ret
            exact Ret.mk (by rw [← HT.out, Hw.out, HY.out, HH2.out, HX.out, HH1.out]; simp [ByteArray.ext_iff]) (by (repeat (first | (with_reducible exact Grow.refl _) | assumption | refine Grow.ext ?_ _ | refine Grow.alloc ?_ _ | refine Grow.drew ?_ | refine Grow.setCell ?_ (by first | (simp; done) | (simp; omega)) _ | refine Grow.trans ?_ (by assumption))))
set_option maxRecDepth 100000 in
theorem ref45_Text (v : Ve) (pv rv : Value) (w : World) {F F' : Nat → Prop} (hv : v.ok) (hp : Sl F w pv v.prints) (hr : Sl F' w rv v.result) (h1 : v.prints.length ≤ 140737488355328) (h2 : v.result.length ≤ 140737488355328) :
    Calls Tryd.prog 14 #[v.v pv rv] w (Ret w (.tuple #[.string (str (txS v)), .int .i64 (opOk (veOk v))])) := by
  have HC := Lib.hid (fun w' (g : Grow w w') => ref42_Check v pv rv w' hv (hp.mono g) (hr.mono g) h1 h2)
  cases hk : veOk v
  · have e1 : txS v = [] := by unfold txS; rw [hk]; rfl
    have e8 : opOk false = 8 := rfl
    rw [hk, e8] at HC
    rw [e1, e8]
    clear hk e1 e8
    go_enter Tryd.func14, Tryd.ntmps14
    go_wp2_with (first | (go_at_call 22; ((with_reducible refine (HC.out _ (by (repeat (first | (with_reducible exact Grow.refl _) | assumption | refine Grow.ext ?_ _ | refine Grow.alloc ?_ _ | refine Grow.drew ?_ | refine Grow.setCell ?_ (by first | (simp; done) | (simp; omega)) _ | refine Grow.trans ?_ (by assumption))))).mono ?_); rintro e w1 ⟨rfl, hb1⟩; obtain ⟨x1, rfl⟩ := ext_of_grow hb1; clear hb1)))
    go_ret2
    exact Ret.mk rfl (by (repeat (first | (with_reducible exact Grow.refl _) | assumption | refine Grow.ext ?_ _ | refine Grow.alloc ?_ _ | refine Grow.drew ?_ | refine Grow.setCell ?_ (by first | (simp; done) | (simp; omega)) _ | refine Grow.trans ?_ (by assumption))))
  · have e1 : txS v = written v := by unfold txS; rw [hk]; rfl
    have e0 : opOk true = 0 := rfl
    rw [hk, e0] at HC
    rw [e1, e0]
    have HW := Lib.hid (fun w' (g : Grow w w') => ref45_Written v pv rv w' hv (hp.mono g) (hr.mono g) hk)
    obtain ⟨t, Ht⟩ : ∃ x, Hid (written v = x) := ⟨_, Lib.hid rfl⟩
    rw [Ht.out] at HW ⊢
    clear hk e1 e0 Ht
    go_enter Tryd.func14, Tryd.ntmps14
    go_wp2_with (first | (go_at_call 22; ((with_reducible refine (HC.out _ (by (repeat (first | (with_reducible exact Grow.refl _) | assumption | refine Grow.ext ?_ _ | refine Grow.alloc ?_ _ | refine Grow.drew ?_ | refine Grow.setCell ?_ (by first | (simp; done) | (simp; omega)) _ | refine Grow.trans ?_ (by assumption))))).mono ?_); rintro e w1 ⟨rfl, hb1⟩; obtain ⟨x1, rfl⟩ := ext_of_grow hb1; clear hb1)) | (go_at_call 29; ((with_reducible refine (HW.out _ (by (repeat (first | (with_reducible exact Grow.refl _) | assumption | refine Grow.ext ?_ _ | refine Grow.alloc ?_ _ | refine Grow.drew ?_ | refine Grow.setCell ?_ (by first | (simp; done) | (simp; omega)) _ | refine Grow.trans ?_ (by assumption))))).mono ?_); rintro e w2 ⟨rfl, hb2⟩; obtain ⟨x2, rfl⟩ := ext_of_grow hb2; clear hb2)))
    go_ret2
    exact Ret.mk rfl (by (repeat (first | (with_reducible exact Grow.refl _) | assumption | refine Grow.ext ?_ _ | refine Grow.alloc ?_ _ | refine Grow.drew ?_ | refine Grow.setCell ?_ (by first | (simp; done) | (simp; omega)) _ | refine Grow.trans ?_ (by assumption))))
end Go.Proofs.YtjllaogechckoaaDoor
