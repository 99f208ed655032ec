/- Layer 45: lists and verdicts compared; numbers as text, by the reference. -/
import Derived.Test.YtjllaogechckoaaDoorW45t
import Derived.Test.YtjllaogechckoaaDoorV45b
import Derived.Test.YtjllaogechckoaaDoorEq45
namespace Go.Proofs.YtjllaogechckoaaDoor
open Go.RowKit
set_option linter.unusedSimpArgs false
set_option linter.unusedVariables false

set_option maxHeartbeats 1000000 in
theorem ref36_SameLong (v1 v2 : Value) (l m : List Int) (w : World) {F F' : Nat → Prop} (h1 : Sl F w v1 l) (h2 : Sl F' w v2 m) : Calls Tryd.prog 32 #[v1, v2] w (Ret w (.bool (decide (l = m)))) := by
  obtain ⟨a1, n1, c1, rfl, Hn1, hm1, hcap1, hcm1, h1⟩ := h1.open
  obtain ⟨a2, n2, c2, rfl, Hn2, hm2, hcap2, hcm2, h2⟩ := h2.open
  cases hne : (n1 == n2)
  · have Hf : Hid (decide (l = m) = false) := Lib.hid (decide_eq_false (fun e => by subst e; have := Hn1.out; have := Hn2.out; have := beq_eq_false_iff_ne.1 hne; omega))
    rw [Hf.out]
    have hx : ((n1 : Int) == n2) = false := by rw [beq_eq_false_iff_ne]; have := beq_eq_false_iff_ne.1 hne; omega
    go_enter Tryd.func32, Tryd.ntmps32
    go_wp2_with fail
    all_goals (go_ret; exact Ret.bool rfl (by (repeat (first | (with_reducible exact Grow.refl _) | assumption | refine Grow.ext ?_ _ | refine Grow.alloc ?_ _ | refine Grow.drew ?_ | refine Grow.setCell ?_ (by first | (simp; done) | (simp; omega)) _ | refine Grow.trans ?_ (by assumption)))))
  · obtain rfl : n1 = n2 := beq_iff_eq.1 hne
    clear hne
    obtain ⟨r, Hr⟩ : ∃ r, Hid (decide (l = m) = r) := ⟨_, Lib.hid rfl⟩
    rw [Hr.out]
    go_enter Tryd.func32, Tryd.ntmps32
    go_wp2_with fail
    go_loopw [5] (fun iv wr => ∃ (k : Nat) (x : Ext), iv = .int .i64 k ∧ k ≤ n1 ∧ wr = ext w x ∧ Hid (l.take k = m.take k)) (fun iv _ => n1 - (intOf iv).toNat)
    case atStart => exact ⟨0, _, rfl, Nat.zero_le _, (ext_self _).symm, Lib.hid (by simp)⟩
    case round =>
      obtain ⟨k, x, rfl, hk, rfl, Hk⟩ := hrel
      by_cases hlt : k < n1
      · obtain ⟨b1, o1, y1, rfl, ⟨Hg1, hl1, hw1, c1⟩⟩ := h1.int k hlt
        obtain ⟨b2, o2, y2, rfl, ⟨Hg2, hl2, hw2, c2⟩⟩ := h2.int k hlt
        cases hy : (y1 == y2)
        · go_wp2_with fail
          (refine wp_region_ext (by kernel_rfl) (by kernel_rfl) ?_; (repeat (any_goals (first | go_big_quiet_step (first | fail) | (refine wpQuiet_step (fun K hK => ?_); go_simp; split <;> (refine hK _ ?_; clear hK K))))); all_goals (refine wpQuiet_nil ?_; intro w1 hb1; obtain ⟨x1, rfl⟩ := ext_of_grow hb1; clear hb1))
          go_wp2_with fail
          have e : r = false := by
            rw [← Hr.out]; refine decide_eq_false (fun e => ?_)
            subst e; rw [Hg1.out] at Hg2
            have h := Hg2.out; injection h with h
            exact beq_eq_false_iff_ne.1 hy h
          go_ret; exact Ret.bool e.symm (by (repeat (first | (with_reducible exact Grow.refl _) | assumption | refine Grow.ext ?_ _ | refine Grow.alloc ?_ _ | refine Grow.drew ?_ | refine Grow.setCell ?_ (by first | (simp; done) | (simp; omega)) _ | refine Grow.trans ?_ (by assumption))))
        · go_wp2_with fail
          (refine wp_region_ext (by kernel_rfl) (by kernel_rfl) ?_; (repeat (any_goals (first | go_big_quiet_step (first | fail) | (refine wpQuiet_step (fun K hK => ?_); go_simp; split <;> (refine hK _ ?_; clear hK K))))); all_goals (refine wpQuiet_nil ?_; intro w1 hb1; obtain ⟨x1, rfl⟩ := ext_of_grow hb1; clear hb1))
          go_wp2_with fail
          refine ⟨⟨k + 1, _, by go_num, by omega, ext_ext _ _ _, Lib.hid ?_⟩, by simp [intOf]; omega⟩
          rw [List.take_add_one, List.take_add_one, Hk.out, Hg1.out, Hg2.out, beq_iff_eq.1 hy]
      · obtain rfl : n1 = k := by omega
        have e : r = true := by
          rw [← Hr.out]; refine decide_eq_true ?_
          have h := Hk.out
          rw [List.take_of_length_le (by rw [← Hn1.out]; exact Nat.le_refl _), List.take_of_length_le (by rw [← Hn2.out]; exact Nat.le_refl _)] at h
          exact h
        go_wp2_with fail
        go_ret; exact Ret.bool e.symm (by (repeat (first | (with_reducible exact Grow.refl _) | assumption | refine Grow.ext ?_ _ | refine Grow.alloc ?_ _ | refine Grow.drew ?_ | refine Grow.setCell ?_ (by first | (simp; done) | (simp; omega)) _ | refine Grow.trans ?_ (by assumption))))
theorem tdm_pos (m : Nat) : (m : Int).tdiv 10 = ((m / 10 : Nat) : Int) ∧ (m : Int).tmod 10 = ((m % 10 : Nat) : Int) := ⟨rfl, rfl⟩
theorem tdm_neg (m : Nat) : (-(m : Int)).tdiv 10 = -((m / 10 : Nat) : Int) ∧ (-(m : Int)).tmod 10 = -((m % 10 : Nat) : Int) := by
  rw [Int.neg_tdiv, Int.neg_tmod]; exact ⟨rfl, rfl⟩
theorem digits_step (n : Int) : Lib.itoa n = if n.tdiv 10 ≠ 0 then Lib.itoa (n.tdiv 10) ++ [UInt8.ofNat (48 + (n.tmod 10).natAbs)] else if n < 0 then [45, UInt8.ofNat (48 + (n.tmod 10).natAbs)] else [UInt8.ofNat (48 + (n.tmod 10).natAbs)] := by
  rcases Int.eq_nat_or_neg n with ⟨m, rfl | rfl⟩
  · obtain ⟨h1, h2⟩ := tdm_pos m
    rw [h1, h2, itoa_pos (by omega), show ((m : Nat) : Int).toNat = m from rfl]
    by_cases hs : m < 10
    · rw [if_neg (by omega), if_neg (by omega), Lib.decDigits, dif_pos hs]
      congr 3; omega
    · rw [if_pos (by omega), itoa_pos (by omega)]
      conv => lhs; rw [Lib.decDigits, dif_neg hs]
      congr 2
  · obtain ⟨h1, h2⟩ := tdm_neg m
    rw [h1, h2]
    by_cases h0 : m = 0
    · subst h0; decide +kernel
    · rw [itoa_minus (by omega), show (-(m : Int)).natAbs = m by omega]
      by_cases hs : m < 10
      · rw [if_neg (by omega), if_pos (by omega), Lib.decDigits, dif_pos hs]
        congr 4; omega
      · rw [if_pos (by omega), itoa_minus (by omega), show (-((m / 10 : Nat) : Int)).natAbs = m / 10 by omega]
        conv => lhs; rw [Lib.decDigits, dif_neg hs]
        rw [List.cons_append]; congr 4; omega
theorem tmod_lt (n : Int) : (n.tmod 10).natAbs < 10 ∧ (n.tdiv 10).natAbs ≤ n.natAbs ∧ (n.natAbs ≠ 0 → (n.tdiv 10).natAbs < n.natAbs) ∧ (n < 0 → n.tdiv 10 ≤ 0) ∧ (0 ≤ n → 0 ≤ n.tdiv 10) := by
  rcases Int.eq_nat_or_neg n with ⟨m, rfl | rfl⟩
  · obtain ⟨h1, h2⟩ := tdm_pos m; rw [h1, h2]; omega
  · obtain ⟨h1, h2⟩ := tdm_neg m; rw [h1, h2]; omega
set_option maxRecDepth 100000 in
set_option maxHeartbeats 1000000 in
theorem digits_one (k : Nat) (ih : ∀ (n : Int), n.natAbs < k → I64 n → ∀ w, Calls Tryd.prog 43 #[.int .i64 n] w (Ret w (.string (str (Lib.itoa n))))) (n : Int) (hn : n.natAbs ≤ k) (h64 : I64 n) (w : World) : Calls Tryd.prog 43 #[.int .i64 n] w (Ret w (.string (str (Lib.itoa n)))) := by
  obtain ⟨i1, i2⟩ := h64
  obtain ⟨t1, t2, t3, t4, t5⟩ := tmod_lt n
  have hq : wrap64 (n.tdiv 10) = n.tdiv 10 := by unfold wrap64; omega
  have Hstep := Lib.hid (digits_step n)
  have hqi : I64 (n.tdiv 10) := ⟨by omega, by omega⟩
  have hql : (Lib.itoa (n.tdiv 10)).length ≤ 21 := itoa_len hqi
  have HI : n.tdiv 10 ≠ 0 → Hid (∀ w, Calls Tryd.prog 43 #[.int .i64 (n.tdiv 10)] w (Ret w (.string (str (Lib.itoa (n.tdiv 10)))))) := fun h => Lib.hid (fun w => ih _ (by omega) hqi w)
  obtain ⟨q, Hq⟩ : ∃ q, Hid (n.tdiv 10 = q) := ⟨_, Lib.hid rfl⟩
  rw [Hq.out] at hq hql HI Hstep
  obtain ⟨d, Hd⟩ : ∃ d, Hid ((n.tmod 10).natAbs = d) := ⟨_, Lib.hid rfl⟩
  have hb : (48 + max (n.tmod 10) (-n.tmod 10)).toNat = 48 + d := by rw [← Hd.out]; omega
  have Hb := Lib.hid hb
  clear hb
  rw [Hd.out] at Hstep
  by_cases h0 : q = 0
  · by_cases hneg : n < 0
    · rw [if_neg (by simpa using h0), if_pos hneg] at Hstep
      rw [Hstep.out]
      have hz : n.tdiv 10 = 0 := by rw [Hq.out]; exact h0
      clear HI ih
      go_enter Tryd.func43, Tryd.ntmps43
      go_wp2_with fail
      go_ret
      have hb := Hb.out
      exact Ret.mk (by simp only [hb]; first | rfl | (simp [ByteArray.ext_iff]; done) | exact congrArg Value.string (str_app [45] _) | exact congrArg Value.string (str_app _ _)) (by (repeat (first | (with_reducible exact Grow.refl _) | assumption | refine Grow.ext ?_ _ | refine Grow.alloc ?_ _ | refine Grow.drew ?_ | refine Grow.setCell ?_ (by first | (simp; done) | (simp; omega)) _ | refine Grow.trans ?_ (by assumption))))
    · rw [if_neg (by simpa using h0), if_neg hneg] at Hstep
      have Hb3 : Hid ((48 + max (n % 10) (-(n % 10))).toNat = 48 + d) := Lib.hid (by rw [← Hd.out, Int.tmod_eq_emod_of_nonneg (by omega)]; omega)
      rw [Hstep.out]
      have hz : n.tdiv 10 = 0 := by rw [Hq.out]; exact h0
      clear HI ih
      go_enter Tryd.func43, Tryd.ntmps43
      go_wp2_with fail
      go_ret
      have hb := Hb3.out
      exact Ret.mk (by simp only [hb]; first | rfl | (simp [ByteArray.ext_iff]; done) | exact congrArg Value.string (str_app [45] _) | exact congrArg Value.string (str_app _ _)) (by (repeat (first | (with_reducible exact Grow.refl _) | assumption | refine Grow.ext ?_ _ | refine Grow.alloc ?_ _ | refine Grow.drew ?_ | refine Grow.setCell ?_ (by first | (simp; done) | (simp; omega)) _ | refine Grow.trans ?_ (by assumption))))
  · rw [if_pos h0] at Hstep
    rw [Hstep.out]
    have HI := HI h0
    have hz : n.tdiv 10 = q := Hq.out
    have hzz : (q == 0) = false := beq_eq_false_iff_ne.2 h0
    clear hq ih
    go_enter Tryd.func43, Tryd.ntmps43
    go_wp2_with (first | (go_at_call 43; ((with_reducible refine (HI.out _).mono ?_); rintro e w1 ⟨rfl, hb1⟩; obtain ⟨x1, rfl⟩ := ext_of_grow hb1; clear hb1)))
    go_ret
    have hb := Hb.out
    exact Ret.mk (by simp only [hb]; first | rfl | (simp [ByteArray.ext_iff]; done) | exact congrArg Value.string (str_app [45] _) | exact congrArg Value.string (str_app _ _)) (by (repeat (first | (with_reducible exact Grow.refl _) | assumption | refine Grow.ext ?_ _ | refine Grow.alloc ?_ _ | refine Grow.drew ?_ | refine Grow.setCell ?_ (by first | (simp; done) | (simp; omega)) _ | refine Grow.trans ?_ (by assumption))))
theorem ref04_Digits (n : Int) (h : I64 n) (w : World) : Calls Tryd.prog 43 #[.int .i64 n] w (Ret w (.string (str (Lib.itoa n)))) := by
  have H : ∀ (k : Nat) (n : Int), n.natAbs < k → I64 n → ∀ w, Calls Tryd.prog 43 #[.int .i64 n] w (Ret w (.string (str (Lib.itoa n)))) := by
    intro k
    induction k with
    | zero => intro n hn; omega
    | succ k ih => exact fun n hn h w => digits_one k ih n (by omega) h w
  exact H _ n (Nat.lt_succ_self _) h w
theorem ref45_whole (n : Int) (h : I64 n) (w : World) : Calls Tryd.prog 40 #[.int .i64 n] w (Ret w (.string (str (Lib.itoa n)))) := by
  go_enter Tryd.func40, Tryd.ntmps40
  go_wp2_with (first | (go_at_call 43; ((with_reducible refine (ref04_Digits n h _).mono ?_); rintro e w1 ⟨rfl, hb1⟩; obtain ⟨x1, rfl⟩ := ext_of_grow hb1; clear hb1)))
  go_ret
  exact Ret.mk rfl (by (repeat (first | (with_reducible exact Grow.refl _) | assumption | refine Grow.ext ?_ _ | refine Grow.alloc ?_ _ | refine Grow.drew ?_ | refine Grow.setCell ?_ (by first | (simp; done) | (simp; omega)) _ | refine Grow.trans ?_ (by assumption))))
theorem ref45_either (b : Bool) (x y : Bs) (w : World) : Calls Tryd.prog 41 #[.bool b, .string (str x), .string (str y)] w (Ret w (.string (str (if b then x else y)))) := by
  cases b
  all_goals
    go_enter Tryd.func41, Tryd.ntmps41
    go_wp2_with fail
    go_ret
    exact Ret.mk rfl (by (repeat (first | (with_reducible exact Grow.refl _) | assumption | refine Grow.ext ?_ _ | refine Grow.alloc ?_ _ | refine Grow.drew ?_ | refine Grow.setCell ?_ (by first | (simp; done) | (simp; omega)) _ | refine Grow.trans ?_ (by assumption))))
end Go.Proofs.YtjllaogechckoaaDoor
