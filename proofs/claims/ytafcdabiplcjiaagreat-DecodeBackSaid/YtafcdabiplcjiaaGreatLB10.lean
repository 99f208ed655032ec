/- Layer 10: the law that what is read, encoded, is the bytes. -/
import Derived.Test.YtafcdabiplcjiaaGreatL10s
import Derived.Test.YtafcdabiplcjiaaGreatL10v
import Derived.Test.YtafcdabiplcjiaaGreatL09m
namespace Go.Proofs.YtafcdabiplcjiaaGreat
open Go.RowKit
set_option linter.unusedSimpArgs false
set_option linter.unusedVariables false

theorem decFn_bytes {b : List Nat} {f : Fn} {k : Nat} (hb : ∀ x ∈ b, x < 256) (h : decFn b = (f, k, 0)) (hl : b.length ≤ 1500) : fnL f = b.take k ∧ fnR f = 0 ∧ fnErr f = 0 ∧ k ≤ b.length := by
  have := decFn_back hb (by rw [h])
  rw [h] at this
  obtain ⟨h1, h2, h3⟩ := this
  dsimp only at h1 h2 h3
  have e : encFn f = b.take k := by
    have q : encFn f ++ b.drop k = b.take k ++ b.drop k := by rw [List.take_append_drop]; exact h1.symm
    exact List.append_cancel_right q
  have hs := fnL_small h2 (by rw [e, List.length_take]; omega)
  exact ⟨by rw [hs.1, e], hs.2, h2, h3⟩
theorem decPr_bytes {b : List Nat} {p : Pr} (hb : ∀ x ∈ b, x < 256) (h : decPr b = (p, 0)) (hl : b.length ≤ 1500) : prL p = b ∧ prR p = 0 ∧ prErr p = 0 := by
  have := decPr_back hb (by rw [h])
  rw [h] at this
  obtain ⟨h1, h2⟩ := this
  dsimp only at h1 h2
  have hs := prL_small h2 (by rw [← h1]; omega)
  exact ⟨by rw [hs.1, ← h1], hs.2, h2⟩
theorem decPr_bad {b : List Nat} (h : (decPr b).2 ≠ 0) : (decPr b).1 = ⟨[]⟩ := by
  unfold decPr at h ⊢
  (repeat' split) <;> first | rfl | (simp_all; done)
set_option maxRecDepth 100000 in
set_option maxHeartbeats 8000000 in
theorem law_DecodeBack (v : Value) (b : List Nat) (w : World) {F : Nat → Prop} (hs : Sl F w v b) : Calls Tryz.prog 6 #[v] w (Ret w (.bool true)) := by
  have Hb := Lib.hid hs.bytes
  obtain ⟨a, n, cap, rfl, Hn, hm, hcap, hcm, hs⟩ := hs.open
  by_cases hbig : 1500 < n
  · go_enter Tryz.func6, Tryz.ntmps6
    go_wp2_with (first | (go_at_call 16; ((with_reducible refine (law10_alive _).mono ?_); rintro e w9 ⟨rfl, hb9⟩; obtain ⟨x9, rfl⟩ := ext_of_grow hb9; clear hb9)))
    go_ret
    exact Ret.bool rfl (by (repeat (first | (with_reducible exact Grow.refl _) | assumption | refine Grow.ext ?_ _ | refine Grow.alloc ?_ _ | refine Grow.drew ?_ | refine Grow.setCell ?_ (by first | (simp; done) | (simp; omega)) _ | refine Grow.trans ?_ (by assumption))))
  obtain ⟨⟨f, k, ef⟩, Hf⟩ : ∃ q, Hid (decFn b = q) := ⟨_, Lib.hid rfl⟩
  obtain ⟨⟨p, ep⟩, Hp⟩ : ∃ q, Hid (decPr b = q) := ⟨_, Lib.hid rfl⟩
  have hl : b.length ≤ 1500 := by rw [← Hn.out]; omega
  have Hz : Hid (ef = 0 → fnL f = b.take k ∧ fnR f = 0 ∧ fnErr f = 0 ∧ k ≤ n) := Lib.hid (fun e => by subst e; rw [Hn.out]; exact decFn_bytes Hb.out Hf.out hl)
  have Hy : Hid (ep = 0 → prL p = b ∧ prR p = 0 ∧ prErr p = 0) := Lib.hid (fun e => by subst e; exact decPr_bytes Hb.out Hp.out hl)
  have Hx : Hid (ep ≠ 0 → p = ⟨[]⟩) := Lib.hid (fun e => by have := decPr_bad (b := b) (by rw [Hp.out]; exact e); rw [Hp.out] at this; exact this)
  have Hfw : Hid f.wf := Lib.hid (by
    have := Hf.out
    unfold decFn at this
    split at this
    · simp only [Prod.mk.injEq] at this; rw [← this.1]; exact ⟨by unfold I64; dsimp only; omega⟩
    split at this
    · simp only [Prod.mk.injEq] at this; rw [← this.1]; exact ⟨by unfold I64; dsimp only; omega⟩
    split at this
    · simp only [Prod.mk.injEq] at this; rw [← this.1]; exact ⟨by unfold I64; dsimp only; omega⟩
    simp only [Prod.mk.injEq] at this; rw [← this.1]; exact rdFn_wf Hb.out)
  clear hl
  have hcvb := conv_at hs
  obtain ⟨fp, fu, fl, fb⟩ := f
  by_cases hef : ef = 0
  · subst hef
    have Hz2 := Lib.hid (Hz.out rfl)
    have hcvk := conv_at (hs.take Hz2.out.2.2.2)
    have hk1 : decide ((k : Int) < 0) = false := by simp
    have hk2 : k ≤ n := Hz2.out.2.2.2
    have hk3 : decide (n < k) = false := by simpa using hk2
    have Hz3 : Hid (∀ w' {F F' : Nat → Prop} v1 v2 (h1 : Sl F w' v1 fl) (h2 : Sl F' w' v2 fb), Calls Tryz.prog 25 #[.agg #[.int .i64 fp, .bool fu, v1, v2]] w' (Ret w' (.int .i64 0))) := Lib.hid (fun w' F F' v1 v2 h1 h2 => by have := ref07_Check ⟨fp, fu, fl, fb⟩ v1 v2 w' Hfw.out h1 h2; rw [Hz2.out.2.2.1] at this; exact this)
    by_cases hep : ep = 0
    · subst hep
      have Hy2 := Lib.hid (Hy.out rfl)
      have Hy3 : Hid (∀ w' {F : Nat → Prop} pv (hp : Sl F w' pv p.funcs), Calls Tryz.prog 15 #[.agg #[pv]] w' (Ret w' (.int .i64 0))) := Lib.hid (fun w' F pv hp => by have := ref08_Check p pv w' hp; rw [Hy2.out.2.2] at this; exact this)
      go_enter Tryz.func6, Tryz.ntmps6
      go_wp2_with (first
        | (go_at_call 21; ((with_reducible refine (decode_Func _ b _ (hs.mono (by (repeat (first | (with_reducible exact Grow.refl _) | assumption | refine Grow.ext ?_ _ | refine Grow.alloc ?_ _ | refine Grow.drew ?_ | refine Grow.setCell ?_ (by first | (simp; done) | (simp; omega)) _ | refine Grow.trans ?_ (by assumption)))))).mono ?_); rintro e w1 ⟨_, rfl, ⟨v1, v2, rfl, h1, h2⟩, hg1⟩; rw [Hf.out] at h1 h2 ⊢; obtain ⟨va, vn, vc, rfl, _, _, _, _, h1⟩ := h1.open; obtain ⟨ja, jn, jc, rfl, _, _, _, _, h2⟩ := h2.open; obtain ⟨x1, rfl⟩ := ext_of_grow hg1; clear hg1; (try dsimp only at h1 h2)))
        | (go_at_call 18; ((with_reducible refine (decode_Program _ b _ (hs.mono (by (repeat (first | (with_reducible exact Grow.refl _) | assumption | refine Grow.ext ?_ _ | refine Grow.alloc ?_ _ | refine Grow.drew ?_ | refine Grow.setCell ?_ (by first | (simp; done) | (simp; omega)) _ | refine Grow.trans ?_ (by assumption)))))).mono ?_); rintro e w5 ⟨_, rfl, ⟨v5, rfl, ho5⟩, hg5⟩; rw [Hp.out] at ho5 ⊢; obtain ⟨a5, n5, c5, rfl, Hn5, hn5, ho5⟩ := ho5.open; obtain ⟨x5, rfl⟩ := ext_of_grow hg5; clear hg5))
        | (go_at_call 10; ((with_reducible refine (encode_Bytes p _ _ (ho5.sl.mono (by (repeat (first | (with_reducible exact Grow.refl _) | assumption | refine Grow.ext ?_ _ | refine Grow.alloc ?_ _ | refine Grow.drew ?_ | refine Grow.setCell ?_ (by first | (simp; done) | (simp; omega)) _ | refine Grow.trans ?_ (by assumption)))))).mono ?_); rintro e w6 ⟨_, rfl, ⟨u6, rfl, hs6⟩, hg6⟩; rw [Hy2.out.1] at hs6; rw [Hy2.out.2.1]; obtain ⟨a6, n6, c6, rfl, Hn6, _, _, _, hs6⟩ := hs6.open; obtain ⟨x6, rfl⟩ := ext_of_grow hg6; clear hg6; have hcv6 := conv_at hs6))
        | (go_at_call 15; ((with_reducible refine (Hy3.out _ _ (ho5.sl.mono (by (repeat (first | (with_reducible exact Grow.refl _) | assumption | refine Grow.ext ?_ _ | refine Grow.alloc ?_ _ | refine Grow.drew ?_ | refine Grow.setCell ?_ (by first | (simp; done) | (simp; omega)) _ | refine Grow.trans ?_ (by assumption)))))).mono ?_); rintro e w7 ⟨rfl, hb7⟩; obtain ⟨x7, rfl⟩ := ext_of_grow hb7; clear hb7))
        | (go_at_call 16; ((with_reducible refine (law10_alive _).mono ?_); rintro e w9 ⟨rfl, hb9⟩; obtain ⟨x9, rfl⟩ := ext_of_grow hb9; clear hb9))
        | (go_at_call 24; ((with_reducible refine (encode_Func ⟨fp, fu, fl, fb⟩ _ _ _ Hfw.out (h1.mono (by (repeat (first | (with_reducible exact Grow.refl _) | assumption | refine Grow.ext ?_ _ | refine Grow.alloc ?_ _ | refine Grow.drew ?_ | refine Grow.setCell ?_ (by first | (simp; done) | (simp; omega)) _ | refine Grow.trans ?_ (by assumption))))) (h2.mono (by (repeat (first | (with_reducible exact Grow.refl _) | assumption | refine Grow.ext ?_ _ | refine Grow.alloc ?_ _ | refine Grow.drew ?_ | refine Grow.setCell ?_ (by first | (simp; done) | (simp; omega)) _ | refine Grow.trans ?_ (by assumption)))))).mono ?_); rintro e w2 ⟨_, rfl, ⟨u2, rfl, hs2⟩, hg2⟩; rw [Hz2.out.1] at hs2; rw [Hz2.out.2.1]; obtain ⟨a2, n2, c2, rfl, Hn2, _, _, _, hs2⟩ := hs2.open; obtain ⟨x2, rfl⟩ := ext_of_grow hg2; clear hg2; have hcv2 := conv_at hs2)))
      (refine wp_region_ext (by kernel_rfl) (by kernel_rfl) ?_; (repeat (any_goals (first | go_big_quiet_step (first | (go_at_call 25; refine ext_call (Hz3.out _ _ _ (h1.mono (by (repeat (first | (with_reducible exact Grow.refl _) | assumption | refine Grow.ext ?_ _ | refine Grow.alloc ?_ _ | refine Grow.drew ?_ | refine Grow.setCell ?_ (by first | (simp; done) | (simp; omega)) _ | refine Grow.trans ?_ (by assumption))))) (h2.mono (by (repeat (first | (with_reducible exact Grow.refl _) | assumption | refine Grow.ext ?_ _ | refine Grow.alloc ?_ _ | refine Grow.drew ?_ | refine Grow.setCell ?_ (by first | (simp; done) | (simp; omega)) _ | refine Grow.trans ?_ (by assumption)))))))) | (refine wpQuiet_step (fun K hK => ?_); go_simp; split <;> (refine hK _ ?_; clear hK K))))); all_goals (refine wpQuiet_nil ?_; intro w8 hb8; obtain ⟨x8, rfl⟩ := ext_of_grow hb8; clear hb8))
      go_wp2_with (first
        | (go_at_call 21; ((with_reducible refine (decode_Func _ b _ (hs.mono (by (repeat (first | (with_reducible exact Grow.refl _) | assumption | refine Grow.ext ?_ _ | refine Grow.alloc ?_ _ | refine Grow.drew ?_ | refine Grow.setCell ?_ (by first | (simp; done) | (simp; omega)) _ | refine Grow.trans ?_ (by assumption)))))).mono ?_); rintro e w1 ⟨_, rfl, ⟨v1, v2, rfl, h1, h2⟩, hg1⟩; rw [Hf.out] at h1 h2 ⊢; obtain ⟨va, vn, vc, rfl, _, _, _, _, h1⟩ := h1.open; obtain ⟨ja, jn, jc, rfl, _, _, _, _, h2⟩ := h2.open; obtain ⟨x1, rfl⟩ := ext_of_grow hg1; clear hg1; (try dsimp only at h1 h2)))
        | (go_at_call 18; ((with_reducible refine (decode_Program _ b _ (hs.mono (by (repeat (first | (with_reducible exact Grow.refl _) | assumption | refine Grow.ext ?_ _ | refine Grow.alloc ?_ _ | refine Grow.drew ?_ | refine Grow.setCell ?_ (by first | (simp; done) | (simp; omega)) _ | refine Grow.trans ?_ (by assumption)))))).mono ?_); rintro e w5 ⟨_, rfl, ⟨v5, rfl, ho5⟩, hg5⟩; rw [Hp.out] at ho5 ⊢; obtain ⟨a5, n5, c5, rfl, Hn5, hn5, ho5⟩ := ho5.open; obtain ⟨x5, rfl⟩ := ext_of_grow hg5; clear hg5))
        | (go_at_call 10; ((with_reducible refine (encode_Bytes p _ _ (ho5.sl.mono (by (repeat (first | (with_reducible exact Grow.refl _) | assumption | refine Grow.ext ?_ _ | refine Grow.alloc ?_ _ | refine Grow.drew ?_ | refine Grow.setCell ?_ (by first | (simp; done) | (simp; omega)) _ | refine Grow.trans ?_ (by assumption)))))).mono ?_); rintro e w6 ⟨_, rfl, ⟨u6, rfl, hs6⟩, hg6⟩; rw [Hy2.out.1] at hs6; rw [Hy2.out.2.1]; obtain ⟨a6, n6, c6, rfl, Hn6, _, _, _, hs6⟩ := hs6.open; obtain ⟨x6, rfl⟩ := ext_of_grow hg6; clear hg6; have hcv6 := conv_at hs6))
        | (go_at_call 15; ((with_reducible refine (Hy3.out _ _ (ho5.sl.mono (by (repeat (first | (with_reducible exact Grow.refl _) | assumption | refine Grow.ext ?_ _ | refine Grow.alloc ?_ _ | refine Grow.drew ?_ | refine Grow.setCell ?_ (by first | (simp; done) | (simp; omega)) _ | refine Grow.trans ?_ (by assumption)))))).mono ?_); rintro e w7 ⟨rfl, hb7⟩; obtain ⟨x7, rfl⟩ := ext_of_grow hb7; clear hb7))
        | (go_at_call 16; ((with_reducible refine (law10_alive _).mono ?_); rintro e w9 ⟨rfl, hb9⟩; obtain ⟨x9, rfl⟩ := ext_of_grow hb9; clear hb9))
        | (go_at_call 24; ((with_reducible refine (encode_Func ⟨fp, fu, fl, fb⟩ _ _ _ Hfw.out (h1.mono (by (repeat (first | (with_reducible exact Grow.refl _) | assumption | refine Grow.ext ?_ _ | refine Grow.alloc ?_ _ | refine Grow.drew ?_ | refine Grow.setCell ?_ (by first | (simp; done) | (simp; omega)) _ | refine Grow.trans ?_ (by assumption))))) (h2.mono (by (repeat (first | (with_reducible exact Grow.refl _) | assumption | refine Grow.ext ?_ _ | refine Grow.alloc ?_ _ | refine Grow.drew ?_ | refine Grow.setCell ?_ (by first | (simp; done) | (simp; omega)) _ | refine Grow.trans ?_ (by assumption)))))).mono ?_); rintro e w2 ⟨_, rfl, ⟨u2, rfl, hs2⟩, hg2⟩; rw [Hz2.out.1] at hs2; rw [Hz2.out.2.1]; obtain ⟨a2, n2, c2, rfl, Hn2, _, _, _, hs2⟩ := hs2.open; obtain ⟨x2, rfl⟩ := ext_of_grow hg2; clear hg2; have hcv2 := conv_at hs2)))
      go_ret
      exact Ret.bool rfl (by (repeat (first | (with_reducible exact Grow.refl _) | assumption | refine Grow.ext ?_ _ | refine Grow.alloc ?_ _ | refine Grow.drew ?_ | refine Grow.setCell ?_ (by first | (simp; done) | (simp; omega)) _ | refine Grow.trans ?_ (by assumption))))
    · have hep1 : (ep == 0) = false := by simp [hep]
      have hep2 : (ep != 0) = true := by simp [hep]
      obtain rfl := Hx.out hep
      go_enter Tryz.func6, Tryz.ntmps6
      go_wp2_with (first
        | (go_at_call 21; ((with_reducible refine (decode_Func _ b _ (hs.mono (by (repeat (first | (with_reducible exact Grow.refl _) | assumption | refine Grow.ext ?_ _ | refine Grow.alloc ?_ _ | refine Grow.drew ?_ | refine Grow.setCell ?_ (by first | (simp; done) | (simp; omega)) _ | refine Grow.trans ?_ (by assumption)))))).mono ?_); rintro e w1 ⟨_, rfl, ⟨v1, v2, rfl, h1, h2⟩, hg1⟩; rw [Hf.out] at h1 h2 ⊢; obtain ⟨va, vn, vc, rfl, _, _, _, _, h1⟩ := h1.open; obtain ⟨ja, jn, jc, rfl, _, _, _, _, h2⟩ := h2.open; obtain ⟨x1, rfl⟩ := ext_of_grow hg1; clear hg1; (try dsimp only at h1 h2)))
        | (go_at_call 18; ((with_reducible refine (decode_Program _ b _ (hs.mono (by (repeat (first | (with_reducible exact Grow.refl _) | assumption | refine Grow.ext ?_ _ | refine Grow.alloc ?_ _ | refine Grow.drew ?_ | refine Grow.setCell ?_ (by first | (simp; done) | (simp; omega)) _ | refine Grow.trans ?_ (by assumption)))))).mono ?_); rintro e w5 ⟨_, rfl, ⟨v5, rfl, ho5⟩, hg5⟩; rw [Hp.out] at ho5 ⊢; obtain ⟨a5, n5, c5, rfl, Hn5, hn5, ho5⟩ := ho5.open; obtain ⟨x5, rfl⟩ := ext_of_grow hg5; clear hg5; obtain rfl : n5 = 0 := Hn5.out))
        | (go_at_call 16; ((with_reducible refine (law10_alive _).mono ?_); rintro e w9 ⟨rfl, hb9⟩; obtain ⟨x9, rfl⟩ := ext_of_grow hb9; clear hb9))
        | (go_at_call 24; ((with_reducible refine (encode_Func ⟨fp, fu, fl, fb⟩ _ _ _ Hfw.out (h1.mono (by (repeat (first | (with_reducible exact Grow.refl _) | assumption | refine Grow.ext ?_ _ | refine Grow.alloc ?_ _ | refine Grow.drew ?_ | refine Grow.setCell ?_ (by first | (simp; done) | (simp; omega)) _ | refine Grow.trans ?_ (by assumption))))) (h2.mono (by (repeat (first | (with_reducible exact Grow.refl _) | assumption | refine Grow.ext ?_ _ | refine Grow.alloc ?_ _ | refine Grow.drew ?_ | refine Grow.setCell ?_ (by first | (simp; done) | (simp; omega)) _ | refine Grow.trans ?_ (by assumption)))))).mono ?_); rintro e w2 ⟨_, rfl, ⟨u2, rfl, hs2⟩, hg2⟩; rw [Hz2.out.1] at hs2; rw [Hz2.out.2.1]; obtain ⟨a2, n2, c2, rfl, Hn2, _, _, _, hs2⟩ := hs2.open; obtain ⟨x2, rfl⟩ := ext_of_grow hg2; clear hg2; have hcv2 := conv_at hs2)))
      (refine wp_region_ext (by kernel_rfl) (by kernel_rfl) ?_; (repeat (any_goals (first | go_big_quiet_step (first | (go_at_call 25; refine ext_call (Hz3.out _ _ _ (h1.mono (by (repeat (first | (with_reducible exact Grow.refl _) | assumption | refine Grow.ext ?_ _ | refine Grow.alloc ?_ _ | refine Grow.drew ?_ | refine Grow.setCell ?_ (by first | (simp; done) | (simp; omega)) _ | refine Grow.trans ?_ (by assumption))))) (h2.mono (by (repeat (first | (with_reducible exact Grow.refl _) | assumption | refine Grow.ext ?_ _ | refine Grow.alloc ?_ _ | refine Grow.drew ?_ | refine Grow.setCell ?_ (by first | (simp; done) | (simp; omega)) _ | refine Grow.trans ?_ (by assumption)))))))) | (refine wpQuiet_step (fun K hK => ?_); go_simp; split <;> (refine hK _ ?_; clear hK K))))); all_goals (refine wpQuiet_nil ?_; intro w8 hb8; obtain ⟨x8, rfl⟩ := ext_of_grow hb8; clear hb8))
      go_wp2_with (first
        | (go_at_call 21; ((with_reducible refine (decode_Func _ b _ (hs.mono (by (repeat (first | (with_reducible exact Grow.refl _) | assumption | refine Grow.ext ?_ _ | refine Grow.alloc ?_ _ | refine Grow.drew ?_ | refine Grow.setCell ?_ (by first | (simp; done) | (simp; omega)) _ | refine Grow.trans ?_ (by assumption)))))).mono ?_); rintro e w1 ⟨_, rfl, ⟨v1, v2, rfl, h1, h2⟩, hg1⟩; rw [Hf.out] at h1 h2 ⊢; obtain ⟨va, vn, vc, rfl, _, _, _, _, h1⟩ := h1.open; obtain ⟨ja, jn, jc, rfl, _, _, _, _, h2⟩ := h2.open; obtain ⟨x1, rfl⟩ := ext_of_grow hg1; clear hg1; (try dsimp only at h1 h2)))
        | (go_at_call 18; ((with_reducible refine (decode_Program _ b _ (hs.mono (by (repeat (first | (with_reducible exact Grow.refl _) | assumption | refine Grow.ext ?_ _ | refine Grow.alloc ?_ _ | refine Grow.drew ?_ | refine Grow.setCell ?_ (by first | (simp; done) | (simp; omega)) _ | refine Grow.trans ?_ (by assumption)))))).mono ?_); rintro e w5 ⟨_, rfl, ⟨v5, rfl, ho5⟩, hg5⟩; rw [Hp.out] at ho5 ⊢; obtain ⟨a5, n5, c5, rfl, Hn5, hn5, ho5⟩ := ho5.open; obtain ⟨x5, rfl⟩ := ext_of_grow hg5; clear hg5; obtain rfl : n5 = 0 := Hn5.out))
        | (go_at_call 16; ((with_reducible refine (law10_alive _).mono ?_); rintro e w9 ⟨rfl, hb9⟩; obtain ⟨x9, rfl⟩ := ext_of_grow hb9; clear hb9))
        | (go_at_call 24; ((with_reducible refine (encode_Func ⟨fp, fu, fl, fb⟩ _ _ _ Hfw.out (h1.mono (by (repeat (first | (with_reducible exact Grow.refl _) | assumption | refine Grow.ext ?_ _ | refine Grow.alloc ?_ _ | refine Grow.drew ?_ | refine Grow.setCell ?_ (by first | (simp; done) | (simp; omega)) _ | refine Grow.trans ?_ (by assumption))))) (h2.mono (by (repeat (first | (with_reducible exact Grow.refl _) | assumption | refine Grow.ext ?_ _ | refine Grow.alloc ?_ _ | refine Grow.drew ?_ | refine Grow.setCell ?_ (by first | (simp; done) | (simp; omega)) _ | refine Grow.trans ?_ (by assumption)))))).mono ?_); rintro e w2 ⟨_, rfl, ⟨u2, rfl, hs2⟩, hg2⟩; rw [Hz2.out.1] at hs2; rw [Hz2.out.2.1]; obtain ⟨a2, n2, c2, rfl, Hn2, _, _, _, hs2⟩ := hs2.open; obtain ⟨x2, rfl⟩ := ext_of_grow hg2; clear hg2; have hcv2 := conv_at hs2)))
      go_ret
      exact Ret.bool rfl (by (repeat (first | (with_reducible exact Grow.refl _) | assumption | refine Grow.ext ?_ _ | refine Grow.alloc ?_ _ | refine Grow.drew ?_ | refine Grow.setCell ?_ (by first | (simp; done) | (simp; omega)) _ | refine Grow.trans ?_ (by assumption))))
  · have hef1 : (ef == 0) = false := by simp [hef]
    have hef2 : (ef != 0) = true := by simp [hef]
    by_cases hep : ep = 0
    · subst hep
      have Hy2 := Lib.hid (Hy.out rfl)
      have Hy3 : Hid (∀ w' {F : Nat → Prop} pv (hp : Sl F w' pv p.funcs), Calls Tryz.prog 15 #[.agg #[pv]] w' (Ret w' (.int .i64 0))) := Lib.hid (fun w' F pv hp => by have := ref08_Check p pv w' hp; rw [Hy2.out.2.2] at this; exact this)
      go_enter Tryz.func6, Tryz.ntmps6
      go_wp2_with (first
        | (go_at_call 21; ((with_reducible refine (decode_Func _ b _ (hs.mono (by (repeat (first | (with_reducible exact Grow.refl _) | assumption | refine Grow.ext ?_ _ | refine Grow.alloc ?_ _ | refine Grow.drew ?_ | refine Grow.setCell ?_ (by first | (simp; done) | (simp; omega)) _ | refine Grow.trans ?_ (by assumption)))))).mono ?_); rintro e w1 ⟨_, rfl, ⟨v1, v2, rfl, h1, h2⟩, hg1⟩; rw [Hf.out] at h1 h2 ⊢; obtain ⟨va, vn, vc, rfl, _, _, _, _, h1⟩ := h1.open; obtain ⟨ja, jn, jc, rfl, _, _, _, _, h2⟩ := h2.open; obtain ⟨x1, rfl⟩ := ext_of_grow hg1; clear hg1; (try dsimp only at h1 h2)))
        | (go_at_call 18; ((with_reducible refine (decode_Program _ b _ (hs.mono (by (repeat (first | (with_reducible exact Grow.refl _) | assumption | refine Grow.ext ?_ _ | refine Grow.alloc ?_ _ | refine Grow.drew ?_ | refine Grow.setCell ?_ (by first | (simp; done) | (simp; omega)) _ | refine Grow.trans ?_ (by assumption)))))).mono ?_); rintro e w5 ⟨_, rfl, ⟨v5, rfl, ho5⟩, hg5⟩; rw [Hp.out] at ho5 ⊢; obtain ⟨a5, n5, c5, rfl, Hn5, hn5, ho5⟩ := ho5.open; obtain ⟨x5, rfl⟩ := ext_of_grow hg5; clear hg5))
        | (go_at_call 10; ((with_reducible refine (encode_Bytes p _ _ (ho5.sl.mono (by (repeat (first | (with_reducible exact Grow.refl _) | assumption | refine Grow.ext ?_ _ | refine Grow.alloc ?_ _ | refine Grow.drew ?_ | refine Grow.setCell ?_ (by first | (simp; done) | (simp; omega)) _ | refine Grow.trans ?_ (by assumption)))))).mono ?_); rintro e w6 ⟨_, rfl, ⟨u6, rfl, hs6⟩, hg6⟩; rw [Hy2.out.1] at hs6; rw [Hy2.out.2.1]; obtain ⟨a6, n6, c6, rfl, Hn6, _, _, _, hs6⟩ := hs6.open; obtain ⟨x6, rfl⟩ := ext_of_grow hg6; clear hg6; have hcv6 := conv_at hs6))
        | (go_at_call 15; ((with_reducible refine (Hy3.out _ _ (ho5.sl.mono (by (repeat (first | (with_reducible exact Grow.refl _) | assumption | refine Grow.ext ?_ _ | refine Grow.alloc ?_ _ | refine Grow.drew ?_ | refine Grow.setCell ?_ (by first | (simp; done) | (simp; omega)) _ | refine Grow.trans ?_ (by assumption)))))).mono ?_); rintro e w7 ⟨rfl, hb7⟩; obtain ⟨x7, rfl⟩ := ext_of_grow hb7; clear hb7))
        | (go_at_call 16; ((with_reducible refine (law10_alive _).mono ?_); rintro e w9 ⟨rfl, hb9⟩; obtain ⟨x9, rfl⟩ := ext_of_grow hb9; clear hb9)))
      go_ret
      exact Ret.bool rfl (by (repeat (first | (with_reducible exact Grow.refl _) | assumption | refine Grow.ext ?_ _ | refine Grow.alloc ?_ _ | refine Grow.drew ?_ | refine Grow.setCell ?_ (by first | (simp; done) | (simp; omega)) _ | refine Grow.trans ?_ (by assumption))))
    · have hep1 : (ep == 0) = false := by simp [hep]
      have hep2 : (ep != 0) = true := by simp [hep]
      obtain rfl := Hx.out hep
      go_enter Tryz.func6, Tryz.ntmps6
      go_wp2_with (first
        | (go_at_call 21; ((with_reducible refine (decode_Func _ b _ (hs.mono (by (repeat (first | (with_reducible exact Grow.refl _) | assumption | refine Grow.ext ?_ _ | refine Grow.alloc ?_ _ | refine Grow.drew ?_ | refine Grow.setCell ?_ (by first | (simp; done) | (simp; omega)) _ | refine Grow.trans ?_ (by assumption)))))).mono ?_); rintro e w1 ⟨_, rfl, ⟨v1, v2, rfl, h1, h2⟩, hg1⟩; rw [Hf.out] at h1 h2 ⊢; obtain ⟨va, vn, vc, rfl, _, _, _, _, h1⟩ := h1.open; obtain ⟨ja, jn, jc, rfl, _, _, _, _, h2⟩ := h2.open; obtain ⟨x1, rfl⟩ := ext_of_grow hg1; clear hg1; (try dsimp only at h1 h2)))
        | (go_at_call 18; ((with_reducible refine (decode_Program _ b _ (hs.mono (by (repeat (first | (with_reducible exact Grow.refl _) | assumption | refine Grow.ext ?_ _ | refine Grow.alloc ?_ _ | refine Grow.drew ?_ | refine Grow.setCell ?_ (by first | (simp; done) | (simp; omega)) _ | refine Grow.trans ?_ (by assumption)))))).mono ?_); rintro e w5 ⟨_, rfl, ⟨v5, rfl, ho5⟩, hg5⟩; rw [Hp.out] at ho5 ⊢; obtain ⟨a5, n5, c5, rfl, Hn5, hn5, ho5⟩ := ho5.open; obtain ⟨x5, rfl⟩ := ext_of_grow hg5; clear hg5; obtain rfl : n5 = 0 := Hn5.out))
        | (go_at_call 16; ((with_reducible refine (law10_alive _).mono ?_); rintro e w9 ⟨rfl, hb9⟩; obtain ⟨x9, rfl⟩ := ext_of_grow hb9; clear hb9)))
      go_ret
      exact Ret.bool rfl (by (repeat (first | (with_reducible exact Grow.refl _) | assumption | refine Grow.ext ?_ _ | refine Grow.alloc ?_ _ | refine Grow.drew ?_ | refine Grow.setCell ?_ (by first | (simp; done) | (simp; omega)) _ | refine Grow.trans ?_ (by assumption))))
end Go.Proofs.YtafcdabiplcjiaaGreat
