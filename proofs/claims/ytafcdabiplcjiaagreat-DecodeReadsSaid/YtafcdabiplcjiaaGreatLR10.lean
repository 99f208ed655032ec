/- Layer 10: the law that the program reads what the reference reads. -/
import Derived.Test.YtafcdabiplcjiaaGreatLQ10e
import Derived.Test.YtafcdabiplcjiaaGreatL09n
import Derived.Test.YtafcdabiplcjiaaGreatL08u
import Derived.Test.YtafcdabiplcjiaaGreatL09k
namespace Go.Proofs.YtafcdabiplcjiaaGreat
open Go.RowKit
set_option linter.unusedSimpArgs false
set_option linter.unusedVariables false

theorem fnSame_yes (x : Fn) (v1 v2 v3 v4 : Value) (w : World) {F1 F2 F3 F4 : Nat → Prop} (h1 : Sl F1 w v1 x.locals) (h2 : Sl F2 w v2 x.blocks) (h3 : Sl F3 w v3 x.locals) (h4 : Sl F4 w v4 x.blocks) : Calls Tryz.prog 23 #[x.v v1 v2, x.v v3 v4] w (Ret w (.bool true)) := by
  have := ref07_Same x x v1 v2 v3 v4 w h1 h2 h3 h4
  have e : sameFn x x = true := by simp [sameFn]
  rw [e] at this; exact this
set_option maxRecDepth 100000 in
set_option maxHeartbeats 8000000 in
theorem law_DecodeReads (v : Value) (b : List Nat) (w : World) {F : Nat → Prop} (hs : Sl F w v b) : Calls Tryz.prog 5 #[v] w (Ret w (.bool true)) := by
  obtain ⟨a, n, cap, rfl, Hn, hm, hcap, hcm, hs⟩ := hs.open
  have HG : Hid (∀ w' {F : Nat → Prop} (hp : Sl F w' (.slice a n cap) b), Calls Tryz.prog 19 #[.slice a n cap] w' (Ret w' (.bool (bigB n)))) := Lib.hid (fun w' F hp => by have := ref10_Great _ b w' hp; rw [← Hn.out] at this; exact this)
  cases hg : bigB n
  · rw [hg] at HG
    have hn : n ≤ 4100 := by simp [bigB] at hg; omega
    clear hg
    have hcvb := conv_at hs
    obtain ⟨⟨p, ep⟩, Hp⟩ : ∃ q, Hid (decPr b = q) := ⟨_, Lib.hid rfl⟩
    obtain ⟨⟨⟨fp, fu, fl, fb⟩, k, ef⟩, Hf⟩ : ∃ q, Hid (decFn b = q) := ⟨_, Lib.hid rfl⟩
    have Hs1 : Hid (∀ w' {F F' : Nat → Prop} v1 v2 (h1 : Sl F w' v1 p.funcs) (h2 : Sl F' w' v2 p.funcs), Calls Tryz.prog 14 #[.agg #[v1], .agg #[v2]] w' (Ret w' (.bool true))) := Lib.hid (fun w' F F' v1 v2 h1 h2 => Same_yes p v1 v2 w' h1 h2)
    have Hs2 : Hid (∀ w' {F1 F2 F3 F4 : Nat → Prop} v1 v2 v3 v4 (h1 : Sl F1 w' v1 fl) (h2 : Sl F2 w' v2 fb) (h3 : Sl F3 w' v3 fl) (h4 : Sl F4 w' v4 fb), Calls Tryz.prog 23 #[.agg #[.int .i64 fp, .bool fu, v1, v2], .agg #[.int .i64 fp, .bool fu, v3, v4]] w' (Ret w' (.bool true))) := Lib.hid (fun w' F1 F2 F3 F4 v1 v2 v3 v4 h1 h2 h3 h4 => fnSame_yes ⟨fp, fu, fl, fb⟩ v1 v2 v3 v4 w' h1 h2 h3 h4)
    go_enter Tryz.func5, Tryz.ntmps5
    go_wp2_with (first
      | (go_at_call 19; ((with_reducible refine (HG.out _ (hs.mono (by (repeat (first | (with_reducible exact Grow.refl _) | assumption | refine Grow.ext ?_ _ | refine Grow.alloc ?_ _ | refine Grow.drew ?_ | refine Grow.setCell ?_ (by first | (simp; done) | (simp; omega)) _ | refine Grow.trans ?_ (by assumption)))))).mono ?_); rintro e w1 ⟨rfl, hb1⟩; obtain ⟨x1, rfl⟩ := ext_of_grow hb1; clear hb1))
      | (at_builtin; go_loud (refine wpList_appH (W := ext w x1) slT_u8 rfl rfl rfl rfl (by (repeat (first | (with_reducible exact Grow.refl _) | assumption | refine Grow.ext ?_ _ | refine Grow.alloc ?_ _ | refine Grow.drew ?_ | refine Grow.setCell ?_ (by first | (simp; done) | (simp; omega)) _ | refine Grow.trans ?_ (by assumption)))) (by first | (simp; done) | (simp; omega)) (by first | (simp; done) | (simp; omega)) (Own.zero (base := (ext w x1).heap.size) (by simp only [size_ext, hp_at, hp_drew]) (by simp)) (hs.mono (by (repeat (first | (with_reducible exact Grow.refl _) | assumption | refine Grow.ext ?_ _ | refine Grow.alloc ?_ _ | refine Grow.drew ?_ | refine Grow.setCell ?_ (by first | (simp; done) | (simp; omega)) _ | refine Grow.trans ?_ (by assumption))))) (by simp; omega) ?_); intro v2 x2 ho2 ha2 hz2 hv2; obtain ⟨a2, n2, c2, rfl, Hn2, hn2, ho2⟩ := ho2.open'; have hcv2 := conv_at ho2.sl)
      | (go_at_call 18; ((with_reducible refine (decode_Program _ b _ (ho2.sl.mono (by (repeat (first | (with_reducible exact Grow.refl _) | assumption | refine Grow.ext ?_ _ | refine Grow.alloc ?_ _ | refine Grow.drew ?_ | refine Grow.setCell ?_ (by first | (simp; done) | (simp; omega)) _ | refine Grow.trans ?_ (by assumption)))))).mono ?_); rintro e w3 ⟨_, rfl, ⟨v3, rfl, ho3⟩, hg3⟩; rw [Hp.out] at ho3 ⊢; obtain ⟨a3, n3, c3, rfl, Hn3, hn3, ho3⟩ := ho3.open; obtain ⟨x3, rfl⟩ := ext_of_grow hg3; clear hg3))
      | (go_at_call 20; ((with_reducible refine (ref10_Program _ b _ (hs.mono (by (repeat (first | (with_reducible exact Grow.refl _) | assumption | refine Grow.ext ?_ _ | refine Grow.alloc ?_ _ | refine Grow.drew ?_ | refine Grow.setCell ?_ (by first | (simp; done) | (simp; omega)) _ | refine Grow.trans ?_ (by assumption)))))).mono ?_); rintro e w4 ⟨_, rfl, ⟨v4, rfl, ho4⟩, hg4⟩; rw [Hp.out] at ho4 ⊢; obtain ⟨a4, n4, c4, rfl, Hn4, hn4, ho4⟩ := ho4.open; obtain ⟨x4, rfl⟩ := ext_of_grow hg4; clear hg4))
      | (go_at_call 21; ((with_reducible refine (decode_Func _ b _ (ho2.sl.mono (by (repeat (first | (with_reducible exact Grow.refl _) | assumption | refine Grow.ext ?_ _ | refine Grow.alloc ?_ _ | refine Grow.drew ?_ | refine Grow.setCell ?_ (by first | (simp; done) | (simp; omega)) _ | refine Grow.trans ?_ (by assumption)))))).mono ?_); rintro e w5 ⟨_, rfl, ⟨v1, v2, rfl, h1, h2⟩, hg5⟩; rw [Hf.out] at h1 h2 ⊢; obtain ⟨va, vn, vc, rfl, _, _, _, _, h1⟩ := h1.open; obtain ⟨ja, jn, jc, rfl, _, _, _, _, h2⟩ := h2.open; obtain ⟨x5, rfl⟩ := ext_of_grow hg5; clear hg5; (try dsimp only at h1 h2)))
      | (go_at_call 22; ((with_reducible refine (ref10_Func _ b _ (hs.mono (by (repeat (first | (with_reducible exact Grow.refl _) | assumption | refine Grow.ext ?_ _ | refine Grow.alloc ?_ _ | refine Grow.drew ?_ | refine Grow.setCell ?_ (by first | (simp; done) | (simp; omega)) _ | refine Grow.trans ?_ (by assumption)))))).mono ?_); rintro e w6 ⟨_, rfl, ⟨v1, v2, rfl, h3, h4⟩, hg6⟩; rw [Hf.out] at h3 h4 ⊢; obtain ⟨sa, sn, sc, rfl, _, _, _, _, h3⟩ := h3.open; obtain ⟨ta, tn, tc, rfl, _, _, _, _, h4⟩ := h4.open; obtain ⟨x6, rfl⟩ := ext_of_grow hg6; clear hg6; (try dsimp only at h3 h4)))
      | (go_at_call 14; ((with_reducible refine (Hs1.out _ _ _ (ho3.sl.mono (by (repeat (first | (with_reducible exact Grow.refl _) | assumption | refine Grow.ext ?_ _ | refine Grow.alloc ?_ _ | refine Grow.drew ?_ | refine Grow.setCell ?_ (by first | (simp; done) | (simp; omega)) _ | refine Grow.trans ?_ (by assumption))))) (ho4.sl.mono (by (repeat (first | (with_reducible exact Grow.refl _) | assumption | refine Grow.ext ?_ _ | refine Grow.alloc ?_ _ | refine Grow.drew ?_ | refine Grow.setCell ?_ (by first | (simp; done) | (simp; omega)) _ | refine Grow.trans ?_ (by assumption)))))).mono ?_); rintro e w7 ⟨rfl, hb7⟩; obtain ⟨x7, rfl⟩ := ext_of_grow hb7; clear hb7))
      | (go_at_call 23; ((with_reducible refine (Hs2.out _ _ _ _ _ (h1.mono (by (repeat (first | (with_reducible exact Grow.refl _) | assumption | refine Grow.ext ?_ _ | refine Grow.alloc ?_ _ | refine Grow.drew ?_ | refine Grow.setCell ?_ (by first | (simp; done) | (simp; omega)) _ | refine Grow.trans ?_ (by assumption))))) (h2.mono (by (repeat (first | (with_reducible exact Grow.refl _) | assumption | refine Grow.ext ?_ _ | refine Grow.alloc ?_ _ | refine Grow.drew ?_ | refine Grow.setCell ?_ (by first | (simp; done) | (simp; omega)) _ | refine Grow.trans ?_ (by assumption))))) (h3.mono (by (repeat (first | (with_reducible exact Grow.refl _) | assumption | refine Grow.ext ?_ _ | refine Grow.alloc ?_ _ | refine Grow.drew ?_ | refine Grow.setCell ?_ (by first | (simp; done) | (simp; omega)) _ | refine Grow.trans ?_ (by assumption))))) (h4.mono (by (repeat (first | (with_reducible exact Grow.refl _) | assumption | refine Grow.ext ?_ _ | refine Grow.alloc ?_ _ | refine Grow.drew ?_ | refine Grow.setCell ?_ (by first | (simp; done) | (simp; omega)) _ | refine Grow.trans ?_ (by assumption)))))).mono ?_); rintro e w8 ⟨rfl, hb8⟩; obtain ⟨x8, rfl⟩ := ext_of_grow hb8; clear hb8)))
    go_ret
    exact Ret.bool (by first | rfl | (simp; done)) (by (repeat (first | (with_reducible exact Grow.refl _) | assumption | refine Grow.ext ?_ _ | refine Grow.alloc ?_ _ | refine Grow.drew ?_ | refine Grow.setCell ?_ (by first | (simp; done) | (simp; omega)) _ | refine Grow.trans ?_ (by assumption))))
  · rw [hg] at HG
    go_enter Tryz.func5, Tryz.ntmps5
    go_wp2_with (first | (go_at_call 19; ((with_reducible refine (HG.out _ (hs.mono (by (repeat (first | (with_reducible exact Grow.refl _) | assumption | refine Grow.ext ?_ _ | refine Grow.alloc ?_ _ | refine Grow.drew ?_ | refine Grow.setCell ?_ (by first | (simp; done) | (simp; omega)) _ | refine Grow.trans ?_ (by assumption)))))).mono ?_); rintro e w1 ⟨rfl, hb1⟩; obtain ⟨x1, rfl⟩ := ext_of_grow hb1; clear hb1)))
    go_ret
    exact Ret.bool rfl (by (repeat (first | (with_reducible exact Grow.refl _) | assumption | refine Grow.ext ?_ _ | refine Grow.alloc ?_ _ | refine Grow.drew ?_ | refine Grow.setCell ?_ (by first | (simp; done) | (simp; omega)) _ | refine Grow.trans ?_ (by assumption))))
end Go.Proofs.YtafcdabiplcjiaaGreat
