/- Layer 10: the law that what was written is read. -/
import Derived.Test.YtafcdabiplcjiaaGreatL10s
import Derived.Test.YtafcdabiplcjiaaGreatL10v
import Derived.Test.YtafcdabiplcjiaaGreatL09m
import Derived.Test.YtafcdabiplcjiaaGreatL09n
import Derived.Test.YtafcdabiplcjiaaGreatL08d
namespace Go.Proofs.YtafcdabiplcjiaaGreat
open Go.RowKit
set_option linter.unusedSimpArgs false
set_option linter.unusedVariables false

theorem encFn_in2 {p : Pr} {f : Fn} (h : f ∈ p.funcs) : (encFn f).length ≤ (encPr p).length := by
  unfold encPr; rw [List.length_append]
  obtain ⟨s, t, e⟩ := List.append_of_mem h
  rw [e, List.flatMap_append, List.flatMap_cons]; simp only [List.length_append]; omega
theorem decFn_wf {b : List Nat} (hb : ∀ x ∈ b, x < 256) : (decFn b).1.wf := by
  unfold decFn
  (repeat' split) <;> first | exact rdFn_wf hb | exact ⟨by unfold I64; dsimp only; omega⟩
set_option maxRecDepth 100000 in
set_option maxHeartbeats 16000000 in
theorem law_DecodeWritten (p : Pr) (pv : Value) (at' : Int) (rv : Value) (r : List Nat) (w : World) {F G : Nat → Prop} (hpw : p.wf) (hp : Sl F w pv p.funcs) (hat : I64 at') (hr : Sl G w rv r) :
    Calls Tryz.prog 7 #[p.v pv, .int .i64 at', rv] w (Ret w (.bool true)) := by
  have hp := hp.old
  have Hrb := Lib.hid hr.bytes
  obtain ⟨a, n, cap, rfl, Hn, hm, hcap, hcm, hp⟩ := hp.open
  obtain ⟨ra, R, rc, rfl, HR, hRm, hrcap, hrcm, hr⟩ := hr.open
  by_cases hbig : bigPr 12 p = true
  · have Hg : Hid (∀ w' {F : Nat → Prop} pv (hp : Sl F w' pv p.funcs), Calls Tryz.prog 8 #[.agg #[pv]] w' (Ret w' (.bool true))) := Lib.hid (fun w' F pv hp => by have := ref08_Great p pv w' hp; rw [hbig] at this; exact this)
    go_enter Tryz.func7, Tryz.ntmps7
    go_wp2_with (first | (go_at_call 8; ((with_reducible refine (Hg.out _ _ (hp.mono (by (repeat (first | (with_reducible exact Grow.refl _) | assumption | refine Grow.ext ?_ _ | refine Grow.alloc ?_ _ | refine Grow.drew ?_ | refine Grow.setCell ?_ (by first | (simp; done) | (simp; omega)) _ | refine Grow.trans ?_ (by assumption)))))).mono ?_); rintro e w1 ⟨rfl, hb1⟩; obtain ⟨x1, rfl⟩ := ext_of_grow hb1; clear hb1)) | (go_at_call 16; ((with_reducible refine (law10_alive _).mono ?_); rintro e w9 ⟨rfl, hb9⟩; obtain ⟨x9, rfl⟩ := ext_of_grow hb9; clear hb9)))
    go_ret
    exact Ret.bool (by first | rfl | (simp; done)) (by (repeat (first | (with_reducible exact Grow.refl _) | assumption | refine Grow.ext ?_ _ | refine Grow.alloc ?_ _ | refine Grow.drew ?_ | refine Grow.setCell ?_ (by first | (simp; done) | (simp; omega)) _ | refine Grow.trans ?_ (by assumption))))
  have hbig : bigPr 12 p = false := by simpa using hbig
  obtain ⟨pe, hpe⟩ : ∃ e, prErr p = e := ⟨_, rfl⟩
  have Hc : Hid (∀ w' {F : Nat → Prop} pv (hp : Sl F w' pv p.funcs), Calls Tryz.prog 15 #[.agg #[pv]] w' (Ret w' (.int .i64 pe))) := Lib.hid (fun w' F pv hp => by have := ref08_Check p pv w' hp; rw [hpe] at this; exact this)
  have Hg : Hid (∀ w' {F : Nat → Prop} pv (hp : Sl F w' pv p.funcs), Calls Tryz.prog 8 #[.agg #[pv]] w' (Ret w' (.bool false))) := Lib.hid (fun w' F pv hp => by have := ref08_Great p pv w' hp; rw [hbig] at this; exact this)
  by_cases hp0 : pe ≠ 0
  · have hp1 : (pe != 0) = true := by simp [hp0]
    clear hpe hbig
    go_enter Tryz.func7, Tryz.ntmps7
    go_wp2_with (first | (go_at_call 8; ((with_reducible refine (Hg.out _ _ (hp.mono (by (repeat (first | (with_reducible exact Grow.refl _) | assumption | refine Grow.ext ?_ _ | refine Grow.alloc ?_ _ | refine Grow.drew ?_ | refine Grow.setCell ?_ (by first | (simp; done) | (simp; omega)) _ | refine Grow.trans ?_ (by assumption)))))).mono ?_); rintro e w1 ⟨rfl, hb1⟩; obtain ⟨x1, rfl⟩ := ext_of_grow hb1; clear hb1)) | (go_at_call 15; ((with_reducible refine (Hc.out _ _ (hp.mono (by (repeat (first | (with_reducible exact Grow.refl _) | assumption | refine Grow.ext ?_ _ | refine Grow.alloc ?_ _ | refine Grow.drew ?_ | refine Grow.setCell ?_ (by first | (simp; done) | (simp; omega)) _ | refine Grow.trans ?_ (by assumption)))))).mono ?_); rintro e w2 ⟨rfl, hb2⟩; obtain ⟨x2, rfl⟩ := ext_of_grow hb2; clear hb2)) | (go_at_call 16; ((with_reducible refine (law10_alive _).mono ?_); rintro e w9 ⟨rfl, hb9⟩; obtain ⟨x9, rfl⟩ := ext_of_grow hb9; clear hb9)))
    go_ret
    exact Ret.bool (by first | rfl | (simp; done)) (by (repeat (first | (with_reducible exact Grow.refl _) | assumption | refine Grow.ext ?_ _ | refine Grow.alloc ?_ _ | refine Grow.drew ?_ | refine Grow.setCell ?_ (by first | (simp; done) | (simp; omega)) _ | refine Grow.trans ?_ (by assumption))))
  obtain rfl : pe = 0 := by simpa using hp0
  have hp0 := Lib.hid hpe
  clear hpe hbig
  by_cases hR : 50 < R
  · go_enter Tryz.func7, Tryz.ntmps7
    go_wp2_with (first | (go_at_call 8; ((with_reducible refine (Hg.out _ _ (hp.mono (by (repeat (first | (with_reducible exact Grow.refl _) | assumption | refine Grow.ext ?_ _ | refine Grow.alloc ?_ _ | refine Grow.drew ?_ | refine Grow.setCell ?_ (by first | (simp; done) | (simp; omega)) _ | refine Grow.trans ?_ (by assumption)))))).mono ?_); rintro e w1 ⟨rfl, hb1⟩; obtain ⟨x1, rfl⟩ := ext_of_grow hb1; clear hb1)) | (go_at_call 15; ((with_reducible refine (Hc.out _ _ (hp.mono (by (repeat (first | (with_reducible exact Grow.refl _) | assumption | refine Grow.ext ?_ _ | refine Grow.alloc ?_ _ | refine Grow.drew ?_ | refine Grow.setCell ?_ (by first | (simp; done) | (simp; omega)) _ | refine Grow.trans ?_ (by assumption)))))).mono ?_); rintro e w2 ⟨rfl, hb2⟩; obtain ⟨x2, rfl⟩ := ext_of_grow hb2; clear hb2)) | (go_at_call 16; ((with_reducible refine (law10_alive _).mono ?_); rintro e w9 ⟨rfl, hb9⟩; obtain ⟨x9, rfl⟩ := ext_of_grow hb9; clear hb9)))
    go_ret
    exact Ret.bool (by first | rfl | (simp; done)) (by (repeat (first | (with_reducible exact Grow.refl _) | assumption | refine Grow.ext ?_ _ | refine Grow.alloc ?_ _ | refine Grow.drew ?_ | refine Grow.setCell ?_ (by first | (simp; done) | (simp; omega)) _ | refine Grow.trans ?_ (by assumption))))
  have Hok := Lib.hid (okPr_of hp hp0.out)
  obtain ⟨B, HB⟩ : ∃ B, Hid (encPr p = B) := ⟨_, Lib.hid rfl⟩
  have Hb := Lib.hid (encPr_byte (pr_some hp0.out).1.2 Hok.out)
  rw [HB.out] at Hb
  obtain ⟨N, HN⟩ : ∃ N, Hid (N = B.length) := ⟨_, Lib.hid rfl⟩
  by_cases hN : 4000 < N
  · have hz := prL_great (p := p) hp0.out (by rw [HB.out, ← HN.out]; omega)
    have He : Hid (∀ w' {F : Nat → Prop} pv (hp : Sl F w' pv p.funcs), Calls Tryz.prog 10 #[.agg #[pv]] w' (RetP w' fun v w'' => ∃ u, v = .tuple #[u, .int .i64 18] ∧ Sl (Fresh w') w'' u ([] : List Nat))) := Lib.hid (fun w' F pv hp => by have := encode_Bytes p pv w' hp; rw [hz.1, hz.2] at this; exact this)
    clear hz
    go_enter Tryz.func7, Tryz.ntmps7
    go_wp2_with (first | (go_at_call 8; ((with_reducible refine (Hg.out _ _ (hp.mono (by (repeat (first | (with_reducible exact Grow.refl _) | assumption | refine Grow.ext ?_ _ | refine Grow.alloc ?_ _ | refine Grow.drew ?_ | refine Grow.setCell ?_ (by first | (simp; done) | (simp; omega)) _ | refine Grow.trans ?_ (by assumption)))))).mono ?_); rintro e w1 ⟨rfl, hb1⟩; obtain ⟨x1, rfl⟩ := ext_of_grow hb1; clear hb1)) | (go_at_call 15; ((with_reducible refine (Hc.out _ _ (hp.mono (by (repeat (first | (with_reducible exact Grow.refl _) | assumption | refine Grow.ext ?_ _ | refine Grow.alloc ?_ _ | refine Grow.drew ?_ | refine Grow.setCell ?_ (by first | (simp; done) | (simp; omega)) _ | refine Grow.trans ?_ (by assumption)))))).mono ?_); rintro e w2 ⟨rfl, hb2⟩; obtain ⟨x2, rfl⟩ := ext_of_grow hb2; clear hb2)) | (go_at_call 16; ((with_reducible refine (law10_alive _).mono ?_); rintro e w9 ⟨rfl, hb9⟩; obtain ⟨x9, rfl⟩ := ext_of_grow hb9; clear hb9)) | (go_at_call 10; ((with_reducible refine (He.out _ _ (hp.mono (by (repeat (first | (with_reducible exact Grow.refl _) | assumption | refine Grow.ext ?_ _ | refine Grow.alloc ?_ _ | refine Grow.drew ?_ | refine Grow.setCell ?_ (by first | (simp; done) | (simp; omega)) _ | refine Grow.trans ?_ (by assumption)))))).mono ?_); rintro e w6 ⟨_, rfl, ⟨u6, rfl, hs6⟩, hg6⟩; obtain ⟨a6, n6, c6, rfl, Hn6, _, _, _, hs6⟩ := hs6.open; obtain ⟨x6, rfl⟩ := ext_of_grow hg6; clear hg6)))
    go_ret
    exact Ret.bool (by first | rfl | (simp; done)) (by (repeat (first | (with_reducible exact Grow.refl _) | assumption | refine Grow.ext ?_ _ | refine Grow.alloc ?_ _ | refine Grow.drew ?_ | refine Grow.setCell ?_ (by first | (simp; done) | (simp; omega)) _ | refine Grow.trans ?_ (by assumption))))
  have hz := prL_small (p := p) hp0.out (by rw [HB.out, ← HN.out]; omega)
  rw [HB.out] at hz
  have He : Hid (∀ w' {F : Nat → Prop} pv (hp : Sl F w' pv p.funcs), Calls Tryz.prog 10 #[.agg #[pv]] w' (RetP w' fun v w'' => ∃ u, v = .tuple #[u, .int .i64 0] ∧ Sl (Fresh w') w'' u B)) := Lib.hid (fun w' F pv hp => by have := encode_Bytes p pv w' hp; rw [hz.1, hz.2] at this; exact this)
  clear hz
  have Hp : Hid (decPr B = (p, 0)) := Lib.hid (by rw [← HB.out]; exact decPr_put hp0.out Hok.out (by rw [HB.out, ← HN.out]; omega))
  obtain ⟨⟨q1, g⟩, Hm⟩ : ∃ q, Hid (decPr (B ++ r) = q) := ⟨_, Lib.hid rfl⟩
  have Hgm : Hid (0 < R → N + R ≤ 4000 → g = 38) := Lib.hid (fun h1 h2 => by have := decPr_more (p := p) (r := r) hp0.out Hok.out (by rw [HB.out, List.length_append, ← HN.out, ← HR.out]; exact h2) (by rintro rfl; have := HR.out; simp at this; omega); rw [HB.out, Hm.out] at this; injection this)
  have hn0 : 0 < n := by rw [Hn.out]; exact (pr_some hp0.out).1.1
  obtain ⟨b_f, off_f, f, f_locals_a, f_locals_n, f_locals_c, f_blocks_a, f_blocks_n, f_blocks_c, rfl, ⟨Hg_f, hl_f, hw_f, f_locals, f_blocks, c_f0, c_f1, c_f2, c_f3, r_f0⟩⟩ := hp.fn 0 hn0
  have r_fz := r_f0
  simp only [Nat.zero_mul, Nat.add_zero] at r_fz
  have Hfin := Lib.hid (List.mem_of_getElem? Hg_f.out)
  have Hfe := Lib.hid ((pr_some hp0.out).2 f Hfin.out)
  obtain ⟨C, HC⟩ : ∃ C, Hid (encFn f = C) := ⟨_, Lib.hid rfl⟩
  obtain ⟨M, HM⟩ : ∃ M, Hid (M = C.length) := ⟨_, Lib.hid rfl⟩
  have hMN : M ≤ N := by rw [HM.out, ← HC.out, HN.out, ← HB.out]; exact encFn_in2 Hfin.out
  have hz := fnL_small (f := f) Hfe.out (by rw [HC.out, ← HM.out]; omega)
  rw [HC.out] at hz
  have Hef : Hid (∀ w' {F F' : Nat → Prop} v1 v2 (h1 : Sl F w' v1 f.locals) (h2 : Sl F' w' v2 f.blocks), Calls Tryz.prog 24 #[.agg #[.int .i64 f.params, .bool f.uns, v1, v2]] w' (RetP w' fun v w'' => ∃ u, v = .tuple #[u, .int .i64 0] ∧ Sl (Fresh w') w'' u C)) := Lib.hid (fun w' F F' v1 v2 h1 h2 => by have := encode_Func f v1 v2 w' hw_f h1 h2; rw [hz.1, hz.2] at this; exact this)
  clear hz
  obtain ⟨⟨f2, k2, i2⟩, Hd⟩ : ∃ q, Hid (decFn (C ++ r) = q) := ⟨_, Lib.hid rfl⟩
  have Hd2 : Hid (M + R ≤ 4000 → f2 = f ∧ k2 = M ∧ i2 = 0) := Lib.hid (fun h => by have := decFn_put (f := f) (r := r) Hfe.out (Hok.out f Hfin.out) (by rw [HC.out, List.length_append, ← HM.out, ← HR.out]; exact h); rw [HC.out, Hd.out, ← HM.out] at this; simp only [Prod.mk.injEq] at this; exact this)
  have Hs1 : Hid (∀ w' {F F' : Nat → Prop} v1 v2 (h1 : Sl F w' v1 p.funcs) (h2 : Sl F' w' v2 p.funcs), Calls Tryz.prog 14 #[.agg #[v1], .agg #[v2]] w' (Ret w' (.bool true))) := Lib.hid (fun w' F F' v1 v2 h1 h2 => Same_yes p v1 v2 w' h1 h2)
  have Hs2 : Hid (∀ w' {F1 F2 F3 F4 : Nat → Prop} v1 v2 v3 v4 (h1 : Sl F1 w' v1 f.locals) (h2 : Sl F2 w' v2 f.blocks) (h3 : Sl F3 w' v3 f.locals) (h4 : Sl F4 w' v4 f.blocks), Calls Tryz.prog 23 #[.agg #[.int .i64 f.params, .bool f.uns, v1, v2], .agg #[.int .i64 f.params, .bool f.uns, v3, v4]] w' (Ret w' (.bool true))) := Lib.hid (fun w' F1 F2 F3 F4 v1 v2 v3 v4 h1 h2 h3 h4 => by have := ref07_Same f f v1 v2 v3 v4 w' h1 h2 h3 h4; rw [show sameFn f f = true by simp [sameFn]] at this; exact this)
  have Hcut : Hid (∀ k : Nat, k < N → decPr (B.take k) = (⟨[]⟩, 24)) := Lib.hid (fun k hk => by rw [← HB.out]; exact decPr_cut hp0.out Hok.out (by rw [HB.out, ← HN.out]; omega) (by rw [HB.out, ← HN.out]; exact hk))
  have hN4 : N ≤ 4000 := by omega
  have hR50 : R ≤ 50 := by omega
  clear hN hR hp0 Hok Hfin Hfe Hrb HB HC
  have hCl := Lib.hid HM.out
  go_enter Tryz.func7, Tryz.ntmps7
  go_upto_region 11 with (first
    | (go_at_call 8; ((with_reducible refine (Hg.out _ _ (hp.mono (by (repeat (first | (with_reducible exact Grow.refl _) | assumption | refine Grow.ext ?_ _ | refine Grow.alloc ?_ _ | refine Grow.drew ?_ | refine Grow.setCell ?_ (by first | (simp; done) | (simp; omega)) _ | refine Grow.trans ?_ (by assumption)))))).mono ?_); rintro e w1 ⟨rfl, hb1⟩; obtain ⟨x1, rfl⟩ := ext_of_grow hb1; clear hb1))
    | (go_at_call 15; ((with_reducible refine (Hc.out _ _ (hp.mono (by (repeat (first | (with_reducible exact Grow.refl _) | assumption | refine Grow.ext ?_ _ | refine Grow.alloc ?_ _ | refine Grow.drew ?_ | refine Grow.setCell ?_ (by first | (simp; done) | (simp; omega)) _ | refine Grow.trans ?_ (by assumption)))))).mono ?_); rintro e w2 ⟨rfl, hb2⟩; obtain ⟨x2, rfl⟩ := ext_of_grow hb2; clear hb2))
    | (go_at_call 10; ((with_reducible refine (He.out _ _ (hp.mono (by (repeat (first | (with_reducible exact Grow.refl _) | assumption | refine Grow.ext ?_ _ | refine Grow.alloc ?_ _ | refine Grow.drew ?_ | refine Grow.setCell ?_ (by first | (simp; done) | (simp; omega)) _ | refine Grow.trans ?_ (by assumption)))))).mono ?_); rintro e w6 ⟨_, rfl, ⟨u6, rfl, hs6⟩, hg6⟩; obtain ⟨a6, n6, c6, rfl, Hn6, _, _, _, hs6⟩ := hs6.open; obtain ⟨x6, rfl⟩ := ext_of_grow hg6; clear hg6; obtain rfl : N = n6 := (by rw [Hn6.out, HN.out])))
    | (go_at_call 18; ((with_reducible refine (decode_Program _ B _ (hs6.mono (by (repeat (first | (with_reducible exact Grow.refl _) | assumption | refine Grow.ext ?_ _ | refine Grow.alloc ?_ _ | refine Grow.drew ?_ | refine Grow.setCell ?_ (by first | (simp; done) | (simp; omega)) _ | refine Grow.trans ?_ (by assumption)))))).mono ?_); rintro e w5 ⟨_, rfl, ⟨v5, rfl, ho5⟩, hg5⟩; rw [Hp.out] at ho5 ⊢; obtain ⟨a5, n5, c5, rfl, Hn5, hn5, ho5⟩ := ho5.open; obtain ⟨x5, rfl⟩ := ext_of_grow hg5; clear hg5))
    | (go_at_call 14; ((with_reducible refine (Hs1.out _ _ _ (hp.mono (by (repeat (first | (with_reducible exact Grow.refl _) | assumption | refine Grow.ext ?_ _ | refine Grow.alloc ?_ _ | refine Grow.drew ?_ | refine Grow.setCell ?_ (by first | (simp; done) | (simp; omega)) _ | refine Grow.trans ?_ (by assumption))))) (ho5.sl.mono (by (repeat (first | (with_reducible exact Grow.refl _) | assumption | refine Grow.ext ?_ _ | refine Grow.alloc ?_ _ | refine Grow.drew ?_ | refine Grow.setCell ?_ (by first | (simp; done) | (simp; omega)) _ | refine Grow.trans ?_ (by assumption)))))).mono ?_); rintro e w7 ⟨rfl, hb7⟩; obtain ⟨x7, rfl⟩ := ext_of_grow hb7; clear hb7))
    | (at_builtin; (refine wpList_appH (W := (ext ((ext (ext (ext (ext (w.alloc (.cells #[.slice (some ⟨b_f, off_f, none⟩) n cap] 24)) x1) x2) x6) x5).alloc (.cells #[.slice a5 n5 c5] 24)) x7)) slT_u8 rfl rfl rfl rfl (by (repeat (first | (with_reducible exact Grow.refl _) | assumption | refine Grow.ext ?_ _ | refine Grow.alloc ?_ _ | refine Grow.drew ?_ | refine Grow.setCell ?_ (by first | (simp; done) | (simp; omega)) _ | refine Grow.trans ?_ (by assumption)))) (by first | (simp; done) | (simp; omega)) (by first | (simp; done) | (simp; omega)) (Own.zero (base := (ext ((ext (ext (ext (ext (w.alloc (.cells #[.slice (some ⟨b_f, off_f, none⟩) n cap] 24)) x1) x2) x6) x5).alloc (.cells #[.slice a5 n5 c5] 24)) x7).heap.size) (by simp only [hp_at, hp_drew]) (by simp)) (hs6.mono (by (repeat (first | (with_reducible exact Grow.refl _) | assumption | refine Grow.ext ?_ _ | refine Grow.alloc ?_ _ | refine Grow.drew ?_ | refine Grow.setCell ?_ (by first | (simp; done) | (simp; omega)) _ | refine Grow.trans ?_ (by assumption))))) (by simp; omega) ?_); intro v8 x8 ho8 ha8 hz8 hv8; obtain ⟨a8, n8, c8, rfl, Hn8, hn8, ho8⟩ := ho8.open'; rw [List.nil_append] at Hn8 ho8; obtain rfl : N = n8 := (by rw [HN.out, Hn8.out]))
    | (at_builtin; (refine wpList_appH (W := (ext ((ext (ext (ext (ext (w.alloc (.cells #[.slice (some ⟨b_f, off_f, none⟩) n cap] 24)) x1) x2) x6) x5).alloc (.cells #[.slice a5 n5 c5] 24)) x7)) slT_u8 rfl rfl rfl rfl (by (repeat (first | (with_reducible exact Grow.refl _) | assumption | refine Grow.ext ?_ _ | refine Grow.alloc ?_ _ | refine Grow.drew ?_ | refine Grow.setCell ?_ (by first | (simp; done) | (simp; omega)) _ | refine Grow.trans ?_ (by assumption)))) (by first | (simp; done) | (simp; omega)) (by first | (simp; done) | (simp; omega)) ho8 (hr.mono (by (repeat (first | (with_reducible exact Grow.refl _) | assumption | refine Grow.ext ?_ _ | refine Grow.alloc ?_ _ | refine Grow.drew ?_ | refine Grow.setCell ?_ (by first | (simp; done) | (simp; omega)) _ | refine Grow.trans ?_ (by assumption))))) (by have := Hn8.out; omega) ?_); intro v3 x3 ho3 ha3 hz3 hv3; obtain ⟨a3, n3, c3, rfl, Hn3, hn3, ho3⟩ := ho3.open')
    | (go_at_call 18; ((with_reducible refine (decode_Program _ (B ++ r) _ (ho3.sl.mono (by (repeat (first | (with_reducible exact Grow.refl _) | assumption | refine Grow.ext ?_ _ | refine Grow.alloc ?_ _ | refine Grow.drew ?_ | refine Grow.setCell ?_ (by first | (simp; done) | (simp; omega)) _ | refine Grow.trans ?_ (by assumption)))))).mono ?_); rintro e w4 ⟨_, rfl, ⟨v4, rfl, ho4⟩, hg4⟩; rw [Hm.out] at ho4 ⊢; obtain ⟨a4, n4, c4, rfl, Hn4, hn4, ho4⟩ := ho4.open; obtain ⟨x4, rfl⟩ := ext_of_grow hg4; clear hg4)))
  obtain rfl : n3 = N + R := by rw [Hn3.out, List.length_append, HN.out, HR.out]
  go_cut [80] (fun v wc => v = .bool false ∧ Grow (ext (ext (ext (w.alloc (.cells #[.slice (some ⟨b_f, off_f, none⟩) n cap] 24)) x1) x2) x6) wc)
  case first =>
    by_cases hR0 : 0 < R
    · have hR1 : decide ((0 : Int) < R) = true := by simp; omega
      by_cases hNR : N + R ≤ 4000
      · obtain rfl := Hgm.out hR0 hNR
        have hNR1 : decide ((N : Int) + R ≤ 4000) = true := by simp; omega
        go_wp2_with fail
        go_meet
        case rel => exact ⟨rfl, (by (repeat (first | (with_reducible exact Grow.refl _) | assumption | refine Grow.ext ?_ _ | refine Grow.alloc ?_ _ | refine Grow.drew ?_ | refine Grow.setCell ?_ (by first | (simp; done) | (simp; omega)) _ | refine Grow.trans ?_ (by assumption))))⟩
      · have hNR1 : decide ((N : Int) + R ≤ 4000) = false := by simp; omega
        go_wp2_with fail
        go_meet
        case rel => exact ⟨rfl, (by (repeat (first | (with_reducible exact Grow.refl _) | assumption | refine Grow.ext ?_ _ | refine Grow.alloc ?_ _ | refine Grow.drew ?_ | refine Grow.setCell ?_ (by first | (simp; done) | (simp; omega)) _ | refine Grow.trans ?_ (by assumption))))⟩
    · obtain rfl : R = 0 := by omega
      go_wp2_with fail
      go_meet
      case rel => exact ⟨rfl, (by (repeat (first | (with_reducible exact Grow.refl _) | assumption | refine Grow.ext ?_ _ | refine Grow.alloc ?_ _ | refine Grow.drew ?_ | refine Grow.setCell ?_ (by first | (simp; done) | (simp; omega)) _ | refine Grow.trans ?_ (by assumption))))⟩
  obtain ⟨rfl, hcut⟩ := hcut
  obtain ⟨xc, rfl⟩ := ext_of_grow hcut
  clear hcut
  go_upto_region 15 with (first
    | (go_at_call 24; ((with_reducible refine (Hef.out _ _ _ (f_locals.mono (by (repeat (first | (with_reducible exact Grow.refl _) | assumption | refine Grow.ext ?_ _ | refine Grow.alloc ?_ _ | refine Grow.drew ?_ | refine Grow.setCell ?_ (by first | (simp; done) | (simp; omega)) _ | refine Grow.trans ?_ (by assumption))))) (f_blocks.mono (by (repeat (first | (with_reducible exact Grow.refl _) | assumption | refine Grow.ext ?_ _ | refine Grow.alloc ?_ _ | refine Grow.drew ?_ | refine Grow.setCell ?_ (by first | (simp; done) | (simp; omega)) _ | refine Grow.trans ?_ (by assumption)))))).mono ?_); rintro e w10 ⟨_, rfl, ⟨u10, rfl, hs10⟩, hg10⟩; obtain ⟨a10, n10, c10, rfl, Hn10, _, _, _, hs10⟩ := hs10.open; obtain ⟨x10, rfl⟩ := ext_of_grow hg10; clear hg10; obtain rfl : M = n10 := (by rw [Hn10.out, HM.out])))
    | (at_builtin; (refine wpList_appH (W := (ext (ext (ext (ext (ext (w.alloc (.cells #[.slice (some ⟨b_f, off_f, none⟩) n cap] 24)) x1) x2) x6) xc) x10)) slT_u8 rfl rfl rfl rfl (by (repeat (first | (with_reducible exact Grow.refl _) | assumption | refine Grow.ext ?_ _ | refine Grow.alloc ?_ _ | refine Grow.drew ?_ | refine Grow.setCell ?_ (by first | (simp; done) | (simp; omega)) _ | refine Grow.trans ?_ (by assumption)))) (by first | (simp; done) | (simp; omega)) (by first | (simp; done) | (simp; omega)) (Own.zero (base := (ext (ext (ext (ext (ext (w.alloc (.cells #[.slice (some ⟨b_f, off_f, none⟩) n cap] 24)) x1) x2) x6) xc) x10).heap.size) (by simp only [hp_at, hp_drew]) (by simp)) (hs10.mono (by (repeat (first | (with_reducible exact Grow.refl _) | assumption | refine Grow.ext ?_ _ | refine Grow.alloc ?_ _ | refine Grow.drew ?_ | refine Grow.setCell ?_ (by first | (simp; done) | (simp; omega)) _ | refine Grow.trans ?_ (by assumption))))) (by simp; omega) ?_); intro v11 x11 ho11 ha11 hz11 hv11; obtain ⟨a11, n11, c11, rfl, Hn11, hn11, ho11⟩ := ho11.open'; rw [List.nil_append] at Hn11 ho11; obtain rfl : M = n11 := (by rw [HM.out, Hn11.out]))
    | (at_builtin; (refine wpList_appH (W := (ext (ext (ext (ext (ext (w.alloc (.cells #[.slice (some ⟨b_f, off_f, none⟩) n cap] 24)) x1) x2) x6) xc) x10)) slT_u8 rfl rfl rfl rfl (by (repeat (first | (with_reducible exact Grow.refl _) | assumption | refine Grow.ext ?_ _ | refine Grow.alloc ?_ _ | refine Grow.drew ?_ | refine Grow.setCell ?_ (by first | (simp; done) | (simp; omega)) _ | refine Grow.trans ?_ (by assumption)))) (by first | (simp; done) | (simp; omega)) (by first | (simp; done) | (simp; omega)) ho11 (hr.mono (by (repeat (first | (with_reducible exact Grow.refl _) | assumption | refine Grow.ext ?_ _ | refine Grow.alloc ?_ _ | refine Grow.drew ?_ | refine Grow.setCell ?_ (by first | (simp; done) | (simp; omega)) _ | refine Grow.trans ?_ (by assumption))))) (by have := Hn11.out; omega) ?_); intro v12 x12 ho12 ha12 hz12 hv12; obtain ⟨a12, n12, c12, rfl, Hn12, hn12, ho12⟩ := ho12.open')
    | (go_at_call 21; ((with_reducible refine (decode_Func _ (C ++ r) _ (ho12.sl.mono (by (repeat (first | (with_reducible exact Grow.refl _) | assumption | refine Grow.ext ?_ _ | refine Grow.alloc ?_ _ | refine Grow.drew ?_ | refine Grow.setCell ?_ (by first | (simp; done) | (simp; omega)) _ | refine Grow.trans ?_ (by assumption)))))).mono ?_); rintro e w13 ⟨_, rfl, ⟨v1, v2, rfl, h1, h2⟩, hg13⟩; rw [Hd.out] at h1 h2 ⊢; obtain ⟨va, vn, vc, rfl, _, _, _, _, h1⟩ := h1.open; obtain ⟨ja, jn, jc, rfl, _, _, _, _, h2⟩ := h2.open; obtain ⟨x13, rfl⟩ := ext_of_grow hg13; clear hg13; (try dsimp only at h1 h2))))
  go_cut [127] (fun v wc => v = .bool false ∧ Grow (ext (ext (ext (w.alloc (.cells #[.slice (some ⟨b_f, off_f, none⟩) n cap] 24)) x1) x2) x6) wc)
  case first =>
    by_cases hMR : M + R ≤ 4000
    · obtain ⟨rfl, rfl, rfl⟩ := Hd2.out hMR
      have hMR1 : decide ((k2 : Int) + R ≤ 4000) = true := by simp; omega
      (refine wp_region_ext (by kernel_rfl) (by kernel_rfl) ?_; (repeat (any_goals (first | go_big_quiet_step (first | (go_at_call 23; refine ext_call (Hs2.out _ _ _ _ _ (h1.mono (by (repeat (first | (with_reducible exact Grow.refl _) | assumption | refine Grow.ext ?_ _ | refine Grow.alloc ?_ _ | refine Grow.drew ?_ | refine Grow.setCell ?_ (by first | (simp; done) | (simp; omega)) _ | refine Grow.trans ?_ (by assumption))))) (h2.mono (by (repeat (first | (with_reducible exact Grow.refl _) | assumption | refine Grow.ext ?_ _ | refine Grow.alloc ?_ _ | refine Grow.drew ?_ | refine Grow.setCell ?_ (by first | (simp; done) | (simp; omega)) _ | refine Grow.trans ?_ (by assumption))))) (f_locals.mono (by (repeat (first | (with_reducible exact Grow.refl _) | assumption | refine Grow.ext ?_ _ | refine Grow.alloc ?_ _ | refine Grow.drew ?_ | refine Grow.setCell ?_ (by first | (simp; done) | (simp; omega)) _ | refine Grow.trans ?_ (by assumption))))) (f_blocks.mono (by (repeat (first | (with_reducible exact Grow.refl _) | assumption | refine Grow.ext ?_ _ | refine Grow.alloc ?_ _ | refine Grow.drew ?_ | refine Grow.setCell ?_ (by first | (simp; done) | (simp; omega)) _ | refine Grow.trans ?_ (by assumption)))))))) | (refine wpQuiet_step (fun K hK => ?_); go_simp; split <;> (refine hK _ ?_; clear hK K))))); all_goals (refine wpQuiet_nil ?_; intro w14 hb14; obtain ⟨x14, rfl⟩ := ext_of_grow hb14; clear hb14))
      go_wp2_with fail
      go_meet
      case rel => exact ⟨rfl, (by (repeat (first | (with_reducible exact Grow.refl _) | assumption | refine Grow.ext ?_ _ | refine Grow.alloc ?_ _ | refine Grow.drew ?_ | refine Grow.setCell ?_ (by first | (simp; done) | (simp; omega)) _ | refine Grow.trans ?_ (by assumption))))⟩
    · have hMR1 : decide ((M : Int) + R ≤ 4000) = false := by simp; omega
      (refine wp_region_ext (by kernel_rfl) (by kernel_rfl) ?_; (repeat (any_goals (first | go_big_quiet_step (first | fail) | (refine wpQuiet_step (fun K hK => ?_); go_simp; split <;> (refine hK _ ?_; clear hK K))))); all_goals (refine wpQuiet_nil ?_; intro w14 hb14; obtain ⟨x14, rfl⟩ := ext_of_grow hb14; clear hb14))
      go_wp2_with fail
      go_meet
      case rel => exact ⟨rfl, (by (repeat (first | (with_reducible exact Grow.refl _) | assumption | refine Grow.ext ?_ _ | refine Grow.alloc ?_ _ | refine Grow.drew ?_ | refine Grow.setCell ?_ (by first | (simp; done) | (simp; omega)) _ | refine Grow.trans ?_ (by assumption))))⟩
  obtain ⟨rfl, hcut⟩ := hcut
  obtain ⟨xd, rfl⟩ := ext_of_grow hcut
  clear hcut
  by_cases hneg : at' < 0
  · have hneg1 : decide (at' < 0) = true := by simpa using hneg
    go_wp2_with (first | (go_at_call 16; ((with_reducible refine (law10_alive _).mono ?_); rintro e w9 ⟨rfl, hb9⟩; obtain ⟨x9, rfl⟩ := ext_of_grow hb9; clear hb9)))
    go_ret
    exact Ret.bool rfl (by (repeat (first | (with_reducible exact Grow.refl _) | assumption | refine Grow.ext ?_ _ | refine Grow.alloc ?_ _ | refine Grow.drew ?_ | refine Grow.setCell ?_ (by first | (simp; done) | (simp; omega)) _ | refine Grow.trans ?_ (by assumption))))
  obtain ⟨k, rfl⟩ := Int.eq_ofNat_of_zero_le (by omega : 0 ≤ at')
  have hk0 : decide ((k : Int) < 0) = false := by simp
  by_cases hk : k < N
  · have Hk := Lib.hid (Hcut.out k hk)
    have hk1 : decide (N < k) = false := by simp; omega
    have hst := hs6.take (Nat.le_of_lt hk)
    go_wp2_with (first | (go_at_call 18; ((with_reducible refine (decode_Program _ (B.take k) _ (hst.mono (by (repeat (first | (with_reducible exact Grow.refl _) | assumption | refine Grow.ext ?_ _ | refine Grow.alloc ?_ _ | refine Grow.drew ?_ | refine Grow.setCell ?_ (by first | (simp; done) | (simp; omega)) _ | refine Grow.trans ?_ (by assumption)))))).mono ?_); rintro e w15 ⟨_, rfl, ⟨v15, rfl, ho15⟩, hg15⟩; rw [Hk.out] at ho15 ⊢; obtain ⟨a15, n15, c15, rfl, Hn15, hn15, ho15⟩ := ho15.open; obtain ⟨x15, rfl⟩ := ext_of_grow hg15; clear hg15)) | (go_at_call 16; ((with_reducible refine (law10_alive _).mono ?_); rintro e w9 ⟨rfl, hb9⟩; obtain ⟨x9, rfl⟩ := ext_of_grow hb9; clear hb9)))
    go_ret
    exact Ret.bool rfl (by (repeat (first | (with_reducible exact Grow.refl _) | assumption | refine Grow.ext ?_ _ | refine Grow.alloc ?_ _ | refine Grow.drew ?_ | refine Grow.setCell ?_ (by first | (simp; done) | (simp; omega)) _ | refine Grow.trans ?_ (by assumption))))
  · go_wp2_with (first | (go_at_call 16; ((with_reducible refine (law10_alive _).mono ?_); rintro e w9 ⟨rfl, hb9⟩; obtain ⟨x9, rfl⟩ := ext_of_grow hb9; clear hb9)))
    go_ret
    exact Ret.bool rfl (by (repeat (first | (with_reducible exact Grow.refl _) | assumption | refine Grow.ext ?_ _ | refine Grow.alloc ?_ _ | refine Grow.drew ?_ | refine Grow.setCell ?_ (by first | (simp; done) | (simp; omega)) _ | refine Grow.trans ?_ (by assumption))))
end Go.Proofs.YtafcdabiplcjiaaGreat