/- Layer 10: the law that a program is read just if its functions are, one behind the other, and it is valid. -/
import Derived.Test.YtafcdabiplcjiaaL10s
import Derived.Test.YtafcdabiplcjiaaL10v
import Derived.Test.YtafcdabiplcjiaaL08u
import Derived.Test.YtafcdabiplcjiaaL08d
namespace Go.Proofs.Ytafcdabiplcjiaa
open Go.RowKit
set_option linter.unusedSimpArgs false
set_option linter.unusedVariables false

theorem Sl.cut0 {α : Type} [Rp α] {F : Nat → Prop} {w : World} (a : Addr) (c : Nat) (hc : c ≤ 9223372036854775807) : Sl F w (.slice (some a) 0 c) ([] : List α) :=
  ⟨_, c, rfl, Nat.zero_le _, hc, (fun h => by cases h), fun i hi => by simp at hi⟩
theorem okFns_of {F : Nat → Prop} {w : World} {v : Value} {q : List Fn} (h : Sl F w v q) (he : ∀ f ∈ q, fnErr f = 0) : ∀ f ∈ q, okFn f := fun f hf => by
  obtain ⟨cs, hR⟩ := h.each f hf
  exact okFn_of hR (he f hf)
theorem decFn_wf {b : List Nat} (hb : ∀ x ∈ b, x < 256) : (decFn b).1.wf := by
  unfold decFn
  (repeat' split) <;> first | exact rdFn_wf hb | exact ⟨by unfold I64; dsimp only; omega⟩
set_option maxRecDepth 100000 in
set_option maxHeartbeats 16000000 in
theorem law_DecodeFuncs (v : Value) (b : List Nat) (w : World) {F : Nat → Prop} (hs : Sl F w v b) : Calls Try.prog 9 #[v] w (Ret w (.bool true)) := by
  have Hb := Lib.hid hs.bytes
  obtain ⟨a, n, cap, rfl, Hn, hm, hcap, hcm, hs⟩ := hs.open
  by_cases hbig : 1500 < n
  · go_enter Try.func9, Try.ntmps9
    go_wp2_with (first | (go_at_call 30; ((with_reducible refine (law10_alive _).mono ?_); rintro e w9 ⟨rfl, hb9⟩; obtain ⟨x9, rfl⟩ := ext_of_grow hb9; clear hb9)))
    go_ret
    exact Ret.bool rfl (by (repeat (first | (with_reducible exact Grow.refl _) | assumption | refine Grow.ext ?_ _ | refine Grow.alloc ?_ _ | refine Grow.drew ?_ | refine Grow.setCell ?_ (by first | (simp; done) | (simp; omega)) _ | refine Grow.trans ?_ (by assumption))))
  by_cases hn0 : n = 0
  · subst hn0
    go_enter Try.func9, Try.ntmps9
    go_wp2_with (first | (go_at_call 30; ((with_reducible refine (law10_alive _).mono ?_); rintro e w9 ⟨rfl, hb9⟩; obtain ⟨x9, rfl⟩ := ext_of_grow hb9; clear hb9)))
    all_goals (go_ret; exact Ret.bool rfl (by (repeat (first | (with_reducible exact Grow.refl _) | assumption | refine Grow.ext ?_ _ | refine Grow.alloc ?_ _ | refine Grow.drew ?_ | refine Grow.setCell ?_ (by first | (simp; done) | (simp; omega)) _ | refine Grow.trans ?_ (by assumption)))))
  obtain ⟨bb, off, b0, rfl, Hb0, hlb, hb8, hc0⟩ := hs.byte 0 (by omega)
  rw [Nat.add_zero] at hc0
  have hn1 : (n == 0) = false := by simpa using hn0
  have hn2 : ((n : Int) == 0) = false := by simp; omega
  obtain ⟨⟨p, ep⟩, Hp⟩ : ∃ q, Hid (decPr b = q) := ⟨_, Lib.hid rfl⟩
  have He0 : Hid (b = b0 :: b.drop 1) := Lib.hid (by have := drop_cons Hb0; rw [List.drop_zero] at this; exact this)
  have hlen : b.length ≤ 1500 := by rw [← Hn.out]; omega
  by_cases h19 : b0 < 1 ∨ 8 < b0
  · have hep : ep ≠ 0 := by have := decFuncs_none Hb.out He0.out h19; rw [Hp.out] at this; exact this
    have hep1 : (ep != 0) = true := by simp [hep]
    have hep2 : (ep == 0) = false := by simp [hep]
    clear He0 hlen hep
    rcases h19 with h19 | h19
    all_goals
      go_enter Try.func9, Try.ntmps9
      go_wp2_with (first
        | (go_at_call 29; ((with_reducible refine (decode_Program _ b _ (hs.mono (by (repeat (first | (with_reducible exact Grow.refl _) | assumption | refine Grow.ext ?_ _ | refine Grow.alloc ?_ _ | refine Grow.drew ?_ | refine Grow.setCell ?_ (by first | (simp; done) | (simp; omega)) _ | refine Grow.trans ?_ (by assumption)))))).mono ?_); rintro e w1 ⟨_, rfl, ⟨v1, rfl, ho1⟩, hg1⟩; rw [Hp.out] at ho1 ⊢; obtain ⟨a1, n1, c1, rfl, Hn1, hn1', ho1⟩ := ho1.open; obtain ⟨x1, rfl⟩ := ext_of_grow hg1; clear hg1))
        | (go_at_call 30; ((with_reducible refine (law10_alive _).mono ?_); rintro e w9 ⟨rfl, hb9⟩; obtain ⟨x9, rfl⟩ := ext_of_grow hb9; clear hb9)))
      go_ret
      exact Ret.bool rfl (by (repeat (first | (with_reducible exact Grow.refl _) | assumption | refine Grow.ext ?_ _ | refine Grow.alloc ?_ _ | refine Grow.drew ?_ | refine Grow.setCell ?_ (by first | (simp; done) | (simp; omega)) _ | refine Grow.trans ?_ (by assumption))))
  have hb1 : 1 ≤ b0 := by omega
  have hb2 : b0 ≤ 8 := by omega
  have hl1 : ((b0 : Int) < 1) = False := by simp; omega
  have Hbad : Hid (ep ≠ 0 → p = ⟨[]⟩) := Lib.hid (fun e => by
    have h := Hp.out
    unfold decPr at h
    (repeat' split at h) <;> (simp only [Prod.mk.injEq] at h; obtain ⟨h1, h2⟩ := h; first | exact h1.symm | exact absurd h2.symm e))
  have hl1 : cap = 1 → Sl F w (.slice (some ⟨bb, off, none⟩) (n - 1) (cap - 1)) (b.drop 1) := fun hc => by
    have e : b.drop 1 = [] := List.drop_eq_nil_of_le (by rw [← Hn.out]; omega)
    rw [e, show n - 1 = 0 by omega]
    exact Sl.cut0 _ _ (by omega)
  have hl2 : Sl F w (.slice (some ⟨bb, off + 1, none⟩) (n - 1) (cap - 1)) (b.drop 1) := by
    have := hs.sub 1 (n - 1) (by omega)
    rw [List.take_of_length_le (by rw [List.length_drop, ← Hn.out]; omega)] at this
    exact this
  go_enter Try.func9, Try.ntmps9
  go_wp2_with (first
    | (go_at_call 29; ((with_reducible refine (decode_Program _ b _ (hs.mono (by (repeat (first | (with_reducible exact Grow.refl _) | assumption | refine Grow.ext ?_ _ | refine Grow.alloc ?_ _ | refine Grow.drew ?_ | refine Grow.setCell ?_ (by first | (simp; done) | (simp; omega)) _ | refine Grow.trans ?_ (by assumption)))))).mono ?_); rintro e w1 ⟨_, rfl, ⟨v1, rfl, ho1⟩, hg1⟩; rw [Hp.out] at ho1 ⊢; obtain ⟨a1, n1, c1, rfl, Hn1, hn1', ho1⟩ := ho1.open; obtain ⟨x1, rfl⟩ := ext_of_grow hg1; clear hg1)))
  all_goals
    go_loopw [6, 7] (fun lv iv wr => ∃ (k : Nat) (q : List Fn) (l : List Nat) (qv : Value) (la : Option Addr) (ln lc : Nat) (x : Ext), iv = .int .i64 k ∧ k ≤ b0 ∧ lv = .slice la ln lc ∧ wr = ext (((ext w x1).alloc (.cells #[.slice a1 n1 c1] 35)).alloc (.cells #[qv] 35)) x ∧ Own (fun _ => False) (w.heap.size + x1.k + 1 + 1) 25 wr qv q ∧ Sl F w (.slice la ln lc) l ∧ Hid (b = b0 :: (q.flatMap encFn ++ l)) ∧ Hid (q.length = k) ∧ Hid (∀ f ∈ q, fnErr f = 0)) (fun _ iv _ => b0 - (intOf iv).toNat)
    case atStart => exact ⟨0, [], b.drop 1, .slice none 0 0, _, _, _, _, rfl, Nat.zero_le _, rfl, (ext_self _).symm, Own.nil _ _ _ _, (by first | exact hl2 | (have hc : cap = 1 := (by assumption); have z := hl1 hc; rw [hc] at z; exact z)), Lib.hid (by simpa using He0.out), rfl, Lib.hid (by simp)⟩
    case round =>
      obtain ⟨k, q, l, qv, la, ln, lc, x, rfl, hk, rfl, rfl, hown, hls, He, Hl, Hq⟩ := hrel
      obtain ⟨a2, m2, c2, rfl, Hm2, hm2, hown⟩ := hown.open
      have Hln := Lib.hid hls.len
      have Hlb := Lib.hid hls.bytes
      have Hoq := Lib.hid (okFns_of hown.sl Hq.out)
      by_cases hlt : k < b0
      · obtain ⟨⟨⟨fp, fu, fl, fb⟩, m, ef⟩, Hf⟩ : ∃ q, Hid (decFn l = q) := ⟨_, Lib.hid rfl⟩
        have hwy : (⟨fp, fu, fl, fb⟩ : Fn).wf := by have := decFn_wf Hlb.out; rw [Hf.out] at this; exact this
        by_cases hef : ef = 0
        · subst hef
          have hsp := decFn_split Hlb.out (by rw [Hf.out])
          rw [Hf.out] at hsp
          dsimp only at hsp
          rw [← Hln.out] at hsp
          obtain ⟨hs1, hm1, hmn, hfe⟩ := hsp
          have Hn2 : Hid (b = b0 :: ((q ++ [(⟨fp, fu, fl, fb⟩ : Fn)]).flatMap encFn ++ l.drop m)) := Lib.hid (by rw [List.flatMap_append, List.flatMap_cons, List.flatMap_nil, List.append_nil, List.append_assoc, ← hs1]; exact He.out)
          have Hq2 : Hid (∀ f ∈ q ++ [(⟨fp, fu, fl, fb⟩ : Fn)], fnErr f = 0) := Lib.hid (fun f hf => by rcases List.mem_append.1 hf with h | h; exact Hq.out f h; simp at h; rw [h]; exact hfe)
          obtain ⟨lb, lo, _, rfl, _, _, _, _⟩ := hls.byte 0 (by omega)
          have hlc : ln ≤ lc ∧ lc ≤ 9223372036854775807 := by obtain ⟨_, _, hv, z1, z2, _, _⟩ := id hls; injection hv with e1 e2 e3; omega
          have hx1 : lc = m → Sl F w (.slice (some ⟨lb, lo, none⟩) (ln - m) (lc - m)) (l.drop m) := fun hc => by
            have e : l.drop m = [] := List.drop_eq_nil_of_le (by rw [← Hln.out]; omega)
            rw [e, show ln - m = 0 by omega]
            exact Sl.cut0 _ _ (by omega)
          have hx2 : Sl F w (.slice (some ⟨lb, lo + m, none⟩) (ln - m) (lc - m)) (l.drop m) := by
            have := hls.sub m (ln - m) (by omega)
            rw [List.take_of_length_le (by rw [List.length_drop, ← Hln.out]; omega), sz_nat, Nat.mul_one] at this
            exact this
          have hql : q.length < 1000 := by rw [Hl.out]; omega
          have hm3 : decide ((m : Int) < 1) = false := by simp; omega
          have hm4 : decide ((ln : Int) < m) = false := by simp; omega
          clear hs1 hfe He Hq
          by_cases hcm2 : lc = m
          · subst hcm2
            have hx3 : Sl F w (.slice (some ⟨lb, lo, none⟩) 0 0) (l.drop lc) := by have z := hx1 rfl; rw [Nat.sub_self, show ln - lc = 0 by omega] at z; exact z
            clear hx1 hx2
            go_wp2_with (first
              | (go_at_call 28; ((with_reducible refine (decode_Func _ l _ (hls.mono (by (repeat (first | (with_reducible exact Grow.refl _) | assumption | refine Grow.ext ?_ _ | refine Grow.alloc ?_ _ | refine Grow.drew ?_ | refine Grow.setCell ?_ (by first | (simp; done) | (simp; omega)) _ | refine Grow.trans ?_ (by assumption)))))).mono ?_); rintro e w5 ⟨_, rfl, ⟨v1, v2, rfl, h1, h2⟩, hg5⟩; rw [Hf.out] at h1 h2 ⊢; obtain ⟨va, vn, vc, rfl, _, _, _, _, h1⟩ := h1.open; obtain ⟨ja, jn, jc, rfl, _, _, _, _, h2⟩ := h2.open; obtain ⟨x5, rfl⟩ := ext_of_grow hg5; clear hg5; (try dsimp only at h1 h2)))
              | (at_builtin; go_must (refine wpList_app1 (α := Fn) slTv_Fn rfl rfl rfl hown (by (repeat (first | (with_reducible exact Grow.refl _) | assumption | refine Grow.ext ?_ _ | refine Grow.alloc ?_ _ | refine Grow.drew ?_ | refine Grow.setCell ?_ (by first | (simp; done) | (simp; omega)) _ | refine Grow.trans ?_ (by assumption)))) (by simp only [alloc_size, size_ext]; omega) (by simp only [alloc_size, size_ext]; omega) rfl (y := ⟨fp, fu, fl, fb⟩) (Gy := (fun k => w.heap.size + x1.k + 1 + 1 + x.k ≤ k ∧ k < w.heap.size + x1.k + 1 + 1 + x.k + x5.k)) ⟨va, vn, vc, ja, jn, jc, rfl, hwy, (h1.wide (fun k hk hF => ⟨by simp only [alloc_size, size_ext] at hF; omega, by simp only [alloc_size, size_ext] at hk; omega⟩)).mono (by (repeat (first | (with_reducible exact Grow.refl _) | assumption | refine Grow.ext ?_ _ | refine Grow.alloc ?_ _ | refine Grow.drew ?_ | refine Grow.setCell ?_ (by first | (simp; done) | (simp; omega)) _ | refine Grow.trans ?_ (by assumption)))), (h2.wide (fun k hk hF => ⟨by simp only [alloc_size, size_ext] at hF; omega, by simp only [alloc_size, size_ext] at hk; omega⟩)).mono (by (repeat (first | (with_reducible exact Grow.refl _) | assumption | refine Grow.ext ?_ _ | refine Grow.alloc ?_ _ | refine Grow.drew ?_ | refine Grow.setCell ?_ (by first | (simp; done) | (simp; omega)) _ | refine Grow.trans ?_ (by assumption))))⟩ (fun k hk => ⟨by simp only [alloc_size, size_ext]; omega, Or.inr (by omega), fun e => by have := hown.row_lt k e; simp only [alloc_size, size_ext] at this; omega⟩) (by (repeat (refine CellsAt.cons (by go_simp) ?_)); exact CellsAt.nil _ _ _) (by simp [Value.oneCell']) (by omega) (by omega) ?_); intro tv' x' hown' hsz' hagr; obtain ⟨ta, tn, tc, rfl, Htn, htn, hown'⟩ := hown'.open))
            go_roundw
            case rel => exact ⟨k + 1, q ++ [(⟨fp, fu, fl, fb⟩ : Fn)], l.drop lc, .slice ta tn tc, _, _, _, x', by go_num, by omega, rfl, rfl, hown'.turn (by simp only [alloc_size, size_ext]; omega), hx3, Hn2, Lib.hid (by rw [List.length_append, Hl.out]; rfl), Hq2⟩
            case measure => simp [intOf]; omega
          · clear hx1
            go_wp2_with (first
              | (go_at_call 28; ((with_reducible refine (decode_Func _ l _ (hls.mono (by (repeat (first | (with_reducible exact Grow.refl _) | assumption | refine Grow.ext ?_ _ | refine Grow.alloc ?_ _ | refine Grow.drew ?_ | refine Grow.setCell ?_ (by first | (simp; done) | (simp; omega)) _ | refine Grow.trans ?_ (by assumption)))))).mono ?_); rintro e w5 ⟨_, rfl, ⟨v1, v2, rfl, h1, h2⟩, hg5⟩; rw [Hf.out] at h1 h2 ⊢; obtain ⟨va, vn, vc, rfl, _, _, _, _, h1⟩ := h1.open; obtain ⟨ja, jn, jc, rfl, _, _, _, _, h2⟩ := h2.open; obtain ⟨x5, rfl⟩ := ext_of_grow hg5; clear hg5; (try dsimp only at h1 h2)))
              | (at_builtin; go_must (refine wpList_app1 (α := Fn) slTv_Fn rfl rfl rfl hown (by (repeat (first | (with_reducible exact Grow.refl _) | assumption | refine Grow.ext ?_ _ | refine Grow.alloc ?_ _ | refine Grow.drew ?_ | refine Grow.setCell ?_ (by first | (simp; done) | (simp; omega)) _ | refine Grow.trans ?_ (by assumption)))) (by simp only [alloc_size, size_ext]; omega) (by simp only [alloc_size, size_ext]; omega) rfl (y := ⟨fp, fu, fl, fb⟩) (Gy := (fun k => w.heap.size + x1.k + 1 + 1 + x.k ≤ k ∧ k < w.heap.size + x1.k + 1 + 1 + x.k + x5.k)) ⟨va, vn, vc, ja, jn, jc, rfl, hwy, (h1.wide (fun k hk hF => ⟨by simp only [alloc_size, size_ext] at hF; omega, by simp only [alloc_size, size_ext] at hk; omega⟩)).mono (by (repeat (first | (with_reducible exact Grow.refl _) | assumption | refine Grow.ext ?_ _ | refine Grow.alloc ?_ _ | refine Grow.drew ?_ | refine Grow.setCell ?_ (by first | (simp; done) | (simp; omega)) _ | refine Grow.trans ?_ (by assumption)))), (h2.wide (fun k hk hF => ⟨by simp only [alloc_size, size_ext] at hF; omega, by simp only [alloc_size, size_ext] at hk; omega⟩)).mono (by (repeat (first | (with_reducible exact Grow.refl _) | assumption | refine Grow.ext ?_ _ | refine Grow.alloc ?_ _ | refine Grow.drew ?_ | refine Grow.setCell ?_ (by first | (simp; done) | (simp; omega)) _ | refine Grow.trans ?_ (by assumption))))⟩ (fun k hk => ⟨by simp only [alloc_size, size_ext]; omega, Or.inr (by omega), fun e => by have := hown.row_lt k e; simp only [alloc_size, size_ext] at this; omega⟩) (by (repeat (refine CellsAt.cons (by go_simp) ?_)); exact CellsAt.nil _ _ _) (by simp [Value.oneCell']) (by omega) (by omega) ?_); intro tv' x' hown' hsz' hagr; obtain ⟨ta, tn, tc, rfl, Htn, htn, hown'⟩ := hown'.open))
            go_roundw
            case rel => exact ⟨k + 1, q ++ [(⟨fp, fu, fl, fb⟩ : Fn)], l.drop m, .slice ta tn tc, _, _, _, x', by go_num, by omega, rfl, rfl, hown'.turn (by simp only [alloc_size, size_ext]; omega), hx2, Hn2, Lib.hid (by rw [List.length_append, Hl.out]; rfl), Hq2⟩
            case measure => simp [intOf]; omega
        · have hep : ep ≠ 0 := fun h0 => hef (by
            have hb0 := decPr_back Hb.out (by rw [Hp.out]; exact h0)
            rw [Hp.out] at hb0
            have := decFuncs_next (q := q) (l := l) Hb.out (by rw [Hp.out]; exact h0) (by rw [Hp.out]; exact okPr_of ho1.sl hb0.2) Hoq.out He.out (by rw [Hl.out]; exact hlt) (by omega)
            rw [Hf.out] at this; exact this)
          have hep1 : (ep != 0) = true := by simp [hep]
          have hep2 : (ep == 0) = false := by simp [hep]
          have hef1 : (ef != 0) = true := by simp [hef]
          have hef2 : (ef == 0) = false := by simp [hef]
          clear hef hep
          go_wp2_with (first
            | (go_at_call 28; ((with_reducible refine (decode_Func _ l _ (hls.mono (by (repeat (first | (with_reducible exact Grow.refl _) | assumption | refine Grow.ext ?_ _ | refine Grow.alloc ?_ _ | refine Grow.drew ?_ | refine Grow.setCell ?_ (by first | (simp; done) | (simp; omega)) _ | refine Grow.trans ?_ (by assumption)))))).mono ?_); rintro e w5 ⟨_, rfl, ⟨v1, v2, rfl, h1, h2⟩, hg5⟩; rw [Hf.out] at h1 h2 ⊢; obtain ⟨va, vn, vc, rfl, _, _, _, _, h1⟩ := h1.open; obtain ⟨ja, jn, jc, rfl, _, _, _, _, h2⟩ := h2.open; obtain ⟨x5, rfl⟩ := ext_of_grow hg5; clear hg5; (try dsimp only at h1 h2)))
            | (go_at_call 30; ((with_reducible refine (law10_alive _).mono ?_); rintro e w9 ⟨rfl, hb9⟩; obtain ⟨x9, rfl⟩ := ext_of_grow hb9; clear hb9)))
          go_ret
          exact Ret.bool rfl (by (repeat (first | (with_reducible exact Grow.refl _) | assumption | refine Grow.ext ?_ _ | refine Grow.alloc ?_ _ | refine Grow.drew ?_ | refine Grow.setCell ?_ (by first | (simp; done) | (simp; omega)) _ | refine Grow.trans ?_ (by assumption))))
      · obtain rfl : k = b0 := by omega
        have Hend := Lib.hid (decFuncs_end (b := b) (q := q) (l := l) (by rw [Hl.out]; omega) (fun f hf => ⟨Hoq.out f hf, Hq.out f hf⟩) (by rw [Hl.out]; exact He.out) (by omega))
        by_cases hl0 : 0 < ln
        · obtain rfl : ep = 38 := by
            have h := Hend.out.1 (by rintro rfl; have := Hln.out; simp at this; omega)
            rw [Hp.out] at h; injection h
          have hl5 : decide ((0 : Int) < ln) = true := by simp; omega
          clear Hend
          go_wp2_with (first | (go_at_call 30; ((with_reducible refine (law10_alive _).mono ?_); rintro e w9 ⟨rfl, hb9⟩; obtain ⟨x9, rfl⟩ := ext_of_grow hb9; clear hb9)))
          go_ret
          exact Ret.bool rfl (by (repeat (first | (with_reducible exact Grow.refl _) | assumption | refine Grow.ext ?_ _ | refine Grow.alloc ?_ _ | refine Grow.drew ?_ | refine Grow.setCell ?_ (by first | (simp; done) | (simp; omega)) _ | refine Grow.trans ?_ (by assumption))))
        · obtain rfl : ln = 0 := by omega
          have hz := Hend.out.2 (List.eq_nil_of_length_eq_zero Hln.out.symm)
          rw [Hp.out] at hz
          obtain ⟨pe, hpe⟩ : ∃ e, prErr ⟨q⟩ = e := ⟨_, rfl⟩
          have Hc : Hid (∀ w' {F : Nat → Prop} pv (hp : Sl F w' pv q), Calls Try.prog 14 #[.agg #[pv]] w' (Ret w' (.int .i64 pe))) := Lib.hid (fun w' F pv hp => by have := ref08_Check ⟨q⟩ pv w' hp; rw [hpe] at this; exact this)
          rw [hpe] at hz
          clear hpe Hend
          by_cases hp0 : pe = 0
          · subst hp0
            rw [if_neg (by simp)] at hz
            simp only [Prod.mk.injEq] at hz
            obtain ⟨rfl, rfl⟩ := hz
            have Hs1 : Hid (∀ w' {F F' : Nat → Prop} v1 v2 (h1 : Sl F w' v1 q) (h2 : Sl F' w' v2 q), Calls Try.prog 17 #[.agg #[v1], .agg #[v2]] w' (Ret w' (.bool true))) := Lib.hid (fun w' F F' v1 v2 h1 h2 => Same_yes ⟨q⟩ v1 v2 w' h1 h2)
            dsimp only at ho1
            go_wp2_with (first | (go_at_call 30; ((with_reducible refine (law10_alive _).mono ?_); rintro e w9 ⟨rfl, hb9⟩; obtain ⟨x9, rfl⟩ := ext_of_grow hb9; clear hb9)) | (go_at_call 14; ((with_reducible refine (Hc.out _ _ (hown.sl.mono (by (repeat (first | (with_reducible exact Grow.refl _) | assumption | refine Grow.ext ?_ _ | refine Grow.alloc ?_ _ | refine Grow.drew ?_ | refine Grow.setCell ?_ (by first | (simp; done) | (simp; omega)) _ | refine Grow.trans ?_ (by assumption)))))).mono ?_); rintro e w7 ⟨rfl, hb7⟩; obtain ⟨x7, rfl⟩ := ext_of_grow hb7; clear hb7)) | (go_at_call 17; ((with_reducible refine (Hs1.out _ _ _ (ho1.sl.mono (by (repeat (first | (with_reducible exact Grow.refl _) | assumption | refine Grow.ext ?_ _ | refine Grow.alloc ?_ _ | refine Grow.drew ?_ | refine Grow.setCell ?_ (by first | (simp; done) | (simp; omega)) _ | refine Grow.trans ?_ (by assumption))))) (hown.sl.mono (by (repeat (first | (with_reducible exact Grow.refl _) | assumption | refine Grow.ext ?_ _ | refine Grow.alloc ?_ _ | refine Grow.drew ?_ | refine Grow.setCell ?_ (by first | (simp; done) | (simp; omega)) _ | refine Grow.trans ?_ (by assumption)))))).mono ?_); rintro e w8 ⟨rfl, hb8⟩; obtain ⟨x8, rfl⟩ := ext_of_grow hb8; clear hb8)))
            go_ret
            exact Ret.bool rfl (by (repeat (first | (with_reducible exact Grow.refl _) | assumption | refine Grow.ext ?_ _ | refine Grow.alloc ?_ _ | refine Grow.drew ?_ | refine Grow.setCell ?_ (by first | (simp; done) | (simp; omega)) _ | refine Grow.trans ?_ (by assumption))))
          · rw [if_pos hp0] at hz
            simp only [Prod.mk.injEq] at hz
            obtain ⟨-, rfl⟩ := hz
            have hp1 : (ep != 0) = true := by simp [hp0]
            have hp2 : (ep == 0) = false := by simp [hp0]
            clear hp0
            go_wp2_with (first | (go_at_call 30; ((with_reducible refine (law10_alive _).mono ?_); rintro e w9 ⟨rfl, hb9⟩; obtain ⟨x9, rfl⟩ := ext_of_grow hb9; clear hb9)) | (go_at_call 14; ((with_reducible refine (Hc.out _ _ (hown.sl.mono (by (repeat (first | (with_reducible exact Grow.refl _) | assumption | refine Grow.ext ?_ _ | refine Grow.alloc ?_ _ | refine Grow.drew ?_ | refine Grow.setCell ?_ (by first | (simp; done) | (simp; omega)) _ | refine Grow.trans ?_ (by assumption)))))).mono ?_); rintro e w7 ⟨rfl, hb7⟩; obtain ⟨x7, rfl⟩ := ext_of_grow hb7; clear hb7)))
            go_ret
            exact Ret.bool (by first | rfl | (simp; done)) (by (repeat (first | (with_reducible exact Grow.refl _) | assumption | refine Grow.ext ?_ _ | refine Grow.alloc ?_ _ | refine Grow.drew ?_ | refine Grow.setCell ?_ (by first | (simp; done) | (simp; omega)) _ | refine Grow.trans ?_ (by assumption))))
end Go.Proofs.Ytafcdabiplcjiaa
