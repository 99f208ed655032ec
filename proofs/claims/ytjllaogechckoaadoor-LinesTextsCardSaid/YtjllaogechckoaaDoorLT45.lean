/- Layer 45: the law LinesTexts. -/
import Derived.Test.YtjllaogechckoaaDoorX45e
namespace Go.Proofs.YtjllaogechckoaaDoor
open Go.RowKit
set_option linter.unusedSimpArgs false
set_option linter.unusedVariables false

theorem sorts_len : ∀ (l : List Bs) (b : Bool) (p r : List Int), (sorts b p r l).1.length ≤ p.length + l.length ∧ (sorts b p r l).2.length ≤ r.length + l.length
  | [], b, p, r => by simp [sorts]
  | a :: l, b, p, r => by
    rw [sorts]
    split
    · have := sorts_len l true p r; simp; omega
    · split
      · have := sorts_len l b p (r ++ [refNum a]); simp at this ⊢; omega
      · have := sorts_len l b (p ++ [refNum a]) r; simp at this ⊢; omega
theorem guessP_len (s : Bs) : (guessP s).prints.length ≤ s.length + 2 ∧ (guessP s).result.length ≤ s.length + 2 := by
  have hl := parts_len s
  unfold guessP
  split
  · simp
  split
  · simp
  split
  · simp
  split
  · simp
  split
  · have := sorts_len ((parts s).drop 4) false [] []
    simp at this ⊢; omega
  · simp [ve0]
theorem sorts_i64 : ∀ (l : List Bs) (b : Bool) (p r : List Int), (∀ n ∈ p, I64 n) → (∀ n ∈ r, I64 n) → (∀ n ∈ (sorts b p r l).1, I64 n) ∧ (∀ n ∈ (sorts b p r l).2, I64 n)
  | [], b, p, r, hp, hr => ⟨hp, hr⟩
  | a :: l, b, p, r, hp, hr => by
    have happ : ∀ q : List Int, (∀ n ∈ q, I64 n) → ∀ n ∈ q ++ [refNum a], I64 n := fun q hq n hn => by
      rcases List.mem_append.1 hn with h | h
      · exact hq n h
      · rw [List.mem_singleton] at h; subst h; exact refNum_i64 a
    rw [sorts]
    split
    · exact sorts_i64 l true p r hp hr
    · split
      · exact sorts_i64 l b p _ hp (happ r hr)
      · exact sorts_i64 l b _ r (happ p hp) hr
theorem guessP_ok (s : Bs) : (guessP s).ok := by
  unfold guessP
  split
  · exact vft_ok 4 2 (by unfold U8; omega) I64.of2
  split
  · exact vft_ok 1 _ (by unfold U8; omega) (refNum_i64 _)
  split
  · exact vft_ok 2 _ (by unfold U8; omega) (refNum_i64 _)
  split
  · exact vbo_ok _ _ _ _ _ _ (refNum_i64 _) (refNum_i64 _) (refNum_i64 _) (plD_wf _)
  split
  · obtain ⟨h1, h2⟩ := sorts_i64 ((parts s).drop 4) false [] [] (fun n h => by cases h) (fun n h => by cases h)
    exact ⟨by unfold U8; dsimp only; omega, by unfold I64; dsimp only; omega, by unfold I64; dsimp only; omega, by unfold I64; dsimp only; omega, by unfold I64; dsimp only; omega, ⟨by unfold I64; dsimp only; omega, by unfold U8; dsimp only; omega⟩, ofW_u8 _, refNum_i64 _, h1, h2⟩
  · exact ve0_ok
theorem mapM_i64 : ∀ (l : List Bs) (ns : List Int), l.mapM numP = some ns → ∀ n ∈ ns, I64 n
  | [], ns, h => by simp at h; subst h; intro n hn; cases hn
  | a :: l, ns, h => by
    rw [List.mapM_cons] at h
    cases ha : numP a with
    | none => rw [ha] at h; simp at h
    | some m =>
      rw [ha] at h
      cases hl : l.mapM numP with
      | none => rw [hl] at h; simp at h
      | some ms =>
        rw [hl] at h
        simp at h
        subst h
        intro n hn
        rcases List.mem_cons.1 hn with rfl | hn
        · exact (numP_some ha).2
        · exact mapM_i64 l ms hl n hn
theorem numsP_i64 {s : Bs} {l : List Int} (h : numsP s = some l) : ∀ n ∈ l, I64 n := by
  unfold numsP at h
  split at h
  · injection h with h; subst h; intro n hn; cases hn
  · split at h
    · exact mapM_i64 _ _ h
    · cases h
theorem wf_nil {x : Ve} (h1 : I64 x.at_) (h2 : I64 x.loan) (h3 : x.prints = []) (h4 : x.result = []) : x.wf := ⟨h1, h2, (by rw [h3]; intro n h; cases h), (by rw [h4]; intro n h; cases h)⟩
theorem I64.of0 : I64 0 := by unfold I64; omega
theorem borrowP_wf {l : List Bs} {x : Ve} (h : borrowP l = some x) : x.wf := by
  unfold borrowP at h
  split at h
  · split at h
    · split at h
      · rename_i h0 h1 h2 h3
        split at h
        · injection h with h; subst h; exact wf_nil (numP_some h1).2 (numP_some h2).2 rfl rfl
        · cases h
      · cases h
    · cases h
  · cases h
theorem ranP_wf {s : Bs} {x : Ve} (h : ranP s = some x) : x.wf := by
  unfold ranP at h
  split at h
  · split at h
    · split at h
      · split at h
        · rename_i ha hb
          injection h with h; subst h
          exact ⟨I64.of0, I64.of0, numsP_i64 ha, numsP_i64 hb⟩
        · cases h
      · cases h
    · cases h
  · cases h
theorem readP_wf {s : Bs} {x : Ve} (h : readP s = some x) : x.wf := by
  rcases hc : Lib.cut s [32] with ⟨wd, rs, f⟩
  rw [readP_of hc] at h
  split at h
  · injection h with h; subst h; exact wf_nil I64.of0 I64.of0 rfl rfl
  · split at h
    · cases hn : numP rs with
      | none => rw [hn] at h; cases h
      | some n => rw [hn] at h; injection h with h; subst h; exact wf_nil I64.of0 I64.of0 rfl rfl
    · split at h
      · exact borrowP_wf h
      · split at h
        · exact ranP_wf h
        · cases h
/-- What the reference reads is what the code reads. -/
theorem rd_guess (s : Bs) : (veOk (guessP s) = true ∧ written (guessP s) = s ∧ rdV s = guessP s ∧ rdE s = 0) ∨ ((veOk (guessP s) = true → written (guessP s) ≠ s) ∧ rdV s = ve0 ∧ rdE s = 12) := by
  by_cases h : veOk (guessP s) = true ∧ written (guessP s) = s
  · obtain ⟨h1, h2⟩ := h
    have h3 := rd_written h1 (guessP_ok s)
    rw [h2] at h3
    exact Or.inl ⟨h1, h2, h3⟩
  · refine Or.inr ⟨fun h1 h2 => h ⟨h1, h2⟩, ?_⟩
    unfold rdV rdE
    cases hr : readP s with
    | none => exact ⟨rfl, rfl⟩
    | some x =>
      cases hx : veOk x
      · simp [hx]
      · exfalso
        have hw := written_readP hr
        have hxw : x.wf := readP_wf hr
        have := guessP_written hx hxw
        rw [hw] at this
        exact h ⟨by rw [this]; exact hx, by rw [this]; exact hw⟩
set_option maxRecDepth 100000 in
set_option maxHeartbeats 4000000 in
theorem ref45_Read (s : Bs) (hs : s.length ≤ 900000) (w : World) : Calls Tryd.prog 16 #[.string (str s)] w (RetP w fun v w' => ∃ pa pn pc ra rn rc, v = .tuple #[(rdV s).v (.slice pa pn pc) (.slice ra rn rc), .int .i64 (rdE s)] ∧ (rdV s).ok ∧ Sl (Frs w) w' (.slice pa pn pc) (rdV s).prints ∧ Sl (Frs w) w' (.slice ra rn rc) (rdV s).result) := by
  have HG := Lib.hid (ref45_guess s hs)
  have hgl := guessP_len s
  have hgo := guessP_ok s
  have hrd := rd_guess s
  obtain ⟨g, Hg⟩ : ∃ x, Hid (guessP s = x) := ⟨_, Lib.hid rfl⟩
  rw [Hg.out] at HG hgl hgo hrd
  clear Hg
  have HC := Lib.hid (fun p r w' F F' (hp : Sl F w' p g.prints) (hr : Sl F' w' r g.result) => ref42_Check g p r w' hgo hp hr (by omega) (by omega))
  have e0 : opOk true = 0 := rfl
  have e8 : opOk false = 8 := rfl
  rcases hrd with ⟨h1, h2, h3, h4⟩ | ⟨h1, h3, h4⟩
  · rw [h3, h4]
    have HW := Lib.hid (fun p r w' F F' (hp : Sl F w' p g.prints) (hr : Sl F' w' r g.result) => by have h := ref45_Written g p r w' hgo hp hr h1; rw [h2] at h; exact h)
    rw [h1, e0] at HC
    replace hgo := Lib.hid hgo
    clear h1 h2 h3 h4 hgl e0 e8
    go_enter Tryd.func16, Tryd.ntmps16
    go_wp2_with (first
      | (go_at_call 31; ((with_reducible refine (HG.out _).mono ?_); rintro e w4 ⟨_, rfl, ⟨pa, pn, pc, ra, rn, rc, rfl, hxok, hxp, hxr⟩, hb4⟩; clear hxok; obtain ⟨x4, rfl⟩ := ext_of_grow hb4; clear hb4))
      | (go_at_call 22; ((with_reducible refine (HC.out _ _ _ _ _ (hxp.mono (by (repeat (first | (with_reducible exact Grow.refl _) | assumption | refine Grow.ext ?_ _ | refine Grow.alloc ?_ _ | refine Grow.drew ?_ | refine Grow.setCell ?_ (by first | (simp; done) | (simp; omega)) _ | refine Grow.trans ?_ (by assumption))))) (hxr.mono (by (repeat (first | (with_reducible exact Grow.refl _) | assumption | refine Grow.ext ?_ _ | refine Grow.alloc ?_ _ | refine Grow.drew ?_ | refine Grow.setCell ?_ (by first | (simp; done) | (simp; omega)) _ | refine Grow.trans ?_ (by assumption)))))).mono ?_); rintro e w5 ⟨rfl, hb5⟩; obtain ⟨x5, rfl⟩ := ext_of_grow hb5; clear hb5))
      | (go_at_call 29; ((with_reducible refine (HW.out _ _ _ _ _ (hxp.mono (by (repeat (first | (with_reducible exact Grow.refl _) | assumption | refine Grow.ext ?_ _ | refine Grow.alloc ?_ _ | refine Grow.drew ?_ | refine Grow.setCell ?_ (by first | (simp; done) | (simp; omega)) _ | refine Grow.trans ?_ (by assumption))))) (hxr.mono (by (repeat (first | (with_reducible exact Grow.refl _) | assumption | refine Grow.ext ?_ _ | refine Grow.alloc ?_ _ | refine Grow.drew ?_ | refine Grow.setCell ?_ (by first | (simp; done) | (simp; omega)) _ | refine Grow.trans ?_ (by assumption)))))).mono ?_); rintro e w6 ⟨rfl, hb6⟩; obtain ⟨x6, rfl⟩ := ext_of_grow hb6; clear hb6)))
    refine postP_of (v := .tuple #[g.v (.slice pa pn pc) (.slice ra rn rc), .int .i64 0]) (by simp only [results, Tryd.results16]; go_simp) rfl (by (repeat (first | (with_reducible exact Grow.refl _) | assumption | refine Grow.ext ?_ _ | refine Grow.alloc ?_ _ | refine Grow.drew ?_ | refine Grow.setCell ?_ (by first | (simp; done) | (simp; omega)) _ | refine Grow.trans ?_ (by assumption)))) ⟨pa, pn, pc, ra, rn, rc, rfl, hgo.out, (hxp.boxed1 (by simp)).mono (grow_ext _ _), (hxr.boxed1 (by simp)).mono (grow_ext _ _)⟩
  · rw [h3, h4]
    cases hk : veOk g
    · rw [hk, e8] at HC
      clear h1 h3 h4 hgl hgo hk e0 e8
      go_enter Tryd.func16, Tryd.ntmps16
      go_wp2_with (first
        | (go_at_call 31; ((with_reducible refine (HG.out _).mono ?_); rintro e w4 ⟨_, rfl, ⟨pa, pn, pc, ra, rn, rc, rfl, hxok, hxp, hxr⟩, hb4⟩; clear hxok; obtain ⟨x4, rfl⟩ := ext_of_grow hb4; clear hb4))
        | (go_at_call 22; ((with_reducible refine (HC.out _ _ _ _ _ (hxp.mono (by (repeat (first | (with_reducible exact Grow.refl _) | assumption | refine Grow.ext ?_ _ | refine Grow.alloc ?_ _ | refine Grow.drew ?_ | refine Grow.setCell ?_ (by first | (simp; done) | (simp; omega)) _ | refine Grow.trans ?_ (by assumption))))) (hxr.mono (by (repeat (first | (with_reducible exact Grow.refl _) | assumption | refine Grow.ext ?_ _ | refine Grow.alloc ?_ _ | refine Grow.drew ?_ | refine Grow.setCell ?_ (by first | (simp; done) | (simp; omega)) _ | refine Grow.trans ?_ (by assumption)))))).mono ?_); rintro e w5 ⟨rfl, hb5⟩; obtain ⟨x5, rfl⟩ := ext_of_grow hb5; clear hb5)))
      refine postP_of (v := .tuple #[(vft 0 0).v (.slice none 0 0) (.slice none 0 0), .int .i64 12]) (by simp only [results, Tryd.results16]; go_simp) rfl (by (repeat (first | (with_reducible exact Grow.refl _) | assumption | refine Grow.ext ?_ _ | refine Grow.alloc ?_ _ | refine Grow.drew ?_ | refine Grow.setCell ?_ (by first | (simp; done) | (simp; omega)) _ | refine Grow.trans ?_ (by assumption)))) ⟨none, 0, 0, none, 0, 0, rfl, ve0_ok, Sl.nil _ _, Sl.nil _ _⟩
    · have hne : (written g == s) = false := beq_eq_false_iff_ne.2 (h1 hk)
      have HW := Lib.hid (fun p r w' F F' (hp : Sl F w' p g.prints) (hr : Sl F' w' r g.result) => ref45_Written g p r w' hgo hp hr hk)
      rw [hk, e0] at HC
      obtain ⟨t, Ht⟩ : ∃ x, Hid (written g = x) := ⟨_, Lib.hid rfl⟩
      rw [Ht.out] at HW hne
      clear h1 h3 h4 hgl hgo hk Ht e0 e8
      go_enter Tryd.func16, Tryd.ntmps16
      go_wp2_with (first
        | (go_at_call 31; ((with_reducible refine (HG.out _).mono ?_); rintro e w4 ⟨_, rfl, ⟨pa, pn, pc, ra, rn, rc, rfl, hxok, hxp, hxr⟩, hb4⟩; clear hxok; obtain ⟨x4, rfl⟩ := ext_of_grow hb4; clear hb4))
        | (go_at_call 22; ((with_reducible refine (HC.out _ _ _ _ _ (hxp.mono (by (repeat (first | (with_reducible exact Grow.refl _) | assumption | refine Grow.ext ?_ _ | refine Grow.alloc ?_ _ | refine Grow.drew ?_ | refine Grow.setCell ?_ (by first | (simp; done) | (simp; omega)) _ | refine Grow.trans ?_ (by assumption))))) (hxr.mono (by (repeat (first | (with_reducible exact Grow.refl _) | assumption | refine Grow.ext ?_ _ | refine Grow.alloc ?_ _ | refine Grow.drew ?_ | refine Grow.setCell ?_ (by first | (simp; done) | (simp; omega)) _ | refine Grow.trans ?_ (by assumption)))))).mono ?_); rintro e w5 ⟨rfl, hb5⟩; obtain ⟨x5, rfl⟩ := ext_of_grow hb5; clear hb5))
        | (go_at_call 29; ((with_reducible refine (HW.out _ _ _ _ _ (hxp.mono (by (repeat (first | (with_reducible exact Grow.refl _) | assumption | refine Grow.ext ?_ _ | refine Grow.alloc ?_ _ | refine Grow.drew ?_ | refine Grow.setCell ?_ (by first | (simp; done) | (simp; omega)) _ | refine Grow.trans ?_ (by assumption))))) (hxr.mono (by (repeat (first | (with_reducible exact Grow.refl _) | assumption | refine Grow.ext ?_ _ | refine Grow.alloc ?_ _ | refine Grow.drew ?_ | refine Grow.setCell ?_ (by first | (simp; done) | (simp; omega)) _ | refine Grow.trans ?_ (by assumption)))))).mono ?_); rintro e w6 ⟨rfl, hb6⟩; obtain ⟨x6, rfl⟩ := ext_of_grow hb6; clear hb6)))
      refine postP_of (v := .tuple #[(vft 0 0).v (.slice none 0 0) (.slice none 0 0), .int .i64 12]) (by simp only [results, Tryd.results16]; go_simp) rfl (by (repeat (first | (with_reducible exact Grow.refl _) | assumption | refine Grow.ext ?_ _ | refine Grow.alloc ?_ _ | refine Grow.drew ?_ | refine Grow.setCell ?_ (by first | (simp; done) | (simp; omega)) _ | refine Grow.trans ?_ (by assumption)))) ⟨none, 0, 0, none, 0, 0, rfl, ve0_ok, Sl.nil _ _, Sl.nil _ _⟩
set_option maxRecDepth 100000 in
set_option maxHeartbeats 4000000 in
theorem law_LinesTexts (v : Ve) (pv rv : Value) (o : Int) (s : Bs) (w : World) {F F' : Nat → Prop} (hv : v.ok) (hp : Sl F w pv v.prints) (hr : Sl F' w rv v.result) (ho : U8 o) (hw : Laid w) :
    Calls Tryd.prog 3 #[v.v pv rv, .int .u8 o, .string (str s)] w (Ret w (.bool true)) := by
  have HG := Lib.hid (fun w' (g : Grow w w') => law45_great v pv rv s w' (hp.mono g) (hr.mono g))
  cases hg : greatB v s
  case true =>
    rw [hg] at HG
    go_enter Tryd.func3, Tryd.ntmps3
    go_wp2_with (first
      | (go_at_call 8; ((with_reducible refine (HG.out _ (by (repeat (first | (with_reducible exact Grow.refl _) | assumption | refine Grow.ext ?_ _ | refine Grow.alloc ?_ _ | refine Grow.drew ?_ | refine Grow.setCell ?_ (by first | (simp; done) | (simp; omega)) _ | refine Grow.trans ?_ (by assumption))))).mono ?_); rintro e w1 ⟨rfl, hb1⟩; obtain ⟨x1, rfl⟩ := ext_of_grow hb1; clear hb1)))
    go_ret; exact Ret.bool rfl (by (repeat (first | (with_reducible exact Grow.refl _) | assumption | refine Grow.ext ?_ _ | refine Grow.alloc ?_ _ | refine Grow.drew ?_ | refine Grow.setCell ?_ (by first | (simp; done) | (simp; omega)) _ | refine Grow.trans ?_ (by assumption))))
  rw [hg] at HG
  obtain ⟨l1, l2, l3⟩ := greatB_no hg
  clear hg
  have H1 := Lib.hid (fun w => lines_Outcome o ho w)
  have H2 := Lib.hid (fun w => ref45_Outcome o ho w)
  have H3 := Lib.hid (fun w => lines_OutcomeOf s w)
  have H4 := Lib.hid (fun w => ref45_OutcomeOf s w)
  have H5 := Lib.hid (fun w' (g : Grow w w') => lines_Text v pv rv w' hv (hp.mono g) (hr.mono g) (by omega) (by omega) (hw.grow g))
  have H6 := Lib.hid (fun w' (g : Grow w w') => ref45_Text v pv rv w' hv (hp.mono g) (hr.mono g) (by omega) (by omega))
  have H7 := Lib.hid (lines_Read s (by omega))
  have H8 := Lib.hid (ref45_Read s (by omega))
  obtain ⟨a, Ha⟩ : ∃ x, Hid (outS o = x) := ⟨_, Lib.hid rfl⟩
  obtain ⟨b, Hb⟩ : ∃ x, Hid (outE o = x) := ⟨_, Lib.hid rfl⟩
  obtain ⟨c, Hc⟩ : ∃ x, Hid (ofW s = x) := ⟨_, Lib.hid rfl⟩
  obtain ⟨d, Hd⟩ : ∃ x, Hid (ofE s = x) := ⟨_, Lib.hid rfl⟩
  obtain ⟨t, Ht⟩ : ∃ x, Hid (txS v = x) := ⟨_, Lib.hid rfl⟩
  obtain ⟨e, He⟩ : ∃ x, Hid (opOk (veOk v) = x) := ⟨_, Lib.hid rfl⟩
  obtain ⟨y, Hy⟩ : ∃ x, Hid (rdV s = x) := ⟨_, Lib.hid rfl⟩
  obtain ⟨f, Hf⟩ : ∃ x, Hid (rdE s = x) := ⟨_, Lib.hid rfl⟩
  rw [Ha.out, Hb.out] at H1 H2
  rw [Hc.out, Hd.out] at H3 H4
  rw [Ht.out, He.out] at H5 H6
  rw [Hy.out, Hf.out] at H7 H8
  clear Ha Hb Hc Hd Ht He Hy Hf
  have HS := Lib.hid (fun p1 r1 p2 r2 w' F1 F2 F3 F4 (hy : y.ok) (h1 : Sl F1 w' p1 y.prints) (h2 : Sl F2 w' r1 y.result) (h3 : Sl F3 w' p2 y.prints) (h4 : Sl F4 w' r2 y.result) => by have h := ref42_Same y y p1 r1 p2 r2 w' hy hy h1 h2 h3 h4; rw [decide_eq_true rfl] at h; exact h)
  go_enter Tryd.func3, Tryd.ntmps3
  go_wp2_with (first
    | (go_at_call 8; ((with_reducible refine (HG.out _ (by (repeat (first | (with_reducible exact Grow.refl _) | assumption | refine Grow.ext ?_ _ | refine Grow.alloc ?_ _ | refine Grow.drew ?_ | refine Grow.setCell ?_ (by first | (simp; done) | (simp; omega)) _ | refine Grow.trans ?_ (by assumption))))).mono ?_); rintro e w1 ⟨rfl, hb1⟩; obtain ⟨x1, rfl⟩ := ext_of_grow hb1; clear hb1))
    | (go_at_call 9; ((with_reducible refine (H1.out _).mono ?_); rintro e w2 ⟨rfl, hb2⟩; obtain ⟨x2, rfl⟩ := ext_of_grow hb2; clear hb2))
    | (go_at_call 10; ((with_reducible refine (H2.out _).mono ?_); rintro e w3 ⟨rfl, hb3⟩; obtain ⟨x3, rfl⟩ := ext_of_grow hb3; clear hb3))
    | (go_at_call 11; ((with_reducible refine (H3.out _).mono ?_); rintro e w4 ⟨rfl, hb4⟩; obtain ⟨x4, rfl⟩ := ext_of_grow hb4; clear hb4))
    | (go_at_call 12; ((with_reducible refine (H4.out _).mono ?_); rintro e w5 ⟨rfl, hb5⟩; obtain ⟨x5, rfl⟩ := ext_of_grow hb5; clear hb5))
    | (go_at_call 13; ((with_reducible refine (H5.out _ (by (repeat (first | (with_reducible exact Grow.refl _) | assumption | refine Grow.ext ?_ _ | refine Grow.alloc ?_ _ | refine Grow.drew ?_ | refine Grow.setCell ?_ (by first | (simp; done) | (simp; omega)) _ | refine Grow.trans ?_ (by assumption))))).mono ?_); rintro e w6 ⟨rfl, hb6⟩; obtain ⟨x6, rfl⟩ := ext_of_grow hb6; clear hb6))
    | (go_at_call 14; ((with_reducible refine (H6.out _ (by (repeat (first | (with_reducible exact Grow.refl _) | assumption | refine Grow.ext ?_ _ | refine Grow.alloc ?_ _ | refine Grow.drew ?_ | refine Grow.setCell ?_ (by first | (simp; done) | (simp; omega)) _ | refine Grow.trans ?_ (by assumption))))).mono ?_); rintro e w7 ⟨rfl, hb7⟩; obtain ⟨x7, rfl⟩ := ext_of_grow hb7; clear hb7))
    | (go_at_call 15; ((with_reducible refine (H7.out _ (hw.grow (by (repeat (first | (with_reducible exact Grow.refl _) | assumption | refine Grow.ext ?_ _ | refine Grow.alloc ?_ _ | refine Grow.drew ?_ | refine Grow.setCell ?_ (by first | (simp; done) | (simp; omega)) _ | refine Grow.trans ?_ (by assumption)))))).mono ?_); rintro e w8 ⟨_, rfl, ⟨qa, qn, qc, ta, tn, tc, rfl, hyok, hyp, hyr⟩, hb8⟩; replace hyok := Lib.hid hyok; obtain ⟨x8, rfl⟩ := ext_of_grow hb8; clear hb8))
    | (go_at_call 16; ((with_reducible refine (H8.out _).mono ?_); rintro e w9 ⟨_, rfl, ⟨ua, un, uc, va, vn, vc, rfl, _, hzp, hzr⟩, hb9⟩; obtain ⟨x9, rfl⟩ := ext_of_grow hb9; clear hb9))
    | (go_at_call 17; ((with_reducible refine (HS.out _ _ _ _ _ _ _ _ _ hyok.out (hyp.mono (by (repeat (first | (with_reducible exact Grow.refl _) | assumption | refine Grow.ext ?_ _ | refine Grow.alloc ?_ _ | refine Grow.drew ?_ | refine Grow.setCell ?_ (by first | (simp; done) | (simp; omega)) _ | refine Grow.trans ?_ (by assumption))))) (hyr.mono (by (repeat (first | (with_reducible exact Grow.refl _) | assumption | refine Grow.ext ?_ _ | refine Grow.alloc ?_ _ | refine Grow.drew ?_ | refine Grow.setCell ?_ (by first | (simp; done) | (simp; omega)) _ | refine Grow.trans ?_ (by assumption))))) (hzp.mono (by (repeat (first | (with_reducible exact Grow.refl _) | assumption | refine Grow.ext ?_ _ | refine Grow.alloc ?_ _ | refine Grow.drew ?_ | refine Grow.setCell ?_ (by first | (simp; done) | (simp; omega)) _ | refine Grow.trans ?_ (by assumption))))) (hzr.mono (by (repeat (first | (with_reducible exact Grow.refl _) | assumption | refine Grow.ext ?_ _ | refine Grow.alloc ?_ _ | refine Grow.drew ?_ | refine Grow.setCell ?_ (by first | (simp; done) | (simp; omega)) _ | refine Grow.trans ?_ (by assumption)))))).mono ?_); rintro e w10 ⟨rfl, hb10⟩; obtain ⟨x10, rfl⟩ := ext_of_grow hb10; clear hb10)))
  go_ret; exact Ret.bool rfl (by (repeat (first | (with_reducible exact Grow.refl _) | assumption | refine Grow.ext ?_ _ | refine Grow.alloc ?_ _ | refine Grow.drew ?_ | refine Grow.setCell ?_ (by first | (simp; done) | (simp; omega)) _ | refine Grow.trans ?_ (by assumption))))
end Go.Proofs.YtjllaogechckoaaDoor
