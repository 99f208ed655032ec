/- Layer 45: the law LinesWords. -/
import Derived.Test.YtjllaogechckoaaDoorW45n
namespace Go.Proofs.YtjllaogechckoaaDoor
open Go.RowKit
set_option linter.unusedSimpArgs false
set_option linter.unusedVariables false

theorem of_or (s : Bs) : (ofE s = 12 ∧ ofW s = 0) ∨ (ofE s = 0 ∧ U8 (ofW s) ∧ outS (ofW s) = s ∧ outE (ofW s) = 0) := by
  unfold ofE ofW
  cases h : outOf s with
  | none => exact Or.inl ⟨rfl, rfl⟩
  | some o =>
    obtain ⟨h1, h2⟩ := outOf_some h
    refine Or.inr ⟨rfl, ⟨by simp; omega, by simp; omega⟩, ?_, ?_⟩
    · unfold outS; simp only [Option.getD_some]; rw [h2]; rfl
    · unfold outE; simp only [Option.getD_some]; rw [if_pos h1]
theorem out_or (o : Int) : (outE o = 0 ∧ (1 ≤ o ∧ o ≤ 8) ∧ outS o ∈ words ∧ ofW (outS o) = o ∧ ofE (outS o) = 0) ∨ (outE o = 2 ∧ ¬ (1 ≤ o ∧ o ≤ 8) ∧ outS o = []) := by
  by_cases h : 1 ≤ o ∧ o ≤ 8
  · obtain ⟨w, h1, h2, h3⟩ := outW_of h
    have e : outS o = w := by unfold outS; rw [h1]; rfl
    refine Or.inl ⟨by unfold outE; rw [if_pos h], h, by rw [e]; exact h3, ?_, ?_⟩
    · rw [e]; unfold ofW; rw [h2]; rfl
    · rw [e]; unfold ofE; rw [h2]; rfl
  · exact Or.inr ⟨(outS_no h).2, h, (outS_no h).1⟩
theorem out_inj {o q : Int} (h1 : outE o = 0) (h2 : outE q = 0) : (o == q) = (outS o == outS q) := by
  rw [Bool.eq_iff_iff, beq_iff_eq, beq_iff_eq]
  constructor
  · rintro rfl; rfl
  · intro h
    rcases out_or o with ⟨_, _, _, hx, _⟩ | ⟨hx, _⟩
    · rcases out_or q with ⟨_, _, _, hz, _⟩ | ⟨hz, _⟩
      · rw [← hx, ← hz, h]
      · omega
    · omega
theorem words_len : ∀ w ∈ words, w.length ≤ 20 := by decide +kernel
theorem str_at {l : Bs} {k : Nat} (h : k < l.length) (h' : k < (str l).size) : (str l)[k]'h' = l[k] := rfl
set_option maxRecDepth 100000 in
set_option maxHeartbeats 4000000 in
theorem law_LinesWords (o q : Int) (s : Bs) (w : World) (ho : U8 o) (hq : U8 q) (hw : Laid w) : Calls Tryd.prog 7 #[.int .u8 o, .int .u8 q, .string (str s)] w (Ret w (.bool true)) := by
  obtain ⟨ho1, ho2⟩ := ho
  obtain ⟨hq1, hq2⟩ := hq
  have HAL := Lib.hid (fun w hw => law45_alive w hw)
  by_cases hlen : 5000 < s.length
  · have hss : (str s).size = s.length := str_size s
    have e3 : decide ((s.length : Int) > 5000) = true := decide_eq_true (by omega)
    go_enter Tryd.func7, Tryd.ntmps7
    go_wp2_with (first | (go_at_call 21; ((with_reducible refine (HAL.out _ (hw.grow (by (repeat (first | (with_reducible exact Grow.refl _) | assumption | refine Grow.ext ?_ _ | refine Grow.alloc ?_ _ | refine Grow.drew ?_ | refine Grow.setCell ?_ (by first | (simp; done) | (simp; omega)) _ | refine Grow.trans ?_ (by assumption)))))).mono ?_); rintro e w1 ⟨rfl, hb1⟩; obtain ⟨x1, rfl⟩ := ext_of_grow hb1; clear hb1)))
    go_ret; exact Ret.bool rfl (by (repeat (first | (with_reducible exact Grow.refl _) | assumption | refine Grow.ext ?_ _ | refine Grow.alloc ?_ _ | refine Grow.drew ?_ | refine Grow.setCell ?_ (by first | (simp; done) | (simp; omega)) _ | refine Grow.trans ?_ (by assumption))))
  have e3 : decide ((s.length : Int) > 5000) = false := decide_eq_false (by omega)
  have hss : (str s).size = s.length := str_size s
  have HO := Lib.hid (fun w => lines_Outcome o ⟨ho1, ho2⟩ w)
  have HQ := Lib.hid (fun w => lines_Outcome q ⟨hq1, hq2⟩ w)
  have HS := Lib.hid (fun w => lines_OutcomeOf s w)
  have HSO := Lib.hid (of_or s)
  have HOO := Lib.hid (out_or o)
  have HQO := Lib.hid (out_or q)
  have Hab := Lib.hid (fun h1 h2 => out_inj (o := o) (q := q) h1 h2)
  obtain ⟨a, Ha⟩ : ∃ x, Hid (outS o = x) := ⟨_, Lib.hid rfl⟩
  obtain ⟨e, He⟩ : ∃ x, Hid (outE o = x) := ⟨_, Lib.hid rfl⟩
  obtain ⟨b, Hb⟩ : ∃ x, Hid (outS q = x) := ⟨_, Lib.hid rfl⟩
  obtain ⟨f, Hf⟩ : ∃ x, Hid (outE q = x) := ⟨_, Lib.hid rfl⟩
  obtain ⟨y, Hy⟩ : ∃ x, Hid (ofW s = x) := ⟨_, Lib.hid rfl⟩
  obtain ⟨h, Hh⟩ : ∃ x, Hid (ofE s = x) := ⟨_, Lib.hid rfl⟩
  rw [Ha.out, He.out] at HO HOO Hab
  rw [Hb.out, Hf.out] at HQ HQO Hab
  rw [Hy.out, Hh.out] at HS HSO
  clear Ha He Hb Hf Hy Hh
  rcases HOO.out with ⟨rfl, hor, haw, hof1, hof2⟩ | ⟨rfl, hor, rfl⟩
  · have t : (f = 0 ∧ (o == q) = true ∧ (a == b) = true) ∨ (f = 0 ∧ (o == q) = false ∧ (a == b) = false) ∨ f = 2 := by
      rcases HQO.out with ⟨hf, _⟩ | ⟨hf, _⟩
      · have := Hab.out rfl hf
        cases c : (a == b)
        · exact Or.inr (Or.inl ⟨hf, by rw [this, c], rfl⟩)
        · exact Or.inl ⟨hf, by rw [this, c], rfl⟩
      · exact Or.inr (Or.inr hf)
    have hal := words_len a haw
    have HN := Lib.hid (fun w hw => law45_none a w (by omega) hw)
    rw [words_none a haw] at HN
    have HF := Lib.hid (fun w => lines_OutcomeOf a w)
    rw [hof1, hof2] at HF
    have Halp := Lib.hid (words_alpha a haw)
    have hsa : (str a).size = a.length := str_size a
    clear HOO HQO Hab haw hof1 hof2
    rcases t with ⟨rfl, c1, c2⟩ | ⟨rfl, c1, c2⟩ | rfl
    all_goals
      go_enter Tryd.func7, Tryd.ntmps7
      go_wp2_with (first
        | (go_at_call 21; ((with_reducible refine (HAL.out _ (hw.grow (by (repeat (first | (with_reducible exact Grow.refl _) | assumption | refine Grow.ext ?_ _ | refine Grow.alloc ?_ _ | refine Grow.drew ?_ | refine Grow.setCell ?_ (by first | (simp; done) | (simp; omega)) _ | refine Grow.trans ?_ (by assumption)))))).mono ?_); rintro e w1 ⟨rfl, hb1⟩; obtain ⟨x1, rfl⟩ := ext_of_grow hb1; clear hb1))
        | (go_at_call 9; ((with_reducible refine (HO.out _).mono ?_); rintro e w2 ⟨rfl, hb2⟩; obtain ⟨x2, rfl⟩ := ext_of_grow hb2; clear hb2))
        | (go_at_call 9; ((with_reducible refine (HQ.out _).mono ?_); rintro e w3 ⟨rfl, hb3⟩; obtain ⟨x3, rfl⟩ := ext_of_grow hb3; clear hb3)))
      go_loopw [12] (fun iv wr => ∃ k : Nat, iv = .int .i64 k ∧ k ≤ a.length ∧ wr = ext (ext (ext w x1) x2) x3) (fun iv _ => a.length - (intOf iv).toNat)
      case atStart => exact ⟨0, rfl, by omega, rfl⟩
      case round =>
        obtain ⟨k, rfl, hk, rfl⟩ := hrel
        by_cases hlt : k < a.length
        · have hb := Halp.out a[k] (List.getElem_mem hlt)
          have hb1 : decide ((a[k].toNat : Int) < 97) = false := decide_eq_false (by omega)
          have hb2 : decide ((a[k].toNat : Int) > 122) = false := decide_eq_false (by omega)
          have hka : (k : Int) < a.length := by omega
          have hcz := str_at hlt (by rw [hsa]; exact hlt)
          go_wp2_with fail
          exact ⟨⟨k + 1, by go_num, by omega, trivial⟩, by simp [intOf]; omega⟩
        · obtain rfl : a.length = k := by omega
          rcases HSO.out with ⟨rfl, rfl⟩ | ⟨rfl, hy, hys, hye⟩
          · go_wp2_with (first
              | (go_at_call 11; ((with_reducible refine (HF.out _).mono ?_); rintro e w4 ⟨rfl, hb4⟩; obtain ⟨x4, rfl⟩ := ext_of_grow hb4; clear hb4))
              | (go_at_call 20; ((with_reducible refine (HN.out _ (hw.grow (by (repeat (first | (with_reducible exact Grow.refl _) | assumption | refine Grow.ext ?_ _ | refine Grow.alloc ?_ _ | refine Grow.drew ?_ | refine Grow.setCell ?_ (by first | (simp; done) | (simp; omega)) _ | refine Grow.trans ?_ (by assumption)))))).mono ?_); rintro e w5 ⟨rfl, hb5⟩; obtain ⟨x5, rfl⟩ := ext_of_grow hb5; clear hb5))
              | (go_at_call 11; ((with_reducible refine (HS.out _).mono ?_); rintro e w6 ⟨rfl, hb6⟩; obtain ⟨x6, rfl⟩ := ext_of_grow hb6; clear hb6)))
            go_ret; exact Ret.bool rfl (by (repeat (first | (with_reducible exact Grow.refl _) | assumption | refine Grow.ext ?_ _ | refine Grow.alloc ?_ _ | refine Grow.drew ?_ | refine Grow.setCell ?_ (by first | (simp; done) | (simp; omega)) _ | refine Grow.trans ?_ (by assumption))))
          · have HY := Lib.hid (fun w => lines_Outcome y hy w)
            rw [hys, hye] at HY
            clear hys hye
            go_wp2_with (first
              | (go_at_call 11; ((with_reducible refine (HF.out _).mono ?_); rintro e w4 ⟨rfl, hb4⟩; obtain ⟨x4, rfl⟩ := ext_of_grow hb4; clear hb4))
              | (go_at_call 20; ((with_reducible refine (HN.out _ (hw.grow (by (repeat (first | (with_reducible exact Grow.refl _) | assumption | refine Grow.ext ?_ _ | refine Grow.alloc ?_ _ | refine Grow.drew ?_ | refine Grow.setCell ?_ (by first | (simp; done) | (simp; omega)) _ | refine Grow.trans ?_ (by assumption)))))).mono ?_); rintro e w5 ⟨rfl, hb5⟩; obtain ⟨x5, rfl⟩ := ext_of_grow hb5; clear hb5))
              | (go_at_call 11; ((with_reducible refine (HS.out _).mono ?_); rintro e w6 ⟨rfl, hb6⟩; obtain ⟨x6, rfl⟩ := ext_of_grow hb6; clear hb6))
              | (go_at_call 9; ((with_reducible refine (HY.out _).mono ?_); rintro e w7 ⟨rfl, hb7⟩; obtain ⟨x7, rfl⟩ := ext_of_grow hb7; clear hb7)))
            go_ret; exact Ret.bool rfl (by (repeat (first | (with_reducible exact Grow.refl _) | assumption | refine Grow.ext ?_ _ | refine Grow.alloc ?_ _ | refine Grow.drew ?_ | refine Grow.setCell ?_ (by first | (simp; done) | (simp; omega)) _ | refine Grow.trans ?_ (by assumption))))
  · have t : decide (o ≥ 1) = false ∨ (decide (o ≥ 1) = true ∧ decide (o ≤ 8) = false) := by
      by_cases h0 : o ≥ 1
      · exact Or.inr ⟨decide_eq_true h0, decide_eq_false (fun h => hor ⟨h0, h⟩)⟩
      · exact Or.inl (decide_eq_false h0)
    have tf : f = 0 ∨ f = 2 := by
      rcases HQO.out with ⟨hf, _⟩ | ⟨hf, _⟩
      · exact Or.inl hf
      · exact Or.inr hf
    clear HOO HQO Hab hor
    rcases t with c1 | ⟨c1, c2⟩
    all_goals rcases tf with rfl | rfl
    all_goals
      go_enter Tryd.func7, Tryd.ntmps7
      go_wp2_with (first
        | (go_at_call 21; ((with_reducible refine (HAL.out _ (hw.grow (by (repeat (first | (with_reducible exact Grow.refl _) | assumption | refine Grow.ext ?_ _ | refine Grow.alloc ?_ _ | refine Grow.drew ?_ | refine Grow.setCell ?_ (by first | (simp; done) | (simp; omega)) _ | refine Grow.trans ?_ (by assumption)))))).mono ?_); rintro e w1 ⟨rfl, hb1⟩; obtain ⟨x1, rfl⟩ := ext_of_grow hb1; clear hb1))
        | (go_at_call 9; ((with_reducible refine (HO.out _).mono ?_); rintro e w2 ⟨rfl, hb2⟩; obtain ⟨x2, rfl⟩ := ext_of_grow hb2; clear hb2))
        | (go_at_call 9; ((with_reducible refine (HQ.out _).mono ?_); rintro e w3 ⟨rfl, hb3⟩; obtain ⟨x3, rfl⟩ := ext_of_grow hb3; clear hb3)))
      go_loopw [12] (fun iv wr => iv = .int .i64 0 ∧ wr = ext (ext (ext w x1) x2) x3) (fun iv _ => 0)
      case atStart => exact ⟨rfl, rfl⟩
      case round =>
        obtain ⟨rfl, rfl⟩ := hrel
        rcases HSO.out with ⟨rfl, rfl⟩ | ⟨rfl, hy, hys, hye⟩
        · go_wp2_with (first
            | (go_at_call 11; ((with_reducible refine (HS.out _).mono ?_); rintro e w6 ⟨rfl, hb6⟩; obtain ⟨x6, rfl⟩ := ext_of_grow hb6; clear hb6)))
          go_ret; exact Ret.bool rfl (by (repeat (first | (with_reducible exact Grow.refl _) | assumption | refine Grow.ext ?_ _ | refine Grow.alloc ?_ _ | refine Grow.drew ?_ | refine Grow.setCell ?_ (by first | (simp; done) | (simp; omega)) _ | refine Grow.trans ?_ (by assumption))))
        · have HY := Lib.hid (fun w => lines_Outcome y hy w)
          rw [hys, hye] at HY
          clear hys hye
          go_wp2_with (first
            | (go_at_call 11; ((with_reducible refine (HS.out _).mono ?_); rintro e w6 ⟨rfl, hb6⟩; obtain ⟨x6, rfl⟩ := ext_of_grow hb6; clear hb6))
            | (go_at_call 9; ((with_reducible refine (HY.out _).mono ?_); rintro e w7 ⟨rfl, hb7⟩; obtain ⟨x7, rfl⟩ := ext_of_grow hb7; clear hb7)))
          go_ret; exact Ret.bool rfl (by (repeat (first | (with_reducible exact Grow.refl _) | assumption | refine Grow.ext ?_ _ | refine Grow.alloc ?_ _ | refine Grow.drew ?_ | refine Grow.setCell ?_ (by first | (simp; done) | (simp; omega)) _ | refine Grow.trans ?_ (by assumption))))
end Go.Proofs.YtjllaogechckoaaDoor
