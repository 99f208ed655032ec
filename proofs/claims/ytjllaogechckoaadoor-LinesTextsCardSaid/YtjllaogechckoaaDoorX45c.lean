/- Layer 45, the reference: a guess at a text's verdict; the plain cases. -/
import Derived.Test.YtjllaogechckoaaDoorX45b
import Derived.Test.YtjllaogechckoaaDoorW45v
import Derived.Test.YtjllaogechckoaaDoorW45k
namespace Go.Proofs.YtjllaogechckoaaDoor
open Go.RowKit
set_option linter.unusedSimpArgs false
set_option linter.unusedVariables false

theorem nth_of {l : List Bs} {i : Nat} {x : Bs} (h : l[i]? = some x) : nth l i = x := by unfold nth; rw [h]; rfl
theorem parts_c (s : Bs) (hs : s.length ≤ 900000) {n : Nat} (hn : (parts s).length = n) (w : World) : Calls Tryd.prog 49 #[.string (str s)] w (RetP w fun v w' => ∃ b off c, v = .slice (some ⟨b, off, none⟩) n c ∧ LtW b w' ∧ (∀ i x, (parts s)[i]? = some x → w'.cell? ⟨b, off + i, none⟩ = some (.string (str x))) ∧ Sl (Frs w) w' (.slice (some ⟨b, off, none⟩) n c) (parts s)) := by
  refine (ref45_parts s hs w).mono ?_
  rintro e w' ⟨_, rfl, ⟨a, c, rfl, hsl⟩, hg⟩
  rw [hn] at hsl ⊢
  have h0 : 0 < n := by rw [← hn]; exact List.length_pos_iff.2 (parts_ne s)
  obtain ⟨b, off, rfl, hlt, hcs⟩ := sl_cells hsl h0
  refine ⟨_, rfl, ⟨b, off, c, rfl, hlt, fun i x hx => ?_, hsl⟩, hg⟩
  have hi : i < n := by rw [← hn]; exact (List.getElem?_eq_some_iff.1 hx).1
  obtain ⟨y, hy, hc⟩ := hcs i hi
  rw [hx] at hy; injection hy with hy; subst hy; exact hc
/-- What guess leaves. -/
def GsR (w : World) (g : Ve) (v : Value) (w' : World) : Prop :=
  ∃ pa pn pc ra rn rc, v = g.v (.slice pa pn pc) (.slice ra rn rc) ∧ g.ok ∧ Sl (Frs w) w' (.slice pa pn pc) g.prints ∧ Sl (Frs w) w' (.slice ra rn rc) g.result
theorem GsR.nil {w w' : World} {g : Ve} (h : g.ok) (hp : g.prints = []) (hr : g.result = []) : GsR w g (g.v (.slice none 0 0) (.slice none 0 0)) w' :=
  ⟨none, 0, 0, none, 0, 0, rfl, h, by rw [hp]; exact Sl.nil _ _, by rw [hr]; exact Sl.nil _ _⟩
theorem refFold_i64 : ∀ (l : Bs) (n : Int), I64 n → I64 (refFold n l)
  | [], n, h => h
  | c :: l, n, h => by rw [refFold]; exact refFold_i64 l _ (wrap_i64 _)
theorem refNum_i64 (s : Bs) : I64 (refNum s) := by
  unfold refNum
  split
  · exact refFold_i64 _ _ (by unfold I64; omega)
  · exact wrap_i64 _
theorem part_small {s : Bs} {i : Nat} {x : Bs} (h : (parts s)[i]? = some x) : x.length ≤ s.length := parts_small (List.mem_of_getElem? h)
theorem gs_in {s x0 : Bs} (h0 : (parts s)[0]? = some x0) (h : (x0 == t_inputs) = true) : guessP s = vft 4 2 := by
  unfold guessP; rw [if_pos (by rw [nth_of h0]; exact beq_iff_eq.1 h)]
theorem gs_two {s x0 x1 : Bs} (h0 : (parts s)[0]? = some x0) (h1 : (parts s)[1]? = some x1) (hn : (parts s).length = 2) (h : (x0 == t_inputs) = false) (hf : (x0 == t_form) = true) : guessP s = vft 1 (refNum x1) := by
  unfold guessP; rw [if_neg (by rw [nth_of h0]; exact beq_eq_false_iff_ne.1 h), if_pos ⟨hn, by rw [nth_of h0]; exact beq_iff_eq.1 hf⟩, nth_of h1]
theorem gs_ty {s x0 x1 : Bs} (h0 : (parts s)[0]? = some x0) (h1 : (parts s)[1]? = some x1) (hn : (parts s).length = 2) (h : (x0 == t_inputs) = false) (hf : (x0 == t_form) = false) (ht : (x0 == t_type) = true) : guessP s = vft 2 (refNum x1) := by
  unfold guessP; rw [if_neg (by rw [nth_of h0]; exact beq_eq_false_iff_ne.1 h), if_neg (by rw [nth_of h0]; exact fun q => beq_eq_false_iff_ne.1 hf q.2), if_pos ⟨hn, by rw [nth_of h0]; exact beq_iff_eq.1 ht⟩, nth_of h1]
theorem gs_0 {s x0 : Bs} (h0 : (parts s)[0]? = some x0) (h : (x0 == t_inputs) = false) (h2 : ¬ ((parts s).length = 2 ∧ ((x0 == t_form) = true ∨ (x0 == t_type) = true))) (h9 : ¬ ((parts s).length = 9 ∧ (x0 == t_borrow) = true ∧ 1 < (nth (parts s) 1).length)) (h5 : ¬ (5 ≤ (parts s).length ∧ (x0 == t_ran) = true)) : guessP s = ve0 := by
  unfold guessP
  rw [nth_of h0]
  rw [if_neg (beq_eq_false_iff_ne.1 h), if_neg (fun q => h2 ⟨q.1, Or.inl (beq_iff_eq.2 q.2)⟩), if_neg (fun q => h2 ⟨q.1, Or.inr (beq_iff_eq.2 q.2)⟩), if_neg (fun q => h9 ⟨q.1, beq_iff_eq.2 q.2.1, q.2.2⟩), if_neg (fun q => h5 ⟨q.1, beq_iff_eq.2 q.2⟩)]
set_option maxRecDepth 100000 in
set_option maxHeartbeats 2000000 in
theorem guess_in (s x0 : Bs) (hs : s.length ≤ 900000) (h0 : (parts s)[0]? = some x0) (h : (x0 == t_inputs) = true) (w : World) : Calls Tryd.prog 31 #[.string (str s)] w (RetP w (GsR w (guessP s))) := by
  rw [gs_in h0 h]
  have Hp := Lib.hid (parts_c s hs rfl)
  have H0 := Lib.hid h0
  have hn : 0 < (parts s).length := List.length_pos_iff.2 (parts_ne s)
  obtain ⟨n, Hn⟩ : ∃ n, Hid ((parts s).length = n) := ⟨_, Lib.hid rfl⟩
  rw [Hn.out] at Hp hn
  clear h0
  have hnI : (0 : Int) < n := by omega
  go_enter Tryd.func31, Tryd.ntmps31
  go_wp2_with (first
    | (go_at_call 49; ((with_reducible refine (Hp.out _).mono ?_); rintro e w1 ⟨_, rfl, ⟨b, off, c, rfl, hlt, hcs, hsl⟩, hg1⟩; have k0 : w1.cell? ⟨b, off, none⟩ = _ := hcs 0 _ H0.out; clear hcs hsl; obtain ⟨x1, rfl⟩ := ext_of_grow hg1; clear hg1)))
  refine postP_of (v := (vft 4 2).v (.slice none 0 0) (.slice none 0 0)) (by simp only [results, Tryd.results31]; go_simp) rfl (by (repeat (first | (with_reducible exact Grow.refl _) | assumption | refine Grow.ext ?_ _ | refine Grow.alloc ?_ _ | refine Grow.drew ?_ | refine Grow.setCell ?_ (by first | (simp; done) | (simp; omega)) _ | refine Grow.trans ?_ (by assumption)))) (GsR.nil (vft_ok 4 2 (by unfold U8; omega) I64.of2) rfl rfl)
set_option maxRecDepth 100000 in
set_option maxHeartbeats 2000000 in
theorem guess_form (s x0 x1 : Bs) (hs : s.length ≤ 900000) (h0 : (parts s)[0]? = some x0) (h1 : (parts s)[1]? = some x1) (hn : (parts s).length = 2) (h : (x0 == t_inputs) = false) (hf : (x0 == t_form) = true) (w : World) : Calls Tryd.prog 31 #[.string (str s)] w (RetP w (GsR w (guessP s))) := by
  rw [gs_two h0 h1 hn h hf]
  have Hp := Lib.hid (parts_c s hs hn)
  have H0 := Lib.hid h0
  have H1 := Lib.hid h1
  have HN := Lib.hid (fun w => ref45_number x1 (by have := part_small h1; omega) w)
  have hi := refNum_i64 x1
  obtain ⟨r, Hr⟩ : ∃ n, Hid (refNum x1 = n) := ⟨_, Lib.hid rfl⟩
  rw [Hr.out] at HN hi ⊢
  clear h0 h1 hn
  go_enter Tryd.func31, Tryd.ntmps31
  go_wp2_with (first
    | (go_at_call 49; ((with_reducible refine (Hp.out _).mono ?_); rintro e w1 ⟨_, rfl, ⟨b, off, c, rfl, hlt, hcs, hsl⟩, hg1⟩; have k0 : w1.cell? ⟨b, off, none⟩ = _ := hcs 0 _ H0.out; have k1 := hcs 1 _ H1.out; clear hcs hsl; obtain ⟨x1, rfl⟩ := ext_of_grow hg1; clear hg1))
    | (go_at_call 50; ((with_reducible refine (HN.out _).mono ?_); rintro e w2 ⟨rfl, hb2⟩; obtain ⟨x2, rfl⟩ := ext_of_grow hb2; clear hb2)))
  refine postP_of (v := (vft 1 r).v (.slice none 0 0) (.slice none 0 0)) (by simp only [results, Tryd.results31]; go_simp) rfl (by (repeat (first | (with_reducible exact Grow.refl _) | assumption | refine Grow.ext ?_ _ | refine Grow.alloc ?_ _ | refine Grow.drew ?_ | refine Grow.setCell ?_ (by first | (simp; done) | (simp; omega)) _ | refine Grow.trans ?_ (by assumption)))) (GsR.nil (vft_ok 1 r (by unfold U8; omega) hi) rfl rfl)
set_option maxRecDepth 100000 in
set_option maxHeartbeats 2000000 in
theorem guess_type (s x0 x1 : Bs) (hs : s.length ≤ 900000) (h0 : (parts s)[0]? = some x0) (h1 : (parts s)[1]? = some x1) (hn : (parts s).length = 2) (h : (x0 == t_inputs) = false) (hf : (x0 == t_form) = false) (ht : (x0 == t_type) = true) (w : World) : Calls Tryd.prog 31 #[.string (str s)] w (RetP w (GsR w (guessP s))) := by
  rw [gs_ty h0 h1 hn h hf ht]
  have Hp := Lib.hid (parts_c s hs hn)
  have H0 := Lib.hid h0
  have H1 := Lib.hid h1
  have HN := Lib.hid (fun w => ref45_number x1 (by have := part_small h1; omega) w)
  have hi := refNum_i64 x1
  obtain ⟨r, Hr⟩ : ∃ n, Hid (refNum x1 = n) := ⟨_, Lib.hid rfl⟩
  rw [Hr.out] at HN hi ⊢
  clear h0 h1 hn
  go_enter Tryd.func31, Tryd.ntmps31
  go_wp2_with (first
    | (go_at_call 49; ((with_reducible refine (Hp.out _).mono ?_); rintro e w1 ⟨_, rfl, ⟨b, off, c, rfl, hlt, hcs, hsl⟩, hg1⟩; have k0 : w1.cell? ⟨b, off, none⟩ = _ := hcs 0 _ H0.out; have k1 := hcs 1 _ H1.out; clear hcs hsl; obtain ⟨x1, rfl⟩ := ext_of_grow hg1; clear hg1))
    | (go_at_call 50; ((with_reducible refine (HN.out _).mono ?_); rintro e w2 ⟨rfl, hb2⟩; obtain ⟨x2, rfl⟩ := ext_of_grow hb2; clear hb2)))
  refine postP_of (v := (vft 2 r).v (.slice none 0 0) (.slice none 0 0)) (by simp only [results, Tryd.results31]; go_simp) rfl (by (repeat (first | (with_reducible exact Grow.refl _) | assumption | refine Grow.ext ?_ _ | refine Grow.alloc ?_ _ | refine Grow.drew ?_ | refine Grow.setCell ?_ (by first | (simp; done) | (simp; omega)) _ | refine Grow.trans ?_ (by assumption)))) (GsR.nil (vft_ok 2 r (by unfold U8; omega) hi) rfl rfl)
set_option maxRecDepth 100000 in
set_option maxHeartbeats 4000000 in
theorem guess_0 (s x0 : Bs) (hs : s.length ≤ 900000) (h0 : (parts s)[0]? = some x0) (h : (x0 == t_inputs) = false) (h2 : ¬ ((parts s).length = 2 ∧ ((x0 == t_form) = true ∨ (x0 == t_type) = true))) (h9 : ¬ ((parts s).length = 9 ∧ (x0 == t_borrow) = true ∧ 1 < (nth (parts s) 1).length)) (h5 : ¬ (5 ≤ (parts s).length ∧ (x0 == t_ran) = true)) (w : World) : Calls Tryd.prog 31 #[.string (str s)] w (RetP w (GsR w (guessP s))) := by
  rw [gs_0 h0 h h2 h9 h5]
  have Hp := Lib.hid (parts_c s hs rfl)
  have H0 := Lib.hid h0
  have hn : 0 < (parts s).length := List.length_pos_iff.2 (parts_ne s)
  by_cases n2 : (parts s).length = 2
  · have hf : (x0 == t_form) = false := by cases q : (x0 == t_form); rfl; exact absurd ⟨n2, Or.inl q⟩ h2
    have ht : (x0 == t_type) = false := by cases q : (x0 == t_type); rfl; exact absurd ⟨n2, Or.inr q⟩ h2
    rw [n2] at Hp
    clear h0 h2 h9 h5 n2 hn
    go_enter Tryd.func31, Tryd.ntmps31
    go_wp2_with (first
      | (go_at_call 49; ((with_reducible refine (Hp.out _).mono ?_); rintro e w1 ⟨_, rfl, ⟨b, off, c, rfl, hlt, hcs, hsl⟩, hg1⟩; have k0 : w1.cell? ⟨b, off, none⟩ = _ := hcs 0 _ H0.out; clear hcs hsl; obtain ⟨x1, rfl⟩ := ext_of_grow hg1; clear hg1)))
    refine postP_of (v := (vft 0 0).v (.slice none 0 0) (.slice none 0 0)) (by simp only [results, Tryd.results31]; go_simp) rfl (by (repeat (first | (with_reducible exact Grow.refl _) | assumption | refine Grow.ext ?_ _ | refine Grow.alloc ?_ _ | refine Grow.drew ?_ | refine Grow.setCell ?_ (by first | (simp; done) | (simp; omega)) _ | refine Grow.trans ?_ (by assumption)))) (GsR.nil (g := ve0) ve0_ok rfl rfl)
  by_cases n9 : (parts s).length = 9
  · have hr : (x0 == t_ran) = false := by cases q : (x0 == t_ran); rfl; exact absurd ⟨by omega, q⟩ h5
    cases hb : (x0 == t_borrow)
    · rw [n9] at Hp
      clear h0 h2 h9 h5 n2 hn n9
      go_enter Tryd.func31, Tryd.ntmps31
      go_wp2_with (first
        | (go_at_call 49; ((with_reducible refine (Hp.out _).mono ?_); rintro e w1 ⟨_, rfl, ⟨b, off, c, rfl, hlt, hcs, hsl⟩, hg1⟩; have k0 : w1.cell? ⟨b, off, none⟩ = _ := hcs 0 _ H0.out; clear hcs hsl; obtain ⟨x1, rfl⟩ := ext_of_grow hg1; clear hg1)))
      refine postP_of (v := (vft 0 0).v (.slice none 0 0) (.slice none 0 0)) (by simp only [results, Tryd.results31]; go_simp) rfl (by (repeat (first | (with_reducible exact Grow.refl _) | assumption | refine Grow.ext ?_ _ | refine Grow.alloc ?_ _ | refine Grow.drew ?_ | refine Grow.setCell ?_ (by first | (simp; done) | (simp; omega)) _ | refine Grow.trans ?_ (by assumption)))) (GsR.nil (g := ve0) ve0_ok rfl rfl)
    · obtain ⟨y, hy⟩ : ∃ y, (parts s)[1]? = some y := ⟨_, List.getElem?_eq_getElem (by omega)⟩
      have H1 := Lib.hid hy
      have hl : ¬ 1 < y.length := fun q => h9 ⟨n9, hb, by rw [nth_of hy]; exact q⟩
      have hly : decide ((y.length : Int) > 1) = false := decide_eq_false (by omega)
      have hss : (str y).size = y.length := str_size y
      rw [n9] at Hp
      clear h0 h2 h9 h5 n2 hn n9 hy hl
      go_enter Tryd.func31, Tryd.ntmps31
      go_wp2_with (first
        | (go_at_call 49; ((with_reducible refine (Hp.out _).mono ?_); rintro e w1 ⟨_, rfl, ⟨b, off, c, rfl, hlt, hcs, hsl⟩, hg1⟩; have k0 : w1.cell? ⟨b, off, none⟩ = _ := hcs 0 _ H0.out; have k1 := hcs 1 _ H1.out; clear hcs hsl; obtain ⟨x1, rfl⟩ := ext_of_grow hg1; clear hg1)))
      refine postP_of (v := (vft 0 0).v (.slice none 0 0) (.slice none 0 0)) (by simp only [results, Tryd.results31]; go_simp) rfl (by (repeat (first | (with_reducible exact Grow.refl _) | assumption | refine Grow.ext ?_ _ | refine Grow.alloc ?_ _ | refine Grow.drew ?_ | refine Grow.setCell ?_ (by first | (simp; done) | (simp; omega)) _ | refine Grow.trans ?_ (by assumption)))) (GsR.nil (g := ve0) ve0_ok rfl rfl)
  · have hr : (decide (((parts s).length : Int) ≥ 5) = false) ∨ (decide (((parts s).length : Int) ≥ 5) = true ∧ (x0 == t_ran) = false) := by
      by_cases h55 : 5 ≤ (parts s).length
      · exact Or.inr ⟨decide_eq_true (by omega), by cases q : (x0 == t_ran); rfl; exact absurd ⟨h55, q⟩ h5⟩
      · exact Or.inl (decide_eq_false (by omega))
    have hb2 : (((parts s).length : Int) == 2) = false := by rw [beq_eq_false_iff_ne]; omega
    have hb9 : (((parts s).length : Int) == 9) = false := by rw [beq_eq_false_iff_ne]; omega
    obtain ⟨n, Hn⟩ : ∃ n, Hid ((parts s).length = n) := ⟨_, Lib.hid rfl⟩
    rw [Hn.out] at Hp hn hr hb2 hb9
    clear h0 h2 h9 h5 n2 n9
    have hnI : (0 : Int) < n := by omega
    rcases hr with hr | ⟨hr, hr2⟩
    all_goals
      go_enter Tryd.func31, Tryd.ntmps31
      go_wp2_with (first
        | (go_at_call 49; ((with_reducible refine (Hp.out _).mono ?_); rintro e w1 ⟨_, rfl, ⟨b, off, c, rfl, hlt, hcs, hsl⟩, hg1⟩; have k0 : w1.cell? ⟨b, off, none⟩ = _ := hcs 0 _ H0.out; clear hcs hsl; obtain ⟨x1, rfl⟩ := ext_of_grow hg1; clear hg1)))
      refine postP_of (v := (vft 0 0).v (.slice none 0 0) (.slice none 0 0)) (by simp only [results, Tryd.results31]; go_simp) rfl (by (repeat (first | (with_reducible exact Grow.refl _) | assumption | refine Grow.ext ?_ _ | refine Grow.alloc ?_ _ | refine Grow.drew ?_ | refine Grow.setCell ?_ (by first | (simp; done) | (simp; omega)) _ | refine Grow.trans ?_ (by assumption)))) (GsR.nil (g := ve0) ve0_ok rfl rfl)
end Go.Proofs.YtjllaogechckoaaDoor
