/- Layer 45: the place that a text is. -/
import Derived.Test.YtjllaogechckoaaDoorW45t
namespace Go.Proofs.YtjllaogechckoaaDoor
open Go.RowKit
set_option linter.unusedSimpArgs false
set_option linter.unusedVariables false

/-- The text without its star; without its half; the half. -/
def cdA (s : Bs) : Bs := Lib.trimPrefix s [42]
def cdB (s : Bs) : Bs := if Lib.hasSuffix (cdA s) [46, 49] then Lib.trimSuffix (cdA s) [46, 49] else if Lib.hasSuffix (cdA s) [46, 50] then Lib.trimSuffix (cdA s) [46, 50] else cdA s
def cdF (s : Bs) : Int := if Lib.hasSuffix (cdA s) [46, 49] then 1 else if Lib.hasSuffix (cdA s) [46, 50] then 2 else 0
theorem cd_text : ∀ q ∈ allPl, Lib.hasPrefix (cdB (plText q)) [120] = true ∧ Lib.atoiAll (Lib.trimPrefix (cdB (plText q)) [120]) = .ok q.loc ∧ Lib.hasPrefix (plText q) [42] = q.deref ∧ cdF (plText q) = q.field := by decide +kernel
theorem cd_none {s : Bs} (h : ∀ n, Lib.hasPrefix (cdB s) [120] = true → Lib.atoiAll (Lib.trimPrefix (cdB s) [120]) = .ok n → plOk ⟨n, Lib.hasPrefix s [42], cdF s⟩ = true → plText ⟨n, Lib.hasPrefix s [42], cdF s⟩ = s → False) : plD s = ⟨0, false, 0⟩ ∧ plE s = 12 := by
  refine plFind_miss (fun p hp e => ?_)
  obtain ⟨h1, h2, h3, h4⟩ := cd_text p hp
  rw [e] at h1 h2 h3 h4
  have e2 : (⟨p.loc, Lib.hasPrefix s [42], cdF s⟩ : Pl) = p := by rw [h3, h4]
  exact h p.loc h1 h2 (by rw [e2]; exact allPl_ok p hp) (by rw [e2]; exact e)
theorem cd_some {s : Bs} {p : Pl} (h1 : plOk p = true) (h2 : plText p = s) : plD s = p ∧ plE s = 0 := plFind_hit (mem_allPl h1) h2
theorem trimP_len (s p : Bs) : (Lib.trimPrefix s p).length ≤ s.length := by unfold Lib.trimPrefix; split <;> simp
theorem trimS_len (s p : Bs) : (Lib.trimSuffix s p).length ≤ s.length := by unfold Lib.trimSuffix; split <;> simp <;> omega
theorem cdB_len (s : Bs) : (cdB s).length ≤ s.length := by
  have h1 := trimP_len s [42]
  unfold cdB cdA
  split
  · exact Nat.le_trans (trimS_len _ _) h1
  · split
    · exact Nat.le_trans (trimS_len _ _) h1
    · exact h1
theorem atoi_i64 {l : Bs} {n : Int} (h : Lib.atoiAll l = .ok n) : I64 n := by
  unfold Lib.atoiAll at h
  cases l with
  | nil => cases h
  | cons c r =>
    simp only at h
    split at h
    · cases h
    · cases h
    · split at h
      · cases h
      · split at h
        · cases h
        · rename_i u _ h1 h2
          injection h with h
          unfold I64
          by_cases hc : c.toNat = 45
          · simp [hc] at h h2; omega
          · simp [hc] at h h1; omega
set_option maxRecDepth 100000 in
set_option maxHeartbeats 4000000 in
theorem place_Read (s : Bs) (hs : s.length ≤ 1000000) (w : World) (hw : Laid w) : Calls Tryd.prog 59 #[.string (str s)] w (Ret w (.tuple #[(plD s).v, .int .i64 (plE s)])) := by
  have hA : (cdA s).length ≤ 1000000 := Nat.le_trans (trimP_len _ _) hs
  have hB : (Lib.trimPrefix (cdB s) [120]).length ≤ 1000000 := Nat.le_trans (trimP_len _ _) (Nat.le_trans (cdB_len s) hs)
  have Hn := Lib.hid (cd_none (s := s))
  have Hs := Lib.hid (fun p => cd_some (s := s) (p := p))
  obtain ⟨B, HB⟩ : ∃ B, Hid (cdB s = B) := ⟨_, Lib.hid rfl⟩
  obtain ⟨f, HF⟩ : ∃ f, Hid (cdF s = f) := ⟨_, Lib.hid rfl⟩
  obtain ⟨d, HD⟩ : ∃ d, Hid (Lib.hasPrefix s [42] = d) := ⟨_, Lib.hid rfl⟩
  have HC0 : Hid (∀ w, Calls Tryd.prog 71 #[.string (str s), .string ⟨#[42]⟩] w (Ret w (.tuple #[.string (str (cdA s)), .bool d]))) := Lib.hid (fun w => by have := cutP_c s [42] w; rw [HD.out] at this; exact this)
  obtain ⟨A, HA⟩ : ∃ A, Hid (cdA s = A) := ⟨_, Lib.hid rfl⟩
  have hBe := HB.out
  have hFe := HF.out
  unfold cdB at hBe
  unfold cdF at hFe
  rw [HA.out] at HC0 hA hBe hFe
  rw [HB.out] at hB Hn
  rw [HF.out, HD.out] at Hn
  have hf : U8 f := by
    rw [← hFe]; split
    · exact ⟨by decide, by decide⟩
    · split <;> exact ⟨by decide, by decide⟩
  obtain ⟨D, HDg⟩ : ∃ D, Hid (Lib.trimPrefix B [120] = D) := ⟨_, Lib.hid rfl⟩
  rw [HDg.out] at hB Hn
  have HC3 : Hid (∀ w, Calls Tryd.prog 71 #[.string (str B), .string ⟨#[120]⟩] w (Ret w (.tuple #[.string (str D), .bool (Lib.hasPrefix B [120])]))) := Lib.hid (fun w => by have := cutP_c B [120] w; rw [HDg.out] at this; exact this)
  have HC1 : Hid (∀ w, Calls Tryd.prog 72 #[.string (str A), .string ⟨#[46, 49]⟩] w (Ret w (.tuple #[.string (str (Lib.trimSuffix A [46, 49])), .bool (Lib.hasSuffix A [46, 49])]))) := Lib.hid (fun w => cutS_c A [46, 49] (by omega) w)
  have HC2 : Hid (∀ w, Calls Tryd.prog 72 #[.string (str A), .string ⟨#[46, 50]⟩] w (Ret w (.tuple #[.string (str (Lib.trimSuffix A [46, 50])), .bool (Lib.hasSuffix A [46, 50])]))) := Lib.hid (fun w => cutS_c A [46, 50] (by omega) w)
  have HAt := Lib.hid (fun w hw => atoi_c D (by omega) w hw)
  have HT : Hid (∀ n w, I64 n → Calls Tryd.prog 28 #[.agg #[.int .i64 n, .bool d, .int .u8 f]] w (Ret w (.tuple #[.string (str (if plOk ⟨n, d, f⟩ then plText ⟨n, d, f⟩ else [])), .int .i64 (if plOk ⟨n, d, f⟩ then 0 else 8)]))) := Lib.hid (fun n w hn => place_Text ⟨n, d, f⟩ ⟨hn, hf⟩ w)
  have HCk : Hid (∀ n w, I64 n → Calls Tryd.prog 35 #[.agg #[.int .i64 n, .bool d, .int .u8 f]] w (Ret w (.int .i64 (if plOk ⟨n, d, f⟩ then 0 else 8)))) := Lib.hid (fun n w hn => by rw [← plErr_0 (p := ⟨n, d, f⟩) ⟨hn, hf⟩]; exact place_Check ⟨n, d, f⟩ w)
  clear HB HF HDg hA hB hf HD HA
  -- how the number ends
  have hat : (∃ n, Lib.atoiAll D = .ok n ∧ I64 n) ∨ (∀ m, Lib.atoiAll D ≠ .ok m) := by
    cases h : Lib.atoiAll D with
    | ok n => exact Or.inl ⟨n, rfl, atoi_i64 h⟩
    | «syntax» => exact Or.inr (fun m hm => by cases hm)
    | range => exact Or.inr (fun m hm => by cases hm)
  rcases hat with ⟨n, hn, hn64⟩ | hno
  · have HAk : Hid (∀ w, Laid w → Calls Tryd.prog 73 #[.string (str D)] w (Ret w (.tuple #[.int .i64 n, .nilIface]))) := Lib.hid (fun w hw => (HAt.out w hw).mono (by
      rintro e w' ⟨_, rfl, ⟨m, v, rfl, h⟩, hg⟩
      rcases h with ⟨h, rfl⟩ | ⟨h, _⟩
      · rw [hn] at h; injection h with h; subst h; exact ⟨rfl, hg⟩
      · exact absurd hn (h n)))
    have Hn' := Lib.hid hn
    have Hn64 := Lib.hid hn64
    clear HAt hn hn64
    obtain ⟨ok, Hok⟩ : ∃ ok, Hid (plOk ⟨n, d, f⟩ = ok) := ⟨_, Lib.hid rfl⟩
    obtain ⟨t, Ht⟩ : ∃ t, Hid (plText ⟨n, d, f⟩ = t) := ⟨_, Lib.hid rfl⟩
    have HCkn : Hid (∀ w, Calls Tryd.prog 35 #[.agg #[.int .i64 n, .bool d, .int .u8 f]] w (Ret w (.int .i64 (if ok then 0 else 8)))) := Lib.hid (fun w => by rw [← Hok.out]; exact HCk.out n w Hn64.out)
    clear HCk
    cases hx : Lib.hasPrefix B [120]
    · have Hm := Lib.hid (Hn.out (fun m h1 => by rw [hx] at h1; cases h1))
      rw [hx] at HC3
      clear Hn Hs HT HCkn
      cases hs1 : Lib.hasSuffix A [46, 49]
      all_goals cases hs2 : Lib.hasSuffix A [46, 50]
      all_goals
        simp only [hs1, hs2, Bool.false_eq_true, if_true, if_false] at hBe hFe
        rw [hs1] at HC1
        rw [hs2] at HC2
        subst hBe hFe
        go_enter Tryd.func59, Tryd.ntmps59
        go_wp2_with (first
          | (go_at_call 71; ((with_reducible refine (HC0.out _).mono ?_); rintro e w1 ⟨rfl, hb1⟩; obtain ⟨x1, rfl⟩ := ext_of_grow hb1; clear hb1))
          | (go_at_call 71; ((with_reducible refine (HC3.out _).mono ?_); rintro e w2 ⟨rfl, hb2⟩; obtain ⟨x2, rfl⟩ := ext_of_grow hb2; clear hb2))
          | (go_at_call 72; ((with_reducible refine (HC1.out _).mono ?_); rintro e w3 ⟨rfl, hb3⟩; obtain ⟨x3, rfl⟩ := ext_of_grow hb3; clear hb3))
          | (go_at_call 72; ((with_reducible refine (HC2.out _).mono ?_); rintro e w4 ⟨rfl, hb4⟩; obtain ⟨x4, rfl⟩ := ext_of_grow hb4; clear hb4))
          | (go_at_call 73; ((with_reducible refine (HAk.out _ (hw.grow (by (repeat (first | (with_reducible exact Grow.refl _) | assumption | refine Grow.ext ?_ _ | refine Grow.alloc ?_ _ | refine Grow.drew ?_ | refine Grow.setCell ?_ (by first | (simp; done) | (simp; omega)) _ | refine Grow.trans ?_ (by assumption)))))).mono ?_); rintro e w5 ⟨rfl, hb5⟩; obtain ⟨x5, rfl⟩ := ext_of_grow hb5; clear hb5)))
        ((try simp only [Exit.inBlock, Exit.then]); refine post_of (by simp only [results, Tryd.results59]; go_simp; rfl) rfl (by (repeat (first | (with_reducible exact Grow.refl _) | assumption | refine Grow.ext ?_ _ | refine Grow.alloc ?_ _ | refine Grow.drew ?_ | refine Grow.setCell ?_ (by first | (simp; done) | (simp; omega)) _ | refine Grow.trans ?_ (by assumption)))) ?_)
        rw [Hm.out.1, Hm.out.2]
    · rw [hx] at HC3
      cases ok
      · have Hm := Lib.hid (Hn.out (fun m h1 h2 h3 => by rw [Hn'.out] at h2; injection h2 with h2; subst h2; rw [Hok.out] at h3; cases h3))
        simp only [Bool.false_eq_true, if_false] at HCkn
        clear Hn Hs HT
        cases hs1 : Lib.hasSuffix A [46, 49]
        all_goals cases hs2 : Lib.hasSuffix A [46, 50]
        all_goals
          simp only [hs1, hs2, Bool.false_eq_true, if_true, if_false] at hBe hFe
          rw [hs1] at HC1
          rw [hs2] at HC2
          subst hBe hFe
          go_enter Tryd.func59, Tryd.ntmps59
          go_wp2_with (first
            | (go_at_call 71; ((with_reducible refine (HC0.out _).mono ?_); rintro e w1 ⟨rfl, hb1⟩; obtain ⟨x1, rfl⟩ := ext_of_grow hb1; clear hb1))
            | (go_at_call 71; ((with_reducible refine (HC3.out _).mono ?_); rintro e w2 ⟨rfl, hb2⟩; obtain ⟨x2, rfl⟩ := ext_of_grow hb2; clear hb2))
            | (go_at_call 72; ((with_reducible refine (HC1.out _).mono ?_); rintro e w3 ⟨rfl, hb3⟩; obtain ⟨x3, rfl⟩ := ext_of_grow hb3; clear hb3))
            | (go_at_call 72; ((with_reducible refine (HC2.out _).mono ?_); rintro e w4 ⟨rfl, hb4⟩; obtain ⟨x4, rfl⟩ := ext_of_grow hb4; clear hb4))
            | (go_at_call 73; ((with_reducible refine (HAk.out _ (hw.grow (by (repeat (first | (with_reducible exact Grow.refl _) | assumption | refine Grow.ext ?_ _ | refine Grow.alloc ?_ _ | refine Grow.drew ?_ | refine Grow.setCell ?_ (by first | (simp; done) | (simp; omega)) _ | refine Grow.trans ?_ (by assumption)))))).mono ?_); rintro e w5 ⟨rfl, hb5⟩; obtain ⟨x5, rfl⟩ := ext_of_grow hb5; clear hb5))
            | (go_at_call 35; ((with_reducible refine (HCkn.out _).mono ?_); rintro e w6 ⟨rfl, hb6⟩; obtain ⟨x6, rfl⟩ := ext_of_grow hb6; clear hb6)))
          ((try simp only [Exit.inBlock, Exit.then]); refine post_of (by simp only [results, Tryd.results59]; go_simp; rfl) rfl (by (repeat (first | (with_reducible exact Grow.refl _) | assumption | refine Grow.ext ?_ _ | refine Grow.alloc ?_ _ | refine Grow.drew ?_ | refine Grow.setCell ?_ (by first | (simp; done) | (simp; omega)) _ | refine Grow.trans ?_ (by assumption)))) ?_)
          rw [Hm.out.1, Hm.out.2]
      · have HTn : Hid (∀ w, Calls Tryd.prog 28 #[.agg #[.int .i64 n, .bool d, .int .u8 f]] w (Ret w (.tuple #[.string (str t), .int .i64 0]))) := Lib.hid (fun w => by have := HT.out n w Hn64.out; rw [Hok.out, Ht.out] at this; exact this)
        clear HT
        simp only [if_true] at HCkn
        cases heq : (t == s)
        · have Hm := Lib.hid (Hn.out (fun m h1 h2 h3 h4 => by rw [Hn'.out] at h2; injection h2 with h2; subst h2; rw [Ht.out] at h4; exact beq_eq_false_iff_ne.1 heq h4))
          clear Hn Hs
          cases hs1 : Lib.hasSuffix A [46, 49]
          all_goals cases hs2 : Lib.hasSuffix A [46, 50]
          all_goals
            simp only [hs1, hs2, Bool.false_eq_true, if_true, if_false] at hBe hFe
            rw [hs1] at HC1
            rw [hs2] at HC2
            subst hBe hFe
            go_enter Tryd.func59, Tryd.ntmps59
            go_wp2_with (first
              | (go_at_call 71; ((with_reducible refine (HC0.out _).mono ?_); rintro e w1 ⟨rfl, hb1⟩; obtain ⟨x1, rfl⟩ := ext_of_grow hb1; clear hb1))
              | (go_at_call 71; ((with_reducible refine (HC3.out _).mono ?_); rintro e w2 ⟨rfl, hb2⟩; obtain ⟨x2, rfl⟩ := ext_of_grow hb2; clear hb2))
              | (go_at_call 72; ((with_reducible refine (HC1.out _).mono ?_); rintro e w3 ⟨rfl, hb3⟩; obtain ⟨x3, rfl⟩ := ext_of_grow hb3; clear hb3))
              | (go_at_call 72; ((with_reducible refine (HC2.out _).mono ?_); rintro e w4 ⟨rfl, hb4⟩; obtain ⟨x4, rfl⟩ := ext_of_grow hb4; clear hb4))
              | (go_at_call 73; ((with_reducible refine (HAk.out _ (hw.grow (by (repeat (first | (with_reducible exact Grow.refl _) | assumption | refine Grow.ext ?_ _ | refine Grow.alloc ?_ _ | refine Grow.drew ?_ | refine Grow.setCell ?_ (by first | (simp; done) | (simp; omega)) _ | refine Grow.trans ?_ (by assumption)))))).mono ?_); rintro e w5 ⟨rfl, hb5⟩; obtain ⟨x5, rfl⟩ := ext_of_grow hb5; clear hb5))
              | (go_at_call 35; ((with_reducible refine (HCkn.out _).mono ?_); rintro e w6 ⟨rfl, hb6⟩; obtain ⟨x6, rfl⟩ := ext_of_grow hb6; clear hb6))
              | (go_at_call 28; ((with_reducible refine (HTn.out _).mono ?_); rintro e w7 ⟨rfl, hb7⟩; obtain ⟨x7, rfl⟩ := ext_of_grow hb7; clear hb7)))
            ((try simp only [Exit.inBlock, Exit.then]); refine post_of (by simp only [results, Tryd.results59]; go_simp; rfl) rfl (by (repeat (first | (with_reducible exact Grow.refl _) | assumption | refine Grow.ext ?_ _ | refine Grow.alloc ?_ _ | refine Grow.drew ?_ | refine Grow.setCell ?_ (by first | (simp; done) | (simp; omega)) _ | refine Grow.trans ?_ (by assumption)))) ?_)
            rw [Hm.out.1, Hm.out.2]
        · have hts : t = s := beq_iff_eq.1 heq
          have Hm := Lib.hid (Hs.out ⟨n, d, f⟩ Hok.out (Ht.out.trans hts))
          clear hts Hn Hs
          cases hs1 : Lib.hasSuffix A [46, 49]
          all_goals cases hs2 : Lib.hasSuffix A [46, 50]
          all_goals
            simp only [hs1, hs2, Bool.false_eq_true, if_true, if_false] at hBe hFe
            rw [hs1] at HC1
            rw [hs2] at HC2
            subst hBe hFe
            go_enter Tryd.func59, Tryd.ntmps59
            go_wp2_with (first
              | (go_at_call 71; ((with_reducible refine (HC0.out _).mono ?_); rintro e w1 ⟨rfl, hb1⟩; obtain ⟨x1, rfl⟩ := ext_of_grow hb1; clear hb1))
              | (go_at_call 71; ((with_reducible refine (HC3.out _).mono ?_); rintro e w2 ⟨rfl, hb2⟩; obtain ⟨x2, rfl⟩ := ext_of_grow hb2; clear hb2))
              | (go_at_call 72; ((with_reducible refine (HC1.out _).mono ?_); rintro e w3 ⟨rfl, hb3⟩; obtain ⟨x3, rfl⟩ := ext_of_grow hb3; clear hb3))
              | (go_at_call 72; ((with_reducible refine (HC2.out _).mono ?_); rintro e w4 ⟨rfl, hb4⟩; obtain ⟨x4, rfl⟩ := ext_of_grow hb4; clear hb4))
              | (go_at_call 73; ((with_reducible refine (HAk.out _ (hw.grow (by (repeat (first | (with_reducible exact Grow.refl _) | assumption | refine Grow.ext ?_ _ | refine Grow.alloc ?_ _ | refine Grow.drew ?_ | refine Grow.setCell ?_ (by first | (simp; done) | (simp; omega)) _ | refine Grow.trans ?_ (by assumption)))))).mono ?_); rintro e w5 ⟨rfl, hb5⟩; obtain ⟨x5, rfl⟩ := ext_of_grow hb5; clear hb5))
              | (go_at_call 35; ((with_reducible refine (HCkn.out _).mono ?_); rintro e w6 ⟨rfl, hb6⟩; obtain ⟨x6, rfl⟩ := ext_of_grow hb6; clear hb6))
              | (go_at_call 28; ((with_reducible refine (HTn.out _).mono ?_); rintro e w7 ⟨rfl, hb7⟩; obtain ⟨x7, rfl⟩ := ext_of_grow hb7; clear hb7)))
            ((try simp only [Exit.inBlock, Exit.then]); refine post_of (by simp only [results, Tryd.results59]; go_simp; rfl) rfl (by (repeat (first | (with_reducible exact Grow.refl _) | assumption | refine Grow.ext ?_ _ | refine Grow.alloc ?_ _ | refine Grow.drew ?_ | refine Grow.setCell ?_ (by first | (simp; done) | (simp; omega)) _ | refine Grow.trans ?_ (by assumption)))) ?_)
            rw [Hm.out.1, Hm.out.2]
  · have HAk : Hid (∀ w, Laid w → Calls Tryd.prog 73 #[.string (str D)] w (RetP w fun v w' => ∃ m N, v = .tuple #[.int .i64 m, .iface 126 (.pointer (some ⟨N, 0, none⟩))])) := Lib.hid (fun w hw => (HAt.out w hw).mono (by
      rintro e w' ⟨_, rfl, ⟨m, v, rfl, h⟩, hg⟩
      rcases h with ⟨h, rfl⟩ | ⟨_, N, rfl⟩
      · exact absurd h (hno m)
      · exact ⟨_, rfl, ⟨m, N, rfl⟩, hg⟩))
    have Hm := Lib.hid (Hn.out (fun m h1 h2 => absurd h2 (hno m)))
    clear HAt hno Hn Hs HT HCk
    cases hx : Lib.hasPrefix B [120]
    all_goals rw [hx] at HC3
    all_goals
      cases hs1 : Lib.hasSuffix A [46, 49]
      all_goals cases hs2 : Lib.hasSuffix A [46, 50]
      all_goals
        simp only [hs1, hs2, Bool.false_eq_true, if_true, if_false] at hBe hFe
        rw [hs1] at HC1
        rw [hs2] at HC2
        subst hBe hFe
        go_enter Tryd.func59, Tryd.ntmps59
        go_wp2_with (first
          | (go_at_call 71; ((with_reducible refine (HC0.out _).mono ?_); rintro e w1 ⟨rfl, hb1⟩; obtain ⟨x1, rfl⟩ := ext_of_grow hb1; clear hb1))
          | (go_at_call 71; ((with_reducible refine (HC3.out _).mono ?_); rintro e w2 ⟨rfl, hb2⟩; obtain ⟨x2, rfl⟩ := ext_of_grow hb2; clear hb2))
          | (go_at_call 72; ((with_reducible refine (HC1.out _).mono ?_); rintro e w3 ⟨rfl, hb3⟩; obtain ⟨x3, rfl⟩ := ext_of_grow hb3; clear hb3))
          | (go_at_call 72; ((with_reducible refine (HC2.out _).mono ?_); rintro e w4 ⟨rfl, hb4⟩; obtain ⟨x4, rfl⟩ := ext_of_grow hb4; clear hb4))
          | (go_at_call 73; ((with_reducible refine (HAk.out _ (hw.grow (by (repeat (first | (with_reducible exact Grow.refl _) | assumption | refine Grow.ext ?_ _ | refine Grow.alloc ?_ _ | refine Grow.drew ?_ | refine Grow.setCell ?_ (by first | (simp; done) | (simp; omega)) _ | refine Grow.trans ?_ (by assumption)))))).mono ?_); rintro e w5 ⟨_, rfl, ⟨m, N, rfl⟩, hb5⟩; obtain ⟨x5, rfl⟩ := ext_of_grow hb5; clear hb5)))
        ((try simp only [Exit.inBlock, Exit.then]); refine post_of (by simp only [results, Tryd.results59]; go_simp; rfl) rfl (by (repeat (first | (with_reducible exact Grow.refl _) | assumption | refine Grow.ext ?_ _ | refine Grow.alloc ?_ _ | refine Grow.drew ?_ | refine Grow.setCell ?_ (by first | (simp; done) | (simp; omega)) _ | refine Grow.trans ?_ (by assumption)))) ?_)
        rw [Hm.out.1, Hm.out.2]
end Go.Proofs.YtjllaogechckoaaDoor
