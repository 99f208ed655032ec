/- Layer 13: placing. -/
import Derived.Test.YthackfblfkpddaaL13b
namespace Go.Proofs.Ythackfblfkpddaa
open Go.RowKit
set_option linter.unusedSimpArgs false
set_option linter.unusedVariables false

def tyOut (o : Option Ty) : Ty × Int := match o with | none => (⟨0, 0⟩, 42) | some u => (u, 0)
def plaTy (ts : List Ty) (p : Pl) : Ty × Int := if plaErr ts p ≠ 0 then (⟨0, 0⟩, plaErr ts p) else tyOut (typed (locAt ts p) p)
def plaWr (ts : List Ty) (p : Pl) : Int := if (plaTy ts p).2 ≠ 0 then (plaTy ts p).2 else if p.deref = true ∧ (locAt ts p).kind = 3 then 42 else 0
theorem plaErr_ok {ts : List Ty} {p : Pl} (h : plaErr ts p = 0) : LocOk ts = true ∧ PlOk p ∧ p.loc < ts.length := by
  unfold plaErr at h
  by_cases h1 : ¬ LocOk ts = true ∨ ¬ PlOk p
  · rw [if_pos h1] at h; omega
  rw [if_neg h1] at h
  by_cases h2 : (ts.length : Int) ≤ p.loc
  · rw [if_pos h2] at h; omega
  exact ⟨by cases e : LocOk ts <;> simp_all, by by_cases e : PlOk p; exact e; exact absurd (Or.inr e) h1, by omega⟩
theorem askedR_pla (ts : List Ty) (p : Pl) (h : 0 ≤ p.field) : askedR ts p = (plaTy ts p).2 := by
  unfold askedR plaTy plaErr
  rw [typedR_eq _ _ h]
  by_cases h1 : LocOk ts = true
  · by_cases h2 : PlOk p
    · rw [if_neg (by rintro (q | q); rw [h1] at q; cases q; exact q h2), if_neg (c := ¬ LocOk ts = true ∨ ¬ PlOk p) (by rintro (q | q); exact q h1; exact q h2)]
      by_cases h3 : (ts.length : Int) ≤ p.loc
      · rw [if_pos h3, if_pos h3, if_pos (by decide)]
      · rw [if_neg h3, if_neg h3]; cases typed (locAt ts p) p <;> simp [tyOut]
    · rw [if_pos (Or.inr h2), if_pos (c := ¬ LocOk ts = true ∨ ¬ PlOk p) (Or.inr h2), if_pos (by decide)]
  · have h1' : LocOk ts = false := by simpa using h1
    rw [if_pos (Or.inl h1'), if_pos (c := ¬ LocOk ts = true ∨ ¬ PlOk p) (Or.inl h1), if_pos (by decide)]
theorem tyR_eq (ts : List Ty) (p : Pl) (h : 0 ≤ p.field) : tyR ts p = plaTy ts p := by
  have e := askedR_pla ts p h
  unfold tyR
  rw [e, typedR_eq _ _ h]
  unfold plaTy
  by_cases h1 : plaErr ts p = 0
  · simp only [h1]; cases typed (locAt ts p) p <;> simp [tyOut]
  · simp [h1]
theorem writeR_eq (ts : List Ty) (p : Pl) (h : 0 ≤ p.field) : writeR ts p = plaWr ts p := by
  unfold writeR plaWr; rw [askedR_pla ts p h]

set_option maxHeartbeats 400000 in
theorem placing_Type (v : Value) (ts : List Ty) (p : Pl) (w : World) {F : Nat → Prop} (hv : Sl F w v ts) :
    Calls Try.prog 55 #[v, p.v] w (Ret w (.tuple #[(plaTy ts p).1.v, .int .i64 (plaTy ts p).2])) := by
  by_cases h : plaErr ts p = 0
  · obtain ⟨h1, h2, h3⟩ := plaErr_ok h
    obtain ⟨a, n, cap, rfl, Hn, hm, hcap, hcm, hv⟩ := hv.open
    rw [← Hn.out] at h3
    obtain ⟨l, d, f⟩ := p
    obtain ⟨k, rfl⟩ := Int.eq_ofNat_of_zero_le h2.1
    have hlt : k < n := by simpa using h3
    obtain ⟨b_t, off_t, t, rfl, ⟨Hg_t, hl_t, hw_t, c_t0, c_t1, r_t0⟩⟩ := hv.ty k hlt
    have Ht := Lib.hid (locAt_eq (d := d) (f := f) Hg_t)
    have hto := locOk_at h1 Hg_t.out
    have hta : targetOf t = if t.to = 0 then (⟨0, 0⟩, 6) else (⟨t.to, 0⟩, 0) := by unfold targetOf; rw [if_neg (fun q => q hto)]
    have Hto := Lib.hid hto
    have hs : plaTy ts ⟨k, d, f⟩ = tyOut (typed t ⟨k, d, f⟩) := by
      unfold plaTy; rw [if_neg (by simpa using h), Ht.out]
    rw [hs]; clear hs hto
    cases d
    · clear hta
      go_enter Try.func55, Try.ntmps55
      go_wp2_with (first | (go_at_call 80; ((with_reducible refine (placing_check _ ts ⟨k, _, f⟩ _ (hv.mono (by (repeat (first | (with_reducible exact Grow.refl _) | assumption | refine Grow.ext ?_ _ | refine Grow.alloc ?_ _ | refine Grow.drew ?_ | refine Grow.setCell ?_ (by first | (simp; done) | (simp; omega)) _ | refine Grow.trans ?_ (by assumption)))))).mono ?_); rintro e w1 ⟨rfl, hb1⟩; obtain ⟨x1, rfl⟩ := ext_of_grow hb1; clear hb1)))
      all_goals ((try simp only [Exit.inBlock, Exit.then]); refine post_of (by simp only [results, Try.results55]; go_simp; rfl) rfl (by (repeat (first | (with_reducible exact Grow.refl _) | assumption | refine Grow.ext ?_ _ | refine Grow.alloc ?_ _ | refine Grow.drew ?_ | refine Grow.setCell ?_ (by first | (simp; done) | (simp; omega)) _ | refine Grow.trans ?_ (by assumption)))) ?_)
      all_goals (grind [typed, drf, tyOut])
    · by_cases hz : t.to = 0
      · rw [if_pos hz] at hta
        have Hz := Lib.hid hz; clear hz
        go_enter Try.func55, Try.ntmps55
        go_wp2_with (first | (go_at_call 80; ((with_reducible refine (placing_check _ ts ⟨k, _, f⟩ _ (hv.mono (by (repeat (first | (with_reducible exact Grow.refl _) | assumption | refine Grow.ext ?_ _ | refine Grow.alloc ?_ _ | refine Grow.drew ?_ | refine Grow.setCell ?_ (by first | (simp; done) | (simp; omega)) _ | refine Grow.trans ?_ (by assumption)))))).mono ?_); rintro e w1 ⟨rfl, hb1⟩; obtain ⟨x1, rfl⟩ := ext_of_grow hb1; clear hb1)) | (go_at_call 81; ((with_reducible refine (shape_Target t _).mono ?_); rintro e w2 ⟨rfl, hb2⟩; obtain ⟨x2, rfl⟩ := ext_of_grow hb2; clear hb2)))
        all_goals ((try simp only [Exit.inBlock, Exit.then]); refine post_of (by simp only [results, Try.results55]; go_simp; rfl) rfl (by (repeat (first | (with_reducible exact Grow.refl _) | assumption | refine Grow.ext ?_ _ | refine Grow.alloc ?_ _ | refine Grow.drew ?_ | refine Grow.setCell ?_ (by first | (simp; done) | (simp; omega)) _ | refine Grow.trans ?_ (by assumption)))) ?_)
        all_goals (have h5 := Hto.out; have h6 := Hz.out; clear c_t0 c_t1 r_t0; grind [typed, drf, tyOut])
      · rw [if_neg hz] at hta
        have Hz := Lib.hid hz; clear hz
        go_enter Try.func55, Try.ntmps55
        go_wp2_with (first | (go_at_call 80; ((with_reducible refine (placing_check _ ts ⟨k, _, f⟩ _ (hv.mono (by (repeat (first | (with_reducible exact Grow.refl _) | assumption | refine Grow.ext ?_ _ | refine Grow.alloc ?_ _ | refine Grow.drew ?_ | refine Grow.setCell ?_ (by first | (simp; done) | (simp; omega)) _ | refine Grow.trans ?_ (by assumption)))))).mono ?_); rintro e w1 ⟨rfl, hb1⟩; obtain ⟨x1, rfl⟩ := ext_of_grow hb1; clear hb1)) | (go_at_call 81; ((with_reducible refine (shape_Target t _).mono ?_); rintro e w2 ⟨rfl, hb2⟩; obtain ⟨x2, rfl⟩ := ext_of_grow hb2; clear hb2)))
        all_goals ((try simp only [Exit.inBlock, Exit.then]); refine post_of (by simp only [results, Try.results55]; go_simp; rfl) rfl (by (repeat (first | (with_reducible exact Grow.refl _) | assumption | refine Grow.ext ?_ _ | refine Grow.alloc ?_ _ | refine Grow.drew ?_ | refine Grow.setCell ?_ (by first | (simp; done) | (simp; omega)) _ | refine Grow.trans ?_ (by assumption)))) ?_)
        all_goals (have h5 := Hto.out; have h6 := Hz.out; clear c_t0 c_t1 r_t0; have h7 : 3 ≤ t.kind := (by omega); grind [typed, drf, tyOut])
  · have hs : plaTy ts p = (⟨0, 0⟩, plaErr ts p) := by unfold plaTy; rw [if_pos h]
    rw [hs]; clear hs
    have h' : (plaErr ts p != 0) = true := by simpa using h
    clear h
    go_enter Try.func55, Try.ntmps55
    go_wp2_with (first | (go_at_call 80; ((with_reducible refine (placing_check _ ts p _ (hv.mono (by (repeat (first | (with_reducible exact Grow.refl _) | assumption | refine Grow.ext ?_ _ | refine Grow.alloc ?_ _ | refine Grow.drew ?_ | refine Grow.setCell ?_ (by first | (simp; done) | (simp; omega)) _ | refine Grow.trans ?_ (by assumption)))))).mono ?_); rintro e w1 ⟨rfl, hb1⟩; obtain ⟨x1, rfl⟩ := ext_of_grow hb1; clear hb1)))
    all_goals ((try simp only [Exit.inBlock, Exit.then]); refine post_of (by simp only [results, Try.results55]; go_simp; rfl) rfl (by (repeat (first | (with_reducible exact Grow.refl _) | assumption | refine Grow.ext ?_ _ | refine Grow.alloc ?_ _ | refine Grow.drew ?_ | refine Grow.setCell ?_ (by first | (simp; done) | (simp; omega)) _ | refine Grow.trans ?_ (by assumption)))) ?_)
    all_goals rfl

theorem plaTy_ok {ts : List Ty} {p : Pl} (h : (plaTy ts p).2 = 0) : plaErr ts p = 0 := by
  unfold plaTy at h; by_cases h1 : plaErr ts p = 0; exact h1; rw [if_pos h1] at h; exact h

set_option maxHeartbeats 400000 in
theorem placing_Write (v : Value) (ts : List Ty) (p : Pl) (w : World) {F : Nat → Prop} (hv : Sl F w v ts) :
    Calls Try.prog 63 #[v, p.v] w (Ret w (.int .i64 (plaWr ts p))) := by
  by_cases h : (plaTy ts p).2 = 0
  · obtain ⟨h1, h2, h3⟩ := plaErr_ok (plaTy_ok h)
    obtain ⟨a, n, cap, rfl, Hn, hm, hcap, hcm, hv⟩ := hv.open
    rw [← Hn.out] at h3
    obtain ⟨l, d, f⟩ := p
    obtain ⟨k, rfl⟩ := Int.eq_ofNat_of_zero_le h2.1
    have hlt : k < n := by simpa using h3
    obtain ⟨b_t, off_t, t, rfl, ⟨Hg_t, hl_t, hw_t, c_t0, c_t1, r_t0⟩⟩ := hv.ty k hlt
    have Ht := Lib.hid (locAt_eq (d := d) (f := f) Hg_t)
    have He : Hid (plaWr ts ⟨k, d, f⟩ = if d = true ∧ t.kind = 3 then 42 else 0) := by
      show plaWr _ _ = _; unfold plaWr; rw [if_neg (by simpa using h), Ht.out]
    cases d
    all_goals
      go_enter Try.func63, Try.ntmps63
      go_wp2_with (first | (go_at_call 55; ((with_reducible refine (placing_Type _ ts ⟨k, _, f⟩ _ (hv.mono (by (repeat (first | (with_reducible exact Grow.refl _) | assumption | refine Grow.ext ?_ _ | refine Grow.alloc ?_ _ | refine Grow.drew ?_ | refine Grow.setCell ?_ (by first | (simp; done) | (simp; omega)) _ | refine Grow.trans ?_ (by assumption)))))).mono ?_); rintro e w1 ⟨rfl, hb1⟩; obtain ⟨x1, rfl⟩ := ext_of_grow hb1; clear hb1)))
    all_goals go_ret
    all_goals (refine Ret.int ?_ (by (repeat (first | (with_reducible exact Grow.refl _) | assumption | refine Grow.ext ?_ _ | refine Grow.alloc ?_ _ | refine Grow.drew ?_ | refine Grow.setCell ?_ (by first | (simp; done) | (simp; omega)) _ | refine Grow.trans ?_ (by assumption)))))
    all_goals (rw [He.out]; grind)
  · have hs : plaWr ts p = (plaTy ts p).2 := by unfold plaWr; rw [if_pos h]
    rw [hs]; clear hs
    have h' : ((plaTy ts p).2 != 0) = true := by simpa using h
    clear h
    go_enter Try.func63, Try.ntmps63
    go_wp2_with (first | (go_at_call 55; ((with_reducible refine (placing_Type _ ts p _ (hv.mono (by (repeat (first | (with_reducible exact Grow.refl _) | assumption | refine Grow.ext ?_ _ | refine Grow.alloc ?_ _ | refine Grow.drew ?_ | refine Grow.setCell ?_ (by first | (simp; done) | (simp; omega)) _ | refine Grow.trans ?_ (by assumption)))))).mono ?_); rintro e w1 ⟨rfl, hb1⟩; obtain ⟨x1, rfl⟩ := ext_of_grow hb1; clear hb1)))
    all_goals go_ret
    all_goals (exact Ret.int rfl (by (repeat (first | (with_reducible exact Grow.refl _) | assumption | refine Grow.ext ?_ _ | refine Grow.alloc ?_ _ | refine Grow.drew ?_ | refine Grow.setCell ?_ (by first | (simp; done) | (simp; omega)) _ | refine Grow.trans ?_ (by assumption)))))
end Go.Proofs.Ythackfblfkpddaa
