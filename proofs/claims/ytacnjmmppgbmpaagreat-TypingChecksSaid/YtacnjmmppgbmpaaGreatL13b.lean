/- Layer 13: types of places. -/
import Derived.Test.YtacnjmmppgbmpaaGreatL13
namespace Go.Proofs.YtacnjmmppgbmpaaGreat
open Go.RowKit
set_option linter.unusedSimpArgs false
set_option linter.unusedVariables false

def drf (t : Ty) (d : Bool) : Option Ty := if d = true then (if 3 ≤ t.kind then some ⟨t.to, 0⟩ else none) else some t
def typedR (t : Ty) (p : Pl) : Option Ty := match drf t p.deref with | none => none | some u => if 0 < p.field then (if u.kind = 2 then some ⟨1, 0⟩ else none) else some u
def typed (t : Ty) (p : Pl) : Option Ty := match drf t p.deref with | none => none | some u => if p.field = 0 then some u else (if u.kind = 2 then some ⟨1, 0⟩ else none)
theorem typedR_eq (t : Ty) (p : Pl) (h : 0 ≤ p.field) : typedR t p = typed t p := by
  unfold typedR typed; cases drf t p.deref <;> grind
abbrev optTy (o : Option Ty) : Ty := o.getD ⟨0, 0⟩
def locAt (ts : List Ty) (p : Pl) : Ty := ts.getD p.loc.toNat ⟨0, 0⟩
theorem locAt_eq {ts : List Ty} {k : Nat} {d : Bool} {f : Int} {t : Ty} (h : Hid (ts[k]? = some t)) : locAt ts ⟨k, d, f⟩ = t := by
  unfold locAt; simp [List.getD_eq_getElem?_getD, h.out]
theorem locErr_or (t : List Ty) : locErr t = 0 ∨ locErr t = 8 := by unfold locErr; split <;> simp
theorem locErr_iff (t : List Ty) : locErr t = 0 ↔ LocOk t = true := by unfold locErr; split <;> simp_all
theorem locOk_at {ts : List Ty} {t : Ty} {k : Nat} (h : LocOk ts = true) (ht : ts[k]? = some t) : TyOk t := by
  unfold LocOk at h; simp only [Bool.and_eq_true, List.all_eq_true] at h; exact of_decide_eq_true (h.2 _ (List.mem_of_getElem? ht))

set_option maxHeartbeats 400000 in
theorem ref13_Typed (v : Value) (ts : List Ty) (p : Pl) (w : World) {F : Nat → Prop} (hv : Sl F w v ts) (h0 : 0 ≤ p.loc) (hp : p.loc < ts.length) :
    Calls Tryz.prog 94 #[v, p.v] w (Ret w (.tuple #[(optTy (typedR (locAt ts p) p)).v, .bool (typedR (locAt ts p) p).isSome])) := by
  obtain ⟨a, n, cap, rfl, Hn, hm, hcap, hcm, hv⟩ := hv.open
  obtain ⟨l, d, f⟩ := p
  obtain ⟨k, rfl⟩ := Int.eq_ofNat_of_zero_le h0
  have hlt : k < n := by rw [Hn.out]; simpa using hp
  obtain ⟨b_t, off_t, t, rfl, ⟨Hg_t, hl_t, hw_t, c_t0, c_t1, r_t0⟩⟩ := hv.ty k hlt
  rw [locAt_eq Hg_t]
  clear hp h0
  cases d
  all_goals
    go_enter Tryz.func94, Tryz.ntmps94
    go_wp2_with (first | (go_at_call 76; ((with_reducible refine (ref02_Pointer t _).mono ?_); rintro e w1 ⟨rfl, hb1⟩; obtain ⟨x1, rfl⟩ := ext_of_grow hb1; clear hb1)))
  all_goals ((try simp only [Exit.inBlock, Exit.then]); refine post_of (by simp only [results, Tryz.results94]; go_simp; rfl) rfl (by (repeat (first | (with_reducible exact Grow.refl _) | assumption | refine Grow.ext ?_ _ | refine Grow.alloc ?_ _ | refine Grow.drew ?_ | refine Grow.setCell ?_ (by first | (simp; done) | (simp; omega)) _ | refine Grow.trans ?_ (by assumption)))) ?_)
  all_goals (grind [typedR, drf])

def askedR (ts : List Ty) (p : Pl) : Int := if LocOk ts = false ∨ ¬ PlOk p then 8 else if ts.length ≤ p.loc then 6 else if (typedR (locAt ts p) p).isNone then 42 else 0

set_option maxHeartbeats 400000 in
theorem ref13_Asked (v : Value) (ts : List Ty) (p : Pl) (w : World) {F : Nat → Prop} (hv : Sl F w v ts) :
    Calls Tryz.prog 93 #[v, p.v] w (Ret w (.int .i64 (askedR ts p))) := by
  obtain ⟨a, n, cap, rfl, Hn, hm, hcap, hcm, hv⟩ := hv.open
  have Hl := Lib.hid (locErr_iff ts)
  have Hp := Lib.hid (plErr_iff p)
  rcases locErr_or ts with hl | hl
  · rcases plErr_or p with hp | hp
    · have hq := Hp.out.1 hp
      obtain ⟨hq1, hq2, hq3⟩ := hq
      by_cases hr : p.loc < n
      · go_enter Tryz.func93, Tryz.ntmps93
        go_wp2_with (first | (go_at_call 100; ((with_reducible refine (ref13_Check _ ts _ (hv.mono (by (repeat (first | (with_reducible exact Grow.refl _) | assumption | refine Grow.ext ?_ _ | refine Grow.alloc ?_ _ | refine Grow.drew ?_ | refine Grow.setCell ?_ (by first | (simp; done) | (simp; omega)) _ | refine Grow.trans ?_ (by assumption)))))).mono ?_); rintro e w1 ⟨rfl, hb1⟩; obtain ⟨x1, rfl⟩ := ext_of_grow hb1; clear hb1)) | (go_at_call 96; ((with_reducible refine (ref03_Check p _).mono ?_); rintro e w2 ⟨rfl, hb2⟩; obtain ⟨x2, rfl⟩ := ext_of_grow hb2; clear hb2)) | (go_at_call 94; ((with_reducible refine (ref13_Typed _ ts p _ (hv.mono (by (repeat (first | (with_reducible exact Grow.refl _) | assumption | refine Grow.ext ?_ _ | refine Grow.alloc ?_ _ | refine Grow.drew ?_ | refine Grow.setCell ?_ (by first | (simp; done) | (simp; omega)) _ | refine Grow.trans ?_ (by assumption))))) hq1 (by rw [← Hn.out]; exact hr)).mono ?_); rintro e w3 ⟨rfl, hb3⟩; obtain ⟨x3, rfl⟩ := ext_of_grow hb3; clear hb3)))
        all_goals go_ret
        all_goals (refine Ret.int ?_ (by (repeat (first | (with_reducible exact Grow.refl _) | assumption | refine Grow.ext ?_ _ | refine Grow.alloc ?_ _ | refine Grow.drew ?_ | refine Grow.setCell ?_ (by first | (simp; done) | (simp; omega)) _ | refine Grow.trans ?_ (by assumption)))))
        all_goals (have h1 := Hl.out; have h2 := Hn.out; unfold askedR; rw [← h2]; grind)
      · go_enter Tryz.func93, Tryz.ntmps93
        go_wp2_with (first | (go_at_call 100; ((with_reducible refine (ref13_Check _ ts _ (hv.mono (by (repeat (first | (with_reducible exact Grow.refl _) | assumption | refine Grow.ext ?_ _ | refine Grow.alloc ?_ _ | refine Grow.drew ?_ | refine Grow.setCell ?_ (by first | (simp; done) | (simp; omega)) _ | refine Grow.trans ?_ (by assumption)))))).mono ?_); rintro e w1 ⟨rfl, hb1⟩; obtain ⟨x1, rfl⟩ := ext_of_grow hb1; clear hb1)) | (go_at_call 96; ((with_reducible refine (ref03_Check p _).mono ?_); rintro e w2 ⟨rfl, hb2⟩; obtain ⟨x2, rfl⟩ := ext_of_grow hb2; clear hb2)))
        all_goals go_ret
        all_goals (refine Ret.int ?_ (by (repeat (first | (with_reducible exact Grow.refl _) | assumption | refine Grow.ext ?_ _ | refine Grow.alloc ?_ _ | refine Grow.drew ?_ | refine Grow.setCell ?_ (by first | (simp; done) | (simp; omega)) _ | refine Grow.trans ?_ (by assumption)))))
        all_goals (have h1 := Hl.out; have h2 := Hn.out; unfold askedR; rw [← h2]; grind)
    · go_enter Tryz.func93, Tryz.ntmps93
      go_wp2_with (first | (go_at_call 100; ((with_reducible refine (ref13_Check _ ts _ (hv.mono (by (repeat (first | (with_reducible exact Grow.refl _) | assumption | refine Grow.ext ?_ _ | refine Grow.alloc ?_ _ | refine Grow.drew ?_ | refine Grow.setCell ?_ (by first | (simp; done) | (simp; omega)) _ | refine Grow.trans ?_ (by assumption)))))).mono ?_); rintro e w1 ⟨rfl, hb1⟩; obtain ⟨x1, rfl⟩ := ext_of_grow hb1; clear hb1)) | (go_at_call 96; ((with_reducible refine (ref03_Check p _).mono ?_); rintro e w2 ⟨rfl, hb2⟩; obtain ⟨x2, rfl⟩ := ext_of_grow hb2; clear hb2)))
      all_goals go_ret
      all_goals (refine Ret.int ?_ (by (repeat (first | (with_reducible exact Grow.refl _) | assumption | refine Grow.ext ?_ _ | refine Grow.alloc ?_ _ | refine Grow.drew ?_ | refine Grow.setCell ?_ (by first | (simp; done) | (simp; omega)) _ | refine Grow.trans ?_ (by assumption)))))
      all_goals (have h1 := Hp.out; unfold askedR; grind)
  · go_enter Tryz.func93, Tryz.ntmps93
    go_wp2_with (first | (go_at_call 100; ((with_reducible refine (ref13_Check _ ts _ (hv.mono (by (repeat (first | (with_reducible exact Grow.refl _) | assumption | refine Grow.ext ?_ _ | refine Grow.alloc ?_ _ | refine Grow.drew ?_ | refine Grow.setCell ?_ (by first | (simp; done) | (simp; omega)) _ | refine Grow.trans ?_ (by assumption)))))).mono ?_); rintro e w1 ⟨rfl, hb1⟩; obtain ⟨x1, rfl⟩ := ext_of_grow hb1; clear hb1)))
    all_goals go_ret
    all_goals (refine Ret.int ?_ (by (repeat (first | (with_reducible exact Grow.refl _) | assumption | refine Grow.ext ?_ _ | refine Grow.alloc ?_ _ | refine Grow.drew ?_ | refine Grow.setCell ?_ (by first | (simp; done) | (simp; omega)) _ | refine Grow.trans ?_ (by assumption)))))
    all_goals (have h1 := Hl.out; unfold askedR; grind)

theorem asked_ok {ts : List Ty} {p : Pl} (h : askedR ts p = 0) : LocOk ts = true ∧ PlOk p ∧ p.loc < ts.length ∧ (typedR (locAt ts p) p).isSome = true := by
  unfold askedR at h
  by_cases h1 : LocOk ts = false ∨ ¬ PlOk p
  · rw [if_pos h1] at h; omega
  rw [if_neg h1] at h
  by_cases h2 : (ts.length : Int) ≤ p.loc
  · rw [if_pos h2] at h; omega
  rw [if_neg h2] at h
  cases h3 : typedR (locAt ts p) p with
  | none => rw [h3] at h; simp at h
  | some u => exact ⟨by cases e : LocOk ts <;> simp_all, by by_cases e : PlOk p; exact e; exact absurd (Or.inr e) h1, by omega, rfl⟩
def tyR (ts : List Ty) (p : Pl) : Ty × Int := if askedR ts p ≠ 0 then (⟨0, 0⟩, askedR ts p) else (optTy (typedR (locAt ts p) p), 0)

set_option maxHeartbeats 400000 in
theorem ref13_Type (v : Value) (ts : List Ty) (p : Pl) (w : World) {F : Nat → Prop} (hv : Sl F w v ts) :
    Calls Tryz.prog 83 #[v, p.v] w (Ret w (.tuple #[(tyR ts p).1.v, .int .i64 (tyR ts p).2])) := by
  by_cases h : askedR ts p = 0
  · have hh := asked_ok h
    obtain ⟨hh1, ⟨hh2, _⟩, hh4, _⟩ := hh
    have Hh := Lib.hid hh4; clear hh4
    have hs : tyR ts p = (optTy (typedR (locAt ts p) p), 0) := by unfold tyR; rw [if_neg (by simpa using h)]
    rw [hs]; clear hs
    go_enter Tryz.func83, Tryz.ntmps83
    go_wp2_with (first | (go_at_call 93; ((with_reducible refine (ref13_Asked _ ts p _ (hv.mono (by (repeat (first | (with_reducible exact Grow.refl _) | assumption | refine Grow.ext ?_ _ | refine Grow.alloc ?_ _ | refine Grow.drew ?_ | refine Grow.setCell ?_ (by first | (simp; done) | (simp; omega)) _ | refine Grow.trans ?_ (by assumption)))))).mono ?_); rintro e w1 ⟨rfl, hb1⟩; obtain ⟨x1, rfl⟩ := ext_of_grow hb1; clear hb1)) | (go_at_call 94; ((with_reducible refine (ref13_Typed _ ts p _ (hv.mono (by (repeat (first | (with_reducible exact Grow.refl _) | assumption | refine Grow.ext ?_ _ | refine Grow.alloc ?_ _ | refine Grow.drew ?_ | refine Grow.setCell ?_ (by first | (simp; done) | (simp; omega)) _ | refine Grow.trans ?_ (by assumption))))) hh2 Hh.out).mono ?_); rintro e w3 ⟨rfl, hb3⟩; obtain ⟨x3, rfl⟩ := ext_of_grow hb3; clear hb3)))
    all_goals ((try simp only [Exit.inBlock, Exit.then]); refine post_of (by simp only [results, Tryz.results83]; go_simp; rfl) rfl (by (repeat (first | (with_reducible exact Grow.refl _) | assumption | refine Grow.ext ?_ _ | refine Grow.alloc ?_ _ | refine Grow.drew ?_ | refine Grow.setCell ?_ (by first | (simp; done) | (simp; omega)) _ | refine Grow.trans ?_ (by assumption)))) ?_)
    all_goals rfl
  · have hs : tyR ts p = (⟨0, 0⟩, askedR ts p) := by unfold tyR; rw [if_pos h]
    rw [hs]; clear hs
    have h' : (askedR ts p != 0) = true := by simpa using h
    clear h
    go_enter Tryz.func83, Tryz.ntmps83
    go_wp2_with (first | (go_at_call 93; ((with_reducible refine (ref13_Asked _ ts p _ (hv.mono (by (repeat (first | (with_reducible exact Grow.refl _) | assumption | refine Grow.ext ?_ _ | refine Grow.alloc ?_ _ | refine Grow.drew ?_ | refine Grow.setCell ?_ (by first | (simp; done) | (simp; omega)) _ | refine Grow.trans ?_ (by assumption)))))).mono ?_); rintro e w1 ⟨rfl, hb1⟩; obtain ⟨x1, rfl⟩ := ext_of_grow hb1; clear hb1)))
    all_goals ((try simp only [Exit.inBlock, Exit.then]); refine post_of (by simp only [results, Tryz.results83]; go_simp; rfl) rfl (by (repeat (first | (with_reducible exact Grow.refl _) | assumption | refine Grow.ext ?_ _ | refine Grow.alloc ?_ _ | refine Grow.drew ?_ | refine Grow.setCell ?_ (by first | (simp; done) | (simp; omega)) _ | refine Grow.trans ?_ (by assumption)))) ?_)
    all_goals rfl

def writeR (ts : List Ty) (p : Pl) : Int := if askedR ts p ≠ 0 then askedR ts p else if p.deref = true ∧ (locAt ts p).kind = 3 then 42 else 0

set_option maxHeartbeats 400000 in
theorem ref13_Write (v : Value) (ts : List Ty) (p : Pl) (w : World) {F : Nat → Prop} (hv : Sl F w v ts) :
    Calls Tryz.prog 84 #[v, p.v] w (Ret w (.int .i64 (writeR ts p))) := by
  by_cases h : askedR ts p = 0
  · have hh := asked_ok h
    obtain ⟨hh1, ⟨hh2, _⟩, hh4, _⟩ := hh
    obtain ⟨a, n, cap, rfl, Hn, hm, hcap, hcm, hv⟩ := hv.open
    rw [← Hn.out] at hh4
    obtain ⟨l, d, f⟩ := p
    obtain ⟨k, rfl⟩ := Int.eq_ofNat_of_zero_le hh2
    have hlt : k < n := by simpa using hh4
    obtain ⟨b_t, off_t, t, rfl, ⟨Hg_t, hl_t, hw_t, c_t0, c_t1, r_t0⟩⟩ := hv.ty k hlt
    have Ht := Lib.hid (locAt_eq (d := d) (f := f) Hg_t)
    have He : Hid (writeR ts ⟨k, d, f⟩ = if d = true ∧ t.kind = 3 then 42 else 0) := by
      show writeR _ _ = _; unfold writeR; rw [if_neg (by simpa using h), Ht.out]
    cases d
    all_goals
      go_enter Tryz.func84, Tryz.ntmps84
      go_wp2_with (first | (go_at_call 93; ((with_reducible refine (ref13_Asked _ ts ⟨k, _, f⟩ _ (hv.mono (by (repeat (first | (with_reducible exact Grow.refl _) | assumption | refine Grow.ext ?_ _ | refine Grow.alloc ?_ _ | refine Grow.drew ?_ | refine Grow.setCell ?_ (by first | (simp; done) | (simp; omega)) _ | refine Grow.trans ?_ (by assumption)))))).mono ?_); rintro e w1 ⟨rfl, hb1⟩; obtain ⟨x1, rfl⟩ := ext_of_grow hb1; clear hb1)))
    all_goals go_ret
    all_goals (refine Ret.int ?_ (by (repeat (first | (with_reducible exact Grow.refl _) | assumption | refine Grow.ext ?_ _ | refine Grow.alloc ?_ _ | refine Grow.drew ?_ | refine Grow.setCell ?_ (by first | (simp; done) | (simp; omega)) _ | refine Grow.trans ?_ (by assumption)))))
    all_goals (rw [He.out]; grind)
  · have hs : writeR ts p = askedR ts p := by unfold writeR; rw [if_pos h]
    rw [hs]; clear hs
    have h' : (askedR ts p != 0) = true := by simpa using h
    clear h
    go_enter Tryz.func84, Tryz.ntmps84
    go_wp2_with (first | (go_at_call 93; ((with_reducible refine (ref13_Asked _ ts p _ (hv.mono (by (repeat (first | (with_reducible exact Grow.refl _) | assumption | refine Grow.ext ?_ _ | refine Grow.alloc ?_ _ | refine Grow.drew ?_ | refine Grow.setCell ?_ (by first | (simp; done) | (simp; omega)) _ | refine Grow.trans ?_ (by assumption)))))).mono ?_); rintro e w1 ⟨rfl, hb1⟩; obtain ⟨x1, rfl⟩ := ext_of_grow hb1; clear hb1)))
    all_goals go_ret
    all_goals (exact Ret.int rfl (by (repeat (first | (with_reducible exact Grow.refl _) | assumption | refine Grow.ext ?_ _ | refine Grow.alloc ?_ _ | refine Grow.drew ?_ | refine Grow.setCell ?_ (by first | (simp; done) | (simp; omega)) _ | refine Grow.trans ?_ (by assumption)))))
end Go.Proofs.YtacnjmmppgbmpaaGreat
