/- Layer 14: jumps. -/
import Derived.Test.YthackfblfkpddaaL14j
namespace Go.Proofs.Ythackfblfkpddaa
open Go.RowKit
set_option linter.unusedSimpArgs false
set_option linter.unusedVariables false

def goesErr (fs : List Fn) (ts : List Ty) (j : Ju) : Int := if j.kind = 2 then numErr ts j.a else if j.kind = 4 then callErr fs ts j else 0
def jumpErr (p : Pr) (f : Int) (j : Ju) : Int :=
  if headsErr p ≠ 0 then headsErr p else if f < 0 ∨ (p.funcs.length : Int) ≤ f then 2 else if juErr j ≠ 0 then juErr j
  else goesErr p.funcs (p.funcs.getD f.toNat fn0).locals j
theorem fnAt {fs : List Fn} {k : Nat} {f : Fn} (h : Hid (fs[k]? = some f)) : fs.getD k fn0 = f := by
  rw [List.getD_eq_getElem?_getD, h.out]; rfl
theorem headsErr_or (p : Pr) : headsErr p = 0 ∨ headsErr p = 8 := by unfold headsErr; split <;> simp
theorem headsErr_iff (p : Pr) : headsErr p = 0 ↔ headsOk p = true := by unfold headsErr; split <;> simp_all
theorem jumpErr_at {p : Pr} {k : Nat} {f : Fn} {j : Ju} (h1 : headsErr p = 0) (h2 : juErr j = 0) (h : Hid (p.funcs[k]? = some f)) : jumpErr p k j = goesErr p.funcs f.locals j := by
  have hl : k < p.funcs.length := (List.getElem?_eq_some_iff.1 h.out).1
  unfold jumpErr; rw [if_neg (by simpa using h1), if_neg (by omega), if_neg (by simpa using h2), show (k : Int).toNat = k from rfl, fnAt h]
theorem ju_fn {j : Ju} (h : juErr j = 0) (h4 : j.kind = 4) : 0 ≤ j.fn := by
  have := (juErr_iff j).1 h; unfold juOk juPre at this; simp [h4] at this; omega
theorem ju_a {j : Ju} (h : juErr j = 0) (h4 : j.kind = 2) : opdErr j.a = 0 := by
  have := (juErr_iff j).1 h; unfold juOk juPre at this; simp [h4] at this; simp [this]
theorem ju_args {j : Ju} (h : juErr j = 0) {y : Opd} {k : Nat} (hy : Hid (j.args[k]? = some y)) : opdErr y = 0 := by
  by_cases q : opdErr y = 0
  · exact q
  · have := juOk_stop hy q; omega

set_option maxHeartbeats 1000000 in
theorem typing_Jump (p : Pr) (pv jv : Value) (f : Int) (j : Ju) (w : World) {F F'' : Nat → Prop} (hp : Sl F w pv p.funcs) (hjv : Sl F'' w jv j.args) (hj : j.wf) (hf : I64 f) :
    Calls Try.prog 12 #[p.v pv, .int .i64 f, j.v jv] w (Ret w (.int .i64 (jumpErr p f j))) := by
  obtain ⟨a, n, cap, rfl, Hn, hm, hcap, hcm, hp⟩ := hp.open
  obtain ⟨ja, jn, jcap, rfl, Hjn, hjm, hjcap, hjcm, hjv⟩ := hjv.open
  have ha := hj.a
  by_cases hlt : 0 ≤ f ∧ f < n
  · obtain ⟨hf0, hfn⟩ := hlt
    obtain ⟨k, rfl⟩ := Int.eq_ofNat_of_zero_le hf0
    have hlt : k < n := by omega
    obtain ⟨b_g, off_g, g, g_locals_a, g_locals_n, g_locals_c, g_blocks_a, g_blocks_n, g_blocks_c, rfl, ⟨Hg_g, hl_g, hw_g, g_locals, g_blocks, c_g0, c_g1, c_g2, c_g3, r_g0⟩⟩ := hp.fn k hlt
    by_cases hh : headsErr p = 0
    · by_cases hju : juErr j = 0
      · have Hs := Lib.hid (jumpErr_at hh hju Hg_g)
        have Hh := Lib.hid ((headsErr_iff p).1 hh)
        replace hh : (headsErr p != 0) = false := by simpa using hh
        by_cases h4 : j.kind = 4
        · have hfn0 := ju_fn hju h4
          have H4 := Lib.hid h4
          replace h4 : (j.kind == 4) = true := by simpa using h4
          have h2 : (j.kind == 2) = false := by have := H4.out; simp; omega
          replace hju : (juErr j != 0) = false := by simpa using hju
          go_enter Try.func12, Try.ntmps12
          go_wp2_with (first | (go_at_call 35; ((with_reducible refine (typing_heads p _ _ (hp.mono (by (repeat (first | (with_reducible exact Grow.refl _) | assumption | refine Grow.ext ?_ _ | refine Grow.alloc ?_ _ | refine Grow.drew ?_ | refine Grow.setCell ?_ (by first | (simp; done) | (simp; omega)) _ | refine Grow.trans ?_ (by assumption)))))).mono ?_); rintro e w1 ⟨rfl, hb1⟩; obtain ⟨x1, rfl⟩ := ext_of_grow hb1; clear hb1)) | (go_at_call 36; ((with_reducible refine (jump_Check j _ _ hj (hjv.mono (by (repeat (first | (with_reducible exact Grow.refl _) | assumption | refine Grow.ext ?_ _ | refine Grow.alloc ?_ _ | refine Grow.drew ?_ | refine Grow.setCell ?_ (by first | (simp; done) | (simp; omega)) _ | refine Grow.trans ?_ (by assumption)))))).mono ?_); rintro e w2 ⟨rfl, hb2⟩; obtain ⟨x2, rfl⟩ := ext_of_grow hb2; clear hb2)) | (go_at_call 37; ((with_reducible refine (typing_call p _ _ _ g.locals j _ (hp.mono (by (repeat (first | (with_reducible exact Grow.refl _) | assumption | refine Grow.ext ?_ _ | refine Grow.alloc ?_ _ | refine Grow.drew ?_ | refine Grow.setCell ?_ (by first | (simp; done) | (simp; omega)) _ | refine Grow.trans ?_ (by assumption))))) (g_locals.mono (by (repeat (first | (with_reducible exact Grow.refl _) | assumption | refine Grow.ext ?_ _ | refine Grow.alloc ?_ _ | refine Grow.drew ?_ | refine Grow.setCell ?_ (by first | (simp; done) | (simp; omega)) _ | refine Grow.trans ?_ (by assumption))))) (hjv.mono (by (repeat (first | (with_reducible exact Grow.refl _) | assumption | refine Grow.ext ?_ _ | refine Grow.alloc ?_ _ | refine Grow.drew ?_ | refine Grow.setCell ?_ (by first | (simp; done) | (simp; omega)) _ | refine Grow.trans ?_ (by assumption))))) hj Hh.out hfn0).mono ?_); rintro e w3 ⟨rfl, hb3⟩; obtain ⟨x3, rfl⟩ := ext_of_grow hb3; clear hb3)))
          all_goals go_ret
          all_goals (refine Ret.int ?_ (by (repeat (first | (with_reducible exact Grow.refl _) | assumption | refine Grow.ext ?_ _ | refine Grow.alloc ?_ _ | refine Grow.drew ?_ | refine Grow.setCell ?_ (by first | (simp; done) | (simp; omega)) _ | refine Grow.trans ?_ (by assumption)))))
          all_goals (rw [Hs.out]; have q := H4.out; unfold goesErr; simp [q])
        · have H4 := Lib.hid h4
          replace h4 : (j.kind == 4) = false := by simpa using h4
          replace hju : (juErr j != 0) = false := by simpa using hju
          go_enter Try.func12, Try.ntmps12
          go_wp2_with (first | (go_at_call 35; ((with_reducible refine (typing_heads p _ _ (hp.mono (by (repeat (first | (with_reducible exact Grow.refl _) | assumption | refine Grow.ext ?_ _ | refine Grow.alloc ?_ _ | refine Grow.drew ?_ | refine Grow.setCell ?_ (by first | (simp; done) | (simp; omega)) _ | refine Grow.trans ?_ (by assumption)))))).mono ?_); rintro e w1 ⟨rfl, hb1⟩; obtain ⟨x1, rfl⟩ := ext_of_grow hb1; clear hb1)) | (go_at_call 36; ((with_reducible refine (jump_Check j _ _ hj (hjv.mono (by (repeat (first | (with_reducible exact Grow.refl _) | assumption | refine Grow.ext ?_ _ | refine Grow.alloc ?_ _ | refine Grow.drew ?_ | refine Grow.setCell ?_ (by first | (simp; done) | (simp; omega)) _ | refine Grow.trans ?_ (by assumption)))))).mono ?_); rintro e w2 ⟨rfl, hb2⟩; obtain ⟨x2, rfl⟩ := ext_of_grow hb2; clear hb2)) | (go_at_call 33; (refine (typing_ints _ _ g.locals [j.a] _ (g_locals.mono (by (repeat (first | (with_reducible exact Grow.refl _) | assumption | refine Grow.ext ?_ _ | refine Grow.alloc ?_ _ | refine Grow.drew ?_ | refine Grow.setCell ?_ (by first | (simp; done) | (simp; omega)) _ | refine Grow.trans ?_ (by assumption))))) (Sl.one (F := fun _ => True) trivial (by simp) (by omega) (by omega) ⟨rfl, ha⟩ (by (repeat (refine CellsAt.cons (by go_simp) ?_)); exact CellsAt.nil _ _ _))).mono ?_; rintro e w5 ⟨rfl, hb5⟩; obtain ⟨x5, rfl⟩ := ext_of_grow hb5; clear hb5)))
          all_goals go_ret
          all_goals (refine Ret.int ?_ (by (repeat (first | (with_reducible exact Grow.refl _) | assumption | refine Grow.ext ?_ _ | refine Grow.alloc ?_ _ | refine Grow.drew ?_ | refine Grow.setCell ?_ (by first | (simp; done) | (simp; omega)) _ | refine Grow.trans ?_ (by assumption)))))
          all_goals (rw [Hs.out]; have q := H4.out; unfold goesErr numErr; grind)
      · have Hs : Hid (jumpErr p k j = juErr j) := by
          show _ = _; unfold jumpErr; have := Hn.out; rw [if_neg (by simpa using hh), if_neg (by omega), if_pos hju]
        replace hh : (headsErr p != 0) = false := by simpa using hh
        replace hju : (juErr j != 0) = true := by simpa using hju
        go_enter Try.func12, Try.ntmps12
        go_wp2_with (first | (go_at_call 35; ((with_reducible refine (typing_heads p _ _ (hp.mono (by (repeat (first | (with_reducible exact Grow.refl _) | assumption | refine Grow.ext ?_ _ | refine Grow.alloc ?_ _ | refine Grow.drew ?_ | refine Grow.setCell ?_ (by first | (simp; done) | (simp; omega)) _ | refine Grow.trans ?_ (by assumption)))))).mono ?_); rintro e w1 ⟨rfl, hb1⟩; obtain ⟨x1, rfl⟩ := ext_of_grow hb1; clear hb1)) | (go_at_call 36; ((with_reducible refine (jump_Check j _ _ hj (hjv.mono (by (repeat (first | (with_reducible exact Grow.refl _) | assumption | refine Grow.ext ?_ _ | refine Grow.alloc ?_ _ | refine Grow.drew ?_ | refine Grow.setCell ?_ (by first | (simp; done) | (simp; omega)) _ | refine Grow.trans ?_ (by assumption)))))).mono ?_); rintro e w2 ⟨rfl, hb2⟩; obtain ⟨x2, rfl⟩ := ext_of_grow hb2; clear hb2)))
        all_goals go_ret
        all_goals (refine Ret.int ?_ (by (repeat (first | (with_reducible exact Grow.refl _) | assumption | refine Grow.ext ?_ _ | refine Grow.alloc ?_ _ | refine Grow.drew ?_ | refine Grow.setCell ?_ (by first | (simp; done) | (simp; omega)) _ | refine Grow.trans ?_ (by assumption)))))
        all_goals (rw [Hs.out])
    · have Hs : Hid (jumpErr p k j = headsErr p) := by
        show _ = _; unfold jumpErr; rw [if_pos hh]
      replace hh : (headsErr p != 0) = true := by simpa using hh
      go_enter Try.func12, Try.ntmps12
      go_wp2_with (first | (go_at_call 35; ((with_reducible refine (typing_heads p _ _ (hp.mono (by (repeat (first | (with_reducible exact Grow.refl _) | assumption | refine Grow.ext ?_ _ | refine Grow.alloc ?_ _ | refine Grow.drew ?_ | refine Grow.setCell ?_ (by first | (simp; done) | (simp; omega)) _ | refine Grow.trans ?_ (by assumption)))))).mono ?_); rintro e w1 ⟨rfl, hb1⟩; obtain ⟨x1, rfl⟩ := ext_of_grow hb1; clear hb1)))
      all_goals go_ret
      all_goals (refine Ret.int ?_ (by (repeat (first | (with_reducible exact Grow.refl _) | assumption | refine Grow.ext ?_ _ | refine Grow.alloc ?_ _ | refine Grow.drew ?_ | refine Grow.setCell ?_ (by first | (simp; done) | (simp; omega)) _ | refine Grow.trans ?_ (by assumption)))))
      all_goals (rw [Hs.out])
  · have Hs : Hid (jumpErr p f j = if headsErr p ≠ 0 then headsErr p else 2) := by
      show _ = _; unfold jumpErr; have := Hn.out; congr 1; rw [if_pos (by omega)]
    go_enter Try.func12, Try.ntmps12
    go_wp2_with (first | (go_at_call 35; ((with_reducible refine (typing_heads p _ _ (hp.mono (by (repeat (first | (with_reducible exact Grow.refl _) | assumption | refine Grow.ext ?_ _ | refine Grow.alloc ?_ _ | refine Grow.drew ?_ | refine Grow.setCell ?_ (by first | (simp; done) | (simp; omega)) _ | refine Grow.trans ?_ (by assumption)))))).mono ?_); rintro e w1 ⟨rfl, hb1⟩; obtain ⟨x1, rfl⟩ := ext_of_grow hb1; clear hb1)) | (exfalso; omega))
    all_goals (first | (exfalso; omega) | go_ret)
    all_goals (refine Ret.int ?_ (by (repeat (first | (with_reducible exact Grow.refl _) | assumption | refine Grow.ext ?_ _ | refine Grow.alloc ?_ _ | refine Grow.drew ?_ | refine Grow.setCell ?_ (by first | (simp; done) | (simp; omega)) _ | refine Grow.trans ?_ (by assumption)))))
    all_goals (rw [Hs.out]; go_light; grind)
end Go.Proofs.Ythackfblfkpddaa
