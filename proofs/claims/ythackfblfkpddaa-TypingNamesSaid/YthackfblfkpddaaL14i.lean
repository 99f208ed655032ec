/- Layer 14: the heads of programs. -/
import Derived.Test.YthackfblfkpddaaL14h
import Derived.Test.YthackfblfkpddaaL06
namespace Go.Proofs.Ythackfblfkpddaa
open Go.RowKit
set_option linter.unusedSimpArgs false
set_option linter.unusedVariables false

def headOk (f : Fn) : Bool := decide (locErr f.locals = 0) && decide (0 ≤ f.params) && decide (f.params ≤ 8) && decide (f.params < (f.locals.length : Int))
def headsOk (p : Pr) : Bool := decide (1 ≤ p.funcs.length) && decide (p.funcs.length ≤ 8) && p.funcs.all headOk
def headsErr (p : Pr) : Int := if headsOk p = true then 0 else 8
theorem heads_stop {p : Pr} {f : Fn} {k : Nat} (h : Hid (p.funcs[k]? = some f)) (hf : headOk f = false) : headsOk p = false := by
  unfold headsOk
  have hm := List.mem_of_getElem? h.out
  have : p.funcs.all headOk = false := by rw [List.all_eq_false]; exact ⟨f, hm, by simp [hf]⟩
  simp [this]
theorem heads_done {p : Pr} {n : Nat} (hn : n = p.funcs.length) (h1 : 1 ≤ n) (h8 : n ≤ 8) (ha : p.funcs.all headOk = true) : headsOk p = true := by
  unfold headsOk; subst hn; simp [ha, h1, h8]
theorem heads_len {p : Pr} {n : Nat} (hn : n = p.funcs.length) (h : ¬ (1 ≤ n ∧ n ≤ 8)) : headsOk p = false := by
  unfold headsOk; subst hn; cases q : p.funcs.all headOk <;> simp; omega
theorem headsErr_ok {p : Pr} (h : headsOk p = true) : headsErr p = 0 := by unfold headsErr; rw [if_pos h]
theorem headsErr_bad {p : Pr} (h : headsOk p = false) : headsErr p = 8 := by unfold headsErr; rw [if_neg (by simp [h])]

set_option maxHeartbeats 1000000 in
theorem typing_heads (p : Pr) (pv : Value) (w : World) {F : Nat → Prop} (hp : Sl F w pv p.funcs) :
    Calls Try.prog 35 #[p.v pv] w (Ret w (.int .i64 (headsErr p))) := by
  obtain ⟨a, n, cap, rfl, Hn, hm, hcap, hcm, hp⟩ := hp.open
  by_cases hn : 1 ≤ n ∧ n ≤ 8
  · obtain ⟨hn1, hn8⟩ := hn
    go_enter Try.func35, Try.ntmps35
    go_wp2_with fail
    go_loopw [18] (fun i wr => ∃ (k : Nat), k ≤ n ∧ i = .int .i64 k ∧ Grow w wr ∧ Hid ((p.funcs.take k).all headOk = true)) (fun i _ => n - (intOf i).toNat)
    case atStart => exact ⟨0, Nat.zero_le _, rfl, (by (repeat (first | (with_reducible exact Grow.refl _) | assumption | refine Grow.ext ?_ _ | refine Grow.alloc ?_ _ | refine Grow.drew ?_ | refine Grow.setCell ?_ (by first | (simp; done) | (simp; omega)) _ | refine Grow.trans ?_ (by assumption)))), rfl⟩
    case round =>
      obtain ⟨k, hk, rfl, hb1, Ha⟩ := hrel
      (obtain ⟨x1, rfl⟩ := ext_of_grow hb1; clear hb1)
      by_cases hlt : k < n
      · obtain ⟨b_f, off_f, f, f_locals_a, f_locals_n, f_locals_c, f_blocks_a, f_blocks_n, f_blocks_c, rfl, ⟨Hg_f, hl_f, hw_f, f_locals, f_blocks, c_f0, c_f1, c_f2, c_f3, r_f0⟩⟩ := hp.fn k hlt
        have Hfl := Lib.hid f_locals.len
        have hw := hw_f.params
        cases hlo : (locErr f.locals != 0)
        all_goals
          go_wp2_with (first | (go_at_call 28; ((with_reducible refine (typing_list _ f.locals _ (f_locals.mono (by (repeat (first | (with_reducible exact Grow.refl _) | assumption | refine Grow.ext ?_ _ | refine Grow.alloc ?_ _ | refine Grow.drew ?_ | refine Grow.setCell ?_ (by first | (simp; done) | (simp; omega)) _ | refine Grow.trans ?_ (by assumption)))))).mono ?_); rintro e w2 ⟨rfl, hb2⟩; obtain ⟨x2, rfl⟩ := ext_of_grow hb2; clear hb2)))
        all_goals
          first
          | (go_roundw
             case rel => exact ⟨k + 1, by omega, by go_num, (by (repeat (first | (with_reducible exact Grow.refl _) | assumption | refine Grow.ext ?_ _ | refine Grow.alloc ?_ _ | refine Grow.drew ?_ | refine Grow.setCell ?_ (by first | (simp; done) | (simp; omega)) _ | refine Grow.trans ?_ (by assumption)))), all_step Hg_f Ha (by go_light; have q := Hfl.out; unfold headOk; grind)⟩
             case measure => simp [intOf]; omega)
          | (go_ret
             refine Ret.int ?_ (by (repeat (first | (with_reducible exact Grow.refl _) | assumption | refine Grow.ext ?_ _ | refine Grow.alloc ?_ _ | refine Grow.drew ?_ | refine Grow.setCell ?_ (by first | (simp; done) | (simp; omega)) _ | refine Grow.trans ?_ (by assumption))))
             have hf : headOk f = false := by go_light; have q := Hfl.out; unfold headOk; grind
             rw [headsErr_bad (heads_stop Hg_f hf)])
      · go_wp2_with fail
        go_ret
        exact Ret.int (headsErr_ok (heads_done Hn.out hn1 hn8 (all_end Hn (by omega) Ha))).symm (by (repeat (first | (with_reducible exact Grow.refl _) | assumption | refine Grow.ext ?_ _ | refine Grow.alloc ?_ _ | refine Grow.drew ?_ | refine Grow.setCell ?_ (by first | (simp; done) | (simp; omega)) _ | refine Grow.trans ?_ (by assumption))))
  · have hb := heads_len Hn.out hn
    go_enter Try.func35, Try.ntmps35
    go_wp2_with fail
    all_goals (first
      | (go_ret; exact Ret.int (headsErr_bad hb).symm (by (repeat (first | (with_reducible exact Grow.refl _) | assumption | refine Grow.ext ?_ _ | refine Grow.alloc ?_ _ | refine Grow.drew ?_ | refine Grow.setCell ?_ (by first | (simp; done) | (simp; omega)) _ | refine Grow.trans ?_ (by assumption)))))
      | (exfalso; omega))
end Go.Proofs.Ythackfblfkpddaa
