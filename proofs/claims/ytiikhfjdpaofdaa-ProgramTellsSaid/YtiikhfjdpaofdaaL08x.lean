/- Layer 8: the law that all tell what the reference tells. -/
import Derived.Test.YtiikhfjdpaofdaaL08l
import Derived.Test.YtiikhfjdpaofdaaL08t
import Derived.Test.YtiikhfjdpaofdaaL08u
import Derived.Test.YtiikhfjdpaofdaaL08w
namespace Go.Proofs.Ytiikhfjdpaofdaa
open Go.RowKit
set_option linter.unusedSimpArgs false
set_option linter.unusedVariables false

def reachE (p : Pr) : List Int := if prErr p = 0 then reachL p else []
theorem reached_any (p : Pr) (pv : Value) (w : World) {F : Nat → Prop} (hp : Sl F w pv p.funcs) : Calls Try.prog 21 #[p.v pv] w (RetP w fun v w' => ∃ a n c, v = .tuple #[.slice a n c, .int .i64 (prErr p)] ∧ Sl (Fresh w) w' (.slice a n c) (reachE p)) := by
  unfold reachE
  by_cases h : prErr p = 0
  · rw [if_pos h, h]
    exact (program_Reached p pv w hp h).mono (by rintro e w' ⟨v, rfl, ⟨u, rfl, hs⟩, g⟩; obtain ⟨a, n, c, rfl, Hn, hm, hcap, hcm, hs⟩ := hs.open; exact ⟨_, rfl, ⟨a, n, c, rfl, hs⟩, g⟩)
  · rw [if_neg h]
    exact (program_Reached_bad p pv w hp (by simpa using h)).mono (by rintro e w' ⟨rfl, g⟩; exact ⟨_, rfl, ⟨none, 0, 0, rfl, Sl.nil _ _⟩, g⟩)
theorem rreached_any (p : Pr) (pv : Value) (w : World) {F : Nat → Prop} (hp : Sl F w pv p.funcs) : Calls Try.prog 22 #[p.v pv] w (RetP w fun v w' => ∃ a n c, v = .tuple #[.slice a n c, .int .i64 (prErr p)] ∧ Sl (Fresh w) w' (.slice a n c) (reachE p)) := by
  unfold reachE
  by_cases h : prErr p = 0
  · rw [if_pos h, h]
    exact (ref08_Reached p pv w hp h).mono (by rintro e w' ⟨v, rfl, ⟨u, rfl, hs⟩, g⟩; obtain ⟨a, n, c, rfl, Hn, hm, hcap, hcm, hs⟩ := hs.open; exact ⟨_, rfl, ⟨a, n, c, rfl, hs⟩, g⟩)
  · rw [if_neg h]
    exact (ref08_Reached_bad p pv w hp (by simpa using h)).mono (by rintro e w' ⟨rfl, g⟩; exact ⟨_, rfl, ⟨none, 0, 0, rfl, Sl.nil _ _⟩, g⟩)
theorem sameInts_self (l : List Int) : sameInts l l = true := by simp [sameInts]
set_option maxRecDepth 100000 in
set_option maxHeartbeats 4000000 in
theorem law_ProgramTells (p : Pr) (pv : Value) (f : Int) (w : World) {F : Nat → Prop} (hpw : p.wf) (hp : Sl F w pv p.funcs) (hf : I64 f) :
    Calls Try.prog 3 #[p.v pv, .int .i64 f] w (Ret w (.bool true)) := by
  obtain ⟨a, n, cap, rfl, Hn, hm, hcap, hcm, hp⟩ := hp.open
  cases hg : bigPr 12 p
  · have Hg := Lib.hid hg
    go_enter Try.func3, Try.ntmps3
    go_wp2_with (first
      | (go_at_call 15; ((with_reducible refine (ref08_Great p _ _ (hp.mono (by (repeat (first | (with_reducible exact Grow.refl _) | assumption | refine Grow.ext ?_ _ | refine Grow.alloc ?_ _ | refine Grow.drew ?_ | refine Grow.setCell ?_ (by first | (simp; done) | (simp; omega)) _ | refine Grow.trans ?_ (by assumption)))))).mono ?_); rintro e w1 ⟨rfl, hb1⟩; obtain ⟨x1, rfl⟩ := ext_of_grow hb1; clear hb1))
      | (go_at_call 16; ((with_reducible refine (Twin_sl p _ _ (hp.mono (by (repeat (first | (with_reducible exact Grow.refl _) | assumption | refine Grow.ext ?_ _ | refine Grow.alloc ?_ _ | refine Grow.drew ?_ | refine Grow.setCell ?_ (by first | (simp; done) | (simp; omega)) _ | refine Grow.trans ?_ (by assumption))))) Hg.out).mono ?_); rintro e w2 ⟨_, rfl, ⟨ua, un, uc, rfl, hs⟩, hb2⟩; obtain ⟨x2, rfl⟩ := ext_of_grow hb2; clear hb2))
      | (go_at_call 17; ((with_reducible refine (program_Inputs p _ _ (hs.mono (by (repeat (first | (with_reducible exact Grow.refl _) | assumption | refine Grow.ext ?_ _ | refine Grow.alloc ?_ _ | refine Grow.drew ?_ | refine Grow.setCell ?_ (by first | (simp; done) | (simp; omega)) _ | refine Grow.trans ?_ (by assumption)))))).mono ?_); rintro e w3 ⟨rfl, hb3⟩; obtain ⟨x3, rfl⟩ := ext_of_grow hb3; clear hb3))
      | (go_at_call 18; ((with_reducible refine (ref08_Inputs p _ _ (hp.mono (by (repeat (first | (with_reducible exact Grow.refl _) | assumption | refine Grow.ext ?_ _ | refine Grow.alloc ?_ _ | refine Grow.drew ?_ | refine Grow.setCell ?_ (by first | (simp; done) | (simp; omega)) _ | refine Grow.trans ?_ (by assumption)))))).mono ?_); rintro e w4 ⟨rfl, hb4⟩; obtain ⟨x4, rfl⟩ := ext_of_grow hb4; clear hb4))
      | (go_at_call 19; ((with_reducible refine (program_Size p _ _ (hs.mono (by (repeat (first | (with_reducible exact Grow.refl _) | assumption | refine Grow.ext ?_ _ | refine Grow.alloc ?_ _ | refine Grow.drew ?_ | refine Grow.setCell ?_ (by first | (simp; done) | (simp; omega)) _ | refine Grow.trans ?_ (by assumption)))))).mono ?_); rintro e w5 ⟨rfl, hb5⟩; obtain ⟨x5, rfl⟩ := ext_of_grow hb5; clear hb5))
      | (go_at_call 20; ((with_reducible refine (ref08_Size p _ _ (hp.mono (by (repeat (first | (with_reducible exact Grow.refl _) | assumption | refine Grow.ext ?_ _ | refine Grow.alloc ?_ _ | refine Grow.drew ?_ | refine Grow.setCell ?_ (by first | (simp; done) | (simp; omega)) _ | refine Grow.trans ?_ (by assumption)))))).mono ?_); rintro e w6 ⟨rfl, hb6⟩; obtain ⟨x6, rfl⟩ := ext_of_grow hb6; clear hb6))
      | (go_at_call 21; ((with_reducible refine (reached_any p _ _ (hs.mono (by (repeat (first | (with_reducible exact Grow.refl _) | assumption | refine Grow.ext ?_ _ | refine Grow.alloc ?_ _ | refine Grow.drew ?_ | refine Grow.setCell ?_ (by first | (simp; done) | (simp; omega)) _ | refine Grow.trans ?_ (by assumption)))))).mono ?_); rintro e w7 ⟨_, rfl, ⟨a7, n7, c7, rfl, hs7⟩, hb7⟩; obtain ⟨x7, rfl⟩ := ext_of_grow hb7; clear hb7))
      | (go_at_call 22; ((with_reducible refine (rreached_any p _ _ (hp.mono (by (repeat (first | (with_reducible exact Grow.refl _) | assumption | refine Grow.ext ?_ _ | refine Grow.alloc ?_ _ | refine Grow.drew ?_ | refine Grow.setCell ?_ (by first | (simp; done) | (simp; omega)) _ | refine Grow.trans ?_ (by assumption)))))).mono ?_); rintro e w8 ⟨_, rfl, ⟨a8, n8, c8, rfl, hs8⟩, hb8⟩; obtain ⟨x8, rfl⟩ := ext_of_grow hb8; clear hb8))
      | (go_at_call 23; ((with_reducible refine (program_Recursive p _ f _ (hs.mono (by (repeat (first | (with_reducible exact Grow.refl _) | assumption | refine Grow.ext ?_ _ | refine Grow.alloc ?_ _ | refine Grow.drew ?_ | refine Grow.setCell ?_ (by first | (simp; done) | (simp; omega)) _ | refine Grow.trans ?_ (by assumption))))) hf).mono ?_); rintro e w9 ⟨rfl, hb9⟩; obtain ⟨x9, rfl⟩ := ext_of_grow hb9; clear hb9))
      | (go_at_call 24; ((with_reducible refine (ref08_Recursive p _ f _ (hp.mono (by (repeat (first | (with_reducible exact Grow.refl _) | assumption | refine Grow.ext ?_ _ | refine Grow.alloc ?_ _ | refine Grow.drew ?_ | refine Grow.setCell ?_ (by first | (simp; done) | (simp; omega)) _ | refine Grow.trans ?_ (by assumption))))) hf).mono ?_); rintro e w10 ⟨rfl, hb10⟩; obtain ⟨x10, rfl⟩ := ext_of_grow hb10; clear hb10)))
    (refine wp_region_ext (by kernel_rfl) (by kernel_rfl) ?_; (repeat (any_goals (first | go_big_quiet_step (first | (go_at_call 25; refine ext_call (program_Check p _ _ (hs.mono (by (repeat (first | (with_reducible exact Grow.refl _) | assumption | refine Grow.ext ?_ _ | refine Grow.alloc ?_ _ | refine Grow.drew ?_ | refine Grow.setCell ?_ (by first | (simp; done) | (simp; omega)) _ | refine Grow.trans ?_ (by assumption))))))) | (go_at_call 26; refine ext_call (ref08_Check p _ _ (hp.mono (by (repeat (first | (with_reducible exact Grow.refl _) | assumption | refine Grow.ext ?_ _ | refine Grow.alloc ?_ _ | refine Grow.drew ?_ | refine Grow.setCell ?_ (by first | (simp; done) | (simp; omega)) _ | refine Grow.trans ?_ (by assumption))))))) | (go_at_call 27; refine ext_call (SameInts_at _ _ (reachE p) (reachE p) _ (hs7.mono (by (repeat (first | (with_reducible exact Grow.refl _) | assumption | refine Grow.ext ?_ _ | refine Grow.alloc ?_ _ | refine Grow.drew ?_ | refine Grow.setCell ?_ (by first | (simp; done) | (simp; omega)) _ | refine Grow.trans ?_ (by assumption))))) (hs8.mono (by (repeat (first | (with_reducible exact Grow.refl _) | assumption | refine Grow.ext ?_ _ | refine Grow.alloc ?_ _ | refine Grow.drew ?_ | refine Grow.setCell ?_ (by first | (simp; done) | (simp; omega)) _ | refine Grow.trans ?_ (by assumption))))) (sameInts_self _))) | (go_at_call 28; refine ext_call (Same_yes p _ _ _ (hs.mono (by (repeat (first | (with_reducible exact Grow.refl _) | assumption | refine Grow.ext ?_ _ | refine Grow.alloc ?_ _ | refine Grow.drew ?_ | refine Grow.setCell ?_ (by first | (simp; done) | (simp; omega)) _ | refine Grow.trans ?_ (by assumption))))) (hp.mono (by (repeat (first | (with_reducible exact Grow.refl _) | assumption | refine Grow.ext ?_ _ | refine Grow.alloc ?_ _ | refine Grow.drew ?_ | refine Grow.setCell ?_ (by first | (simp; done) | (simp; omega)) _ | refine Grow.trans ?_ (by assumption)))))))) | (refine wpQuiet_step (fun K hK => ?_); go_simp; split <;> (refine hK _ ?_; clear hK K))))); all_goals (refine wpQuiet_nil ?_; intro w11 hb11; obtain ⟨x11, rfl⟩ := ext_of_grow hb11; clear hb11))
    go_wp2_with fail
    go_ret
    exact Ret.bool rfl (by (repeat (first | (with_reducible exact Grow.refl _) | assumption | refine Grow.ext ?_ _ | refine Grow.alloc ?_ _ | refine Grow.drew ?_ | refine Grow.setCell ?_ (by first | (simp; done) | (simp; omega)) _ | refine Grow.trans ?_ (by assumption))))
  · go_enter Try.func3, Try.ntmps3
    go_wp2_with (first | (go_at_call 15; ((with_reducible refine (ref08_Great p _ _ (hp.mono (by (repeat (first | (with_reducible exact Grow.refl _) | assumption | refine Grow.ext ?_ _ | refine Grow.alloc ?_ _ | refine Grow.drew ?_ | refine Grow.setCell ?_ (by first | (simp; done) | (simp; omega)) _ | refine Grow.trans ?_ (by assumption)))))).mono ?_); rintro e w1 ⟨rfl, hb1⟩; obtain ⟨x1, rfl⟩ := ext_of_grow hb1; clear hb1)))
    go_ret
    exact Ret.bool rfl (by (repeat (first | (with_reducible exact Grow.refl _) | assumption | refine Grow.ext ?_ _ | refine Grow.alloc ?_ _ | refine Grow.drew ?_ | refine Grow.setCell ?_ (by first | (simp; done) | (simp; omega)) _ | refine Grow.trans ?_ (by assumption))))
end Go.Proofs.Ytiikhfjdpaofdaa
