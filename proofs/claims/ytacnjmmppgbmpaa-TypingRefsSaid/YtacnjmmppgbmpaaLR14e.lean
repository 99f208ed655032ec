/- Layer 14: the law of references. -/
import Derived.Test.YtacnjmmppgbmpaaLR14c
import Derived.Test.YtacnjmmppgbmpaaLR14d
import Derived.Test.YtacnjmmppgbmpaaLA14
namespace Go.Proofs.Ytacnjmmppgbmpaa
open Go.RowKit
set_option linter.unusedSimpArgs false
set_option linter.unusedVariables false

set_option maxRecDepth 100000 in
set_option maxHeartbeats 1000000 in
theorem refs_0 (v : Value) (ts : List Ty) (p : Pl) (w : World) {F : Nat → Prop} (hv : Sl F w v ts) (hl : locErr ts ≠ 0) :
    Calls Try.prog 5 #[v, p.v] w (Ret w (.bool true)) := by
  obtain ⟨a, n, cap, rfl, Hn, hm, hcap, hcm, hv⟩ := hv.open
  replace hl : (locErr ts != 0) = true := by simpa using hl
  by_cases h30 : n ≤ 30
  all_goals
    go_enter Try.func5, Try.ntmps5
    go_wp2_with (first | (go_at_call 13; ((with_reducible refine (law14_alive _).mono ?_); rintro e w1 ⟨rfl, hb1⟩; obtain ⟨x1, rfl⟩ := ext_of_grow hb1; clear hb1)) | (go_at_call 14; ((with_reducible refine (ref13_Check _ ts _ (hv.mono (by (repeat (first | (with_reducible exact Grow.refl _) | assumption | refine Grow.ext ?_ _ | refine Grow.alloc ?_ _ | refine Grow.drew ?_ | refine Grow.setCell ?_ (by first | (simp; done) | (simp; omega)) _ | refine Grow.trans ?_ (by assumption)))))).mono ?_); rintro e w2 ⟨rfl, hb2⟩; obtain ⟨x2, rfl⟩ := ext_of_grow hb2; clear hb2)))
    all_goals (first | (exfalso; omega) | (go_ret; exact Ret.bool rfl (by (repeat (first | (with_reducible exact Grow.refl _) | assumption | refine Grow.ext ?_ _ | refine Grow.alloc ?_ _ | refine Grow.drew ?_ | refine Grow.setCell ?_ (by first | (simp; done) | (simp; omega)) _ | refine Grow.trans ?_ (by assumption))))))

theorem law_TypingRefs (v : Value) (ts : List Ty) (p : Pl) (w : World) {F : Nat → Prop} (hv : Sl F w v ts) (hp : p.wf) :
    Calls Try.prog 5 #[v, p.v] w (Ret w (.bool true)) := by
  by_cases hl : locErr ts = 0
  · by_cases he : (plaTy ts p).2 = 0
    · have ht : plaTy ts p = ((plaTy ts p).1, 0) := by rw [← he]
      by_cases hk : (plaTy ts p).1.kind = 1 ∨ (plaTy ts p).1.kind = 2
      · by_cases hw : plaWr ts p = 0
        · exact refs_D law14_alive v ts p w hv hp hl _ ht hk hw
        · exact refs_C law14_alive v ts p w hv hp hl _ ht hk _ rfl hw
      · exact refs_B law14_alive v ts p w hv hp hl _ ht ⟨fun q => hk (Or.inl q), fun q => hk (Or.inr q)⟩ ⟨_, rfl⟩
    · exact refs_A law14_alive v ts p w hv hp hl he
  · exact refs_0 v ts p w hv hl
end Go.Proofs.Ytacnjmmppgbmpaa
