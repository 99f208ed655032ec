/- Layer 7: the places of jumps, told. -/
import Derived.Test.YtiikhfjdpaofdaaL07c
namespace Go.Proofs.Ytiikhfjdpaofdaa
open Go.RowKit
set_option linter.unusedSimpArgs false
set_option linter.unusedVariables false

set_option maxHeartbeats 1000000 in
theorem fn_inJump {S : Type} {k : Nat} {c1 c2 : Value} {W : S → World} {step : S → Pl → Bool → S} {G : Pl → Prop} (hk : k = 94 ∨ k = 99) (hon : On k c1 c2 W step G)
    (j : Ju) (av : Value) (s : S) (hw : j.wf) {F : Nat → Prop} (hav : ∀ s, Sl F (W s) av j.args) (hG : ∀ v ∈ visJ j, G v.1) :
    Calls Try.prog 98 #[j.v av, .func (.func k) #[] #[c1, c2]] (W s) (Told W (visFold step s (visJ j))) := by
  obtain ⟨a, n, cap, rfl, Hn, hm, hcap, hcm, _⟩ := (hav s).open
  have hwa := hw.a; have hwd := hw.dest
  by_cases h2 : j.kind = 2
  · have e : visJ j = visOs false [j.a] := by simp [visJ, h2]
    have Hv := Lib.hid e
    have Hp : Hid (∀ o ∈ [j.a], o.kind ≠ 1 → G o.pl) := by
      intro o ho hc; simp at ho; subst ho
      exact hG (j.a.pl, false) (by rw [e]; simp [visOs, visO, hc])
    clear e hG
    replace h2 : (j.kind == 2) = true := by simp [h2]
    haveI hsz : ∀ s0, EqW (W s).heap.size (W s0) := fun s0 => hon.szW s s0
    have HS : Hid (∀ s0, Sl (fun _ => True) (((W s0).alloc (Obj.cells #[.int .u8 j.kind, .int .u8 j.a.kind, .int .i64 j.a.n, .int .i64 j.a.pl.loc, .bool j.a.pl.deref, .int .u8 j.a.pl.field, .int .i64 j.fn, .int .i64 j.next, .int .i64 j.els, .slice a n cap, .int .i64 j.dest.loc, .bool j.dest.deref, .int .u8 j.dest.field] 66)).alloc (Obj.cells #[.int .u8 j.a.kind, .int .i64 j.a.n, .int .i64 j.a.pl.loc, .bool j.a.pl.deref, .int .u8 j.a.pl.field] 63)) (.slice (some ⟨(W s).heap.size + 1, 0, none⟩) 1 1) [j.a]) := by
      intro s0
      exact Sl.one trivial (by simp [hon.size s s0]) (by omega) (by omega) ⟨rfl, hwa⟩ (by (repeat (refine CellsAt.cons (by go_simp) ?_)); exact CellsAt.nil _ _ _)
    rcases hk with rfl | rfl
    all_goals
      go_enter Try.func98, Try.ntmps98
      go_wp2_with (first | (go_at_call 118; go_must (with_reducible refine (fn_operands (by first | exact Or.inl rfl | exact Or.inr rfl) ((hon.alloc _).alloc _) [j.a] _ false s HS.out Hp.out).mono ?_); rintro e w1 ⟨rfl, y1, rfl⟩))
      go_end0
      exact Told.of (by rw [Hv.out]) (by (repeat (first | (with_reducible exact Grow.refl _) | assumption | refine Grow.ext ?_ _ | refine Grow.alloc ?_ _ | refine Grow.drew ?_ | refine Grow.setCell ?_ (by first | (simp; done) | (simp; omega)) _ | refine Grow.trans ?_ (by assumption))))
  · have H2 := Lib.hid h2
    replace h2 : (j.kind == 2) = false := by simp [h2]
    by_cases h4 : j.kind = 4
    · have e : visJ j = (j.dest, false) :: visOs true j.args := by simp [visJ, h4]
      have Hv := Lib.hid e
      have Hp : Hid (G j.dest) := hG (j.dest, false) (by rw [e]; simp)
      have Hp2 : Hid (∀ o ∈ j.args, o.kind ≠ 1 → G o.pl) := by
        intro o ho hc
        exact hG (o.pl, true && decide (o.kind = 3)) (by rw [e]; refine List.mem_cons_of_mem _ ?_; unfold visOs; rw [List.mem_flatMap]; exact ⟨o, ho, by simp [visO, hc]⟩)
      clear e hG
      replace h4 : (j.kind == 4) = true := by simp [h4]
      haveI hsz : ∀ s0 s1, EqW (W s1).heap.size (W s0) := fun s0 s1 => hon.szW s1 s0
      rcases hk with rfl | rfl
      all_goals
        go_enter Try.func98, Try.ntmps98
        go_wp2_with (first | (go_at_call 94; with_reducible refine ((hon.alloc _).at s j.dest _ hwd Hp.out).mono ?_; rintro e w1 ⟨rfl, y1, rfl⟩) | (go_at_call 99; with_reducible refine ((hon.alloc _).at s j.dest _ hwd Hp.out).mono ?_; rintro e w1 ⟨rfl, y1, rfl⟩) | (go_at_call 118; go_must (with_reducible refine (fn_operands (by first | exact Or.inl rfl | exact Or.inr rfl) ((hon.alloc _).ext y1) j.args _ true (step s j.dest false) (fun s0 => (hav s0).mono (by (repeat (first | (with_reducible exact Grow.refl _) | assumption | refine Grow.ext ?_ _ | refine Grow.alloc ?_ _ | refine Grow.drew ?_ | refine Grow.setCell ?_ (by first | (simp; done) | (simp; omega)) _ | refine Grow.trans ?_ (by assumption))))) Hp2.out).mono ?_); rintro e w2 ⟨rfl, y2, rfl⟩))
        go_end0
        exact Told.of (by rw [Hv.out, visFold_cons]) (by (repeat (first | (with_reducible exact Grow.refl _) | assumption | refine Grow.ext ?_ _ | refine Grow.alloc ?_ _ | refine Grow.drew ?_ | refine Grow.setCell ?_ (by first | (simp; done) | (simp; omega)) _ | refine Grow.trans ?_ (by assumption))))
    · have e : visJ j = [] := by simp [visJ, H2.out, h4]
      have Hv := Lib.hid e
      clear e hG
      replace h4 : (j.kind == 4) = false := by simp [h4]
      rcases hk with rfl | rfl
      all_goals
        go_enter Try.func98, Try.ntmps98
        go_wp2_with fail
        go_end0
        exact Told.of (by rw [Hv.out, visFold_nil]) (by (repeat (first | (with_reducible exact Grow.refl _) | assumption | refine Grow.ext ?_ _ | refine Grow.alloc ?_ _ | refine Grow.drew ?_ | refine Grow.setCell ?_ (by first | (simp; done) | (simp; omega)) _ | refine Grow.trans ?_ (by assumption))))
end Go.Proofs.Ytiikhfjdpaofdaa
