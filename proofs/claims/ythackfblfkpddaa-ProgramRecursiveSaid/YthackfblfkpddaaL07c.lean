/- Layer 7: the places of statements, told. Layer 7: the places of jumps, told. -/
import Derived.Test.YthackfblfkpddaaL07b
import Derived.Deep.DeepMust
namespace Go.Proofs.Ythackfblfkpddaa
open Go.RowKit
set_option linter.unusedSimpArgs false
set_option linter.unusedVariables false

theorem Told.of {S : Type} {W : S → World} {s s' : S} {w' : World} (hs : s = s') (g : Grow (W s) w') : Told W s' (.returned (.tuple #[])) w' := by
  subst hs; obtain ⟨y, rfl⟩ := ext_of_grow g; exact ⟨rfl, y, rfl⟩
theorem Told.grow {S : Type} {W : S → World} {s : S} {e : Ending} {w' : World} (h : Told W s e w') : e = .returned (.tuple #[]) ∧ ∃ y, w' = ext (W s) y := h

set_option maxHeartbeats 1000000 in
theorem fn_inStmt {S : Type} {k : Nat} {c1 c2 : Value} {W : S → World} {step : S → Pl → Bool → S} {G : Pl → Prop} (hk : k = 91 ∨ k = 95) (hon : On k c1 c2 W step G)
    (st : St) (s : S) (hw : st.wf) (hG : ∀ v ∈ visS st, G v.1) :
    Calls Try.prog 92 #[st.v, .func (.func k) #[] #[c1, c2]] (W s) (Told W (visFold step s (visS st))) := by
  have hwp := hw.pl; have hwr := hw.r; have hwa := hw.a; have hwl := hw.loc
  have hw0 : (⟨st.loc, false, 0⟩ : Pl).wf := ⟨hwl, by simp [U8]⟩
  by_cases h3 : st.kind = 3
  · have e : visS st = [(⟨st.loc, false, 0⟩, false)] := by simp [visS, h3]
    have Hv := Lib.hid e
    have Hp : Hid (G ⟨st.loc, false, 0⟩) := hG (⟨st.loc, false, 0⟩, false) (by rw [e]; simp)
    clear e hG
    replace h3 : (st.kind == 3) = true := by simp [h3]
    rcases hk with rfl | rfl
    all_goals
      go_enter Try.func92, Try.ntmps92
      go_wp2_with (first | (go_at_call 91; with_reducible refine ((hon.alloc _).at s ⟨st.loc, false, 0⟩ _ hw0 Hp.out).mono ?_; rintro e w1 ⟨rfl, y1, rfl⟩) | (go_at_call 95; with_reducible refine ((hon.alloc _).at s ⟨st.loc, false, 0⟩ _ hw0 Hp.out).mono ?_; rintro e w1 ⟨rfl, y1, rfl⟩))
      go_end0
      exact Told.of (by rw [Hv.out, visFold_cons, visFold_nil]) (by (repeat (first | (with_reducible exact Grow.refl _) | assumption | refine Grow.ext ?_ _ | refine Grow.alloc ?_ _ | refine Grow.drew ?_ | refine Grow.setCell ?_ (by first | (simp; done) | (simp; omega)) _ | refine Grow.trans ?_ (by assumption))))
  · have H3 := Lib.hid h3
    replace h3 : (st.kind == 3) = false := by simp [h3]
    by_cases h2 : st.kind = 2 ∨ st.kind = 4
    · have e : visS st = visOs false [st.a] := by simp [visS, H3.out, h2]
      have Hv := Lib.hid e
      have Hp : Hid (∀ o ∈ [st.a], o.kind ≠ 1 → G o.pl) := by
        intro o ho hc; simp at ho; subst ho
        exact hG (st.a.pl, false) (by rw [e]; simp [visOs, visO, hc])
      clear e hG
      have h2' : ((st.kind == 2) = true) ∨ ((st.kind == 2) = false ∧ (st.kind == 4) = true) := by rcases h2 with h | h <;> simp [h]
      clear h2
      haveI hsz : ∀ s0, EqW (W s).heap.size (W s0) := fun s0 => hon.szW s s0
      have HS : Hid (∀ s0, Sl (fun _ => True) (((W s0).alloc (Obj.cells #[.int .u8 st.kind, .int .i64 st.pl.loc, .bool st.pl.deref, .int .u8 st.pl.field, .int .u8 st.r.kind, .int .u8 st.r.op, .int .u8 st.r.bo, .int .u8 st.r.a.kind, .int .i64 st.r.a.n, .int .i64 st.r.a.pl.loc, .bool st.r.a.pl.deref, .int .u8 st.r.a.pl.field, .int .u8 st.r.b.kind, .int .i64 st.r.b.n, .int .i64 st.r.b.pl.loc, .bool st.r.b.pl.deref, .int .u8 st.r.b.pl.field, .int .i64 st.r.pl.loc, .bool st.r.pl.deref, .int .u8 st.r.pl.field, .int .u8 st.a.kind, .int .i64 st.a.n, .int .i64 st.a.pl.loc, .bool st.a.pl.deref, .int .u8 st.a.pl.field, .int .i64 st.loc] 38)).alloc (Obj.cells #[.int .u8 st.a.kind, .int .i64 st.a.n, .int .i64 st.a.pl.loc, .bool st.a.pl.deref, .int .u8 st.a.pl.field] 28)) (.slice (some ⟨(W s).heap.size + 1, 0, none⟩) 1 1) [st.a]) := by
        intro s0
        exact Sl.one trivial (by simp [hon.size s s0]) (by omega) (by omega) ⟨rfl, hwa⟩ (by (repeat (refine CellsAt.cons (by go_simp) ?_)); exact CellsAt.nil _ _ _)
      rcases hk with rfl | rfl
      all_goals (rcases h2' with h2 | ⟨h2, h4⟩)
      all_goals
        go_enter Try.func92, Try.ntmps92
        go_wp2_with (first | (go_at_call 107; go_must (with_reducible refine (fn_operands (by first | exact Or.inl rfl | exact Or.inr rfl) ((hon.alloc _).alloc _) [st.a] _ false s HS.out Hp.out).mono ?_); rintro e w1 ⟨rfl, y1, rfl⟩))
        go_end0
        exact Told.of (by rw [Hv.out]) (by (repeat (first | (with_reducible exact Grow.refl _) | assumption | refine Grow.ext ?_ _ | refine Grow.alloc ?_ _ | refine Grow.drew ?_ | refine Grow.setCell ?_ (by first | (simp; done) | (simp; omega)) _ | refine Grow.trans ?_ (by assumption))))
    · have H2 := Lib.hid h2
      have h2' : (st.kind == 2) = false := by simp; omega
      have h4 : (st.kind == 4) = false := by simp; omega
      clear h2
      by_cases h1 : st.kind = 1
      · have e : visS st = (st.pl, false) :: visR st.r := by simp [visS, H3.out, H2.out, h1]
        have Hv := Lib.hid e
        have Hp : Hid (G st.pl) := hG (st.pl, false) (by rw [e]; simp)
        have HG : Hid (∀ v ∈ visR st.r, G v.1) := fun v hv => hG v (by rw [e]; simp [hv])
        clear e hG
        replace h1 : (st.kind == 1) = true := by simp [h1]
        haveI hsz : ∀ s0 s1, EqW (W s1).heap.size (W s0) := fun s0 s1 => hon.szW s1 s0
        by_cases hr : st.r.kind = 4 ∨ st.r.kind = 5
        · have e : visR st.r = [(st.r.pl, false)] := by simp [visR, hr]
          have Hv2 := Lib.hid e
          have Hp2 : Hid (G st.r.pl) := HG.out (st.r.pl, false) (by rw [e]; simp)
          clear e
          have hr' : ((st.r.kind == 4) = true) ∨ ((st.r.kind == 4) = false ∧ (st.r.kind == 5) = true) := by rcases hr with h | h <;> simp [h]
          clear hr
          rcases hk with rfl | rfl
          all_goals (rcases hr' with hr4 | ⟨hr4, hr5⟩)
          all_goals
            go_enter Try.func92, Try.ntmps92
            go_wp2_with (first | (go_at_call 91; with_reducible refine ((hon.alloc _).at s st.pl _ hwp Hp.out).mono ?_; rintro e w1 ⟨rfl, y1, rfl⟩) | (go_at_call 95; with_reducible refine ((hon.alloc _).at s st.pl _ hwp Hp.out).mono ?_; rintro e w1 ⟨rfl, y1, rfl⟩) | (go_at_call 91; with_reducible refine (((hon.alloc _).ext y1).at (step s st.pl false) st.r.pl _ hwr.pl Hp2.out).mono ?_; rintro e w2 ⟨rfl, y2, rfl⟩) | (go_at_call 95; with_reducible refine (((hon.alloc _).ext y1).at (step s st.pl false) st.r.pl _ hwr.pl Hp2.out).mono ?_; rintro e w2 ⟨rfl, y2, rfl⟩))
            go_end0
            exact Told.of (by rw [Hv.out, Hv2.out, visFold_cons, visFold_cons, visFold_nil]) (by (repeat (first | (with_reducible exact Grow.refl _) | assumption | refine Grow.ext ?_ _ | refine Grow.alloc ?_ _ | refine Grow.drew ?_ | refine Grow.setCell ?_ (by first | (simp; done) | (simp; omega)) _ | refine Grow.trans ?_ (by assumption))))
        · have Hr := Lib.hid hr
          have hr4 : (st.r.kind == 4) = false := by simp; omega
          have hr5 : (st.r.kind == 5) = false := by simp; omega
          clear hr
          by_cases hu : st.r.kind = 1
          · have e : visR st.r = visOs true [st.r.a] := by simp [visR, Hr.out, hu]
            have Hv2 := Lib.hid e
            have Hp2 : Hid (∀ o ∈ [st.r.a], o.kind ≠ 1 → G o.pl) := by
              intro o ho hc; simp at ho; subst ho
              exact HG.out (st.r.a.pl, true && decide (st.r.a.kind = 3)) (by rw [e]; simp [visOs, visO, hc])
            clear e
            replace hu : (st.r.kind == 1) = true := by simp [hu]
            have HS : Hid (∀ y1 s0, Sl (fun _ => True) ((ext ((W s0).alloc (Obj.cells #[.int .u8 st.kind, .int .i64 st.pl.loc, .bool st.pl.deref, .int .u8 st.pl.field, .int .u8 st.r.kind, .int .u8 st.r.op, .int .u8 st.r.bo, .int .u8 st.r.a.kind, .int .i64 st.r.a.n, .int .i64 st.r.a.pl.loc, .bool st.r.a.pl.deref, .int .u8 st.r.a.pl.field, .int .u8 st.r.b.kind, .int .i64 st.r.b.n, .int .i64 st.r.b.pl.loc, .bool st.r.b.pl.deref, .int .u8 st.r.b.pl.field, .int .i64 st.r.pl.loc, .bool st.r.pl.deref, .int .u8 st.r.pl.field, .int .u8 st.a.kind, .int .i64 st.a.n, .int .i64 st.a.pl.loc, .bool st.a.pl.deref, .int .u8 st.a.pl.field, .int .i64 st.loc] 38)) y1).alloc (Obj.cells #[.int .u8 st.r.a.kind, .int .i64 st.r.a.n, .int .i64 st.r.a.pl.loc, .bool st.r.a.pl.deref, .int .u8 st.r.a.pl.field] 28)) (.slice (some ⟨(W (step s st.pl false)).heap.size + 1 + y1.k, 0, none⟩) 1 1) [st.r.a]) := by
              intro y1 s0
              exact Sl.one trivial (by simp [hon.size (step s st.pl false) s0]) (by omega) (by omega) ⟨rfl, hwr.a⟩ (by (repeat (refine CellsAt.cons (by go_simp) ?_)); exact CellsAt.nil _ _ _)
            rcases hk with rfl | rfl
            all_goals
              go_enter Try.func92, Try.ntmps92
              go_wp2_with (first | (go_at_call 91; with_reducible refine ((hon.alloc _).at s st.pl _ hwp Hp.out).mono ?_; rintro e w1 ⟨rfl, y1, rfl⟩) | (go_at_call 95; with_reducible refine ((hon.alloc _).at s st.pl _ hwp Hp.out).mono ?_; rintro e w1 ⟨rfl, y1, rfl⟩) | (go_at_call 107; go_must (with_reducible refine (fn_operands (by first | exact Or.inl rfl | exact Or.inr rfl) (((hon.alloc _).ext y1).alloc _) [st.r.a] _ true (step s st.pl false) (HS.out y1) Hp2.out).mono ?_); rintro e w2 ⟨rfl, y2, rfl⟩))
              go_end0
              exact Told.of (by rw [Hv.out, Hv2.out, visFold_cons]) (by (repeat (first | (with_reducible exact Grow.refl _) | assumption | refine Grow.ext ?_ _ | refine Grow.alloc ?_ _ | refine Grow.drew ?_ | refine Grow.setCell ?_ (by first | (simp; done) | (simp; omega)) _ | refine Grow.trans ?_ (by assumption))))
          · have e : visR st.r = visOs false [st.r.a, st.r.b] := by simp [visR, Hr.out, hu]
            have Hv2 := Lib.hid e
            have Hp2 : Hid (∀ o ∈ [st.r.a, st.r.b], o.kind ≠ 1 → G o.pl) := by
              intro o ho hc
              exact HG.out (o.pl, false && decide (o.kind = 3)) (by rw [e]; unfold visOs; rw [List.mem_flatMap]; exact ⟨o, ho, by simp [visO, hc]⟩)
            clear e
            replace hu : (st.r.kind == 1) = false := by simp [hu]
            have HS : Hid (∀ y1 s0, Sl (fun _ => True) ((ext ((W s0).alloc (Obj.cells #[.int .u8 st.kind, .int .i64 st.pl.loc, .bool st.pl.deref, .int .u8 st.pl.field, .int .u8 st.r.kind, .int .u8 st.r.op, .int .u8 st.r.bo, .int .u8 st.r.a.kind, .int .i64 st.r.a.n, .int .i64 st.r.a.pl.loc, .bool st.r.a.pl.deref, .int .u8 st.r.a.pl.field, .int .u8 st.r.b.kind, .int .i64 st.r.b.n, .int .i64 st.r.b.pl.loc, .bool st.r.b.pl.deref, .int .u8 st.r.b.pl.field, .int .i64 st.r.pl.loc, .bool st.r.pl.deref, .int .u8 st.r.pl.field, .int .u8 st.a.kind, .int .i64 st.a.n, .int .i64 st.a.pl.loc, .bool st.a.pl.deref, .int .u8 st.a.pl.field, .int .i64 st.loc] 38)) y1).alloc (.cells #[.int .u8 st.r.a.kind, .int .i64 st.r.a.n, .int .i64 st.r.a.pl.loc, .bool st.r.a.pl.deref, .int .u8 st.r.a.pl.field, .int .u8 st.r.b.kind, .int .i64 st.r.b.n, .int .i64 st.r.b.pl.loc, .bool st.r.b.pl.deref, .int .u8 st.r.b.pl.field] 28)) (.slice (some ⟨(W (step s st.pl false)).heap.size + 1 + y1.k, 0, none⟩) 2 2) [st.r.a, st.r.b]) := by
              intro y1 s0
              exact Sl.two trivial (by simp [hon.size (step s st.pl false) s0]) (by omega) (by omega) ⟨rfl, hwr.a⟩ (by (repeat (refine CellsAt.cons (by go_simp) ?_)); exact CellsAt.nil _ _ _) ⟨rfl, hwr.b⟩ (by (repeat (refine CellsAt.cons (by go_simp) ?_)); exact CellsAt.nil _ _ _)
            rcases hk with rfl | rfl
            all_goals
              go_enter Try.func92, Try.ntmps92
              go_wp2_with (first | (go_at_call 91; with_reducible refine ((hon.alloc _).at s st.pl _ hwp Hp.out).mono ?_; rintro e w1 ⟨rfl, y1, rfl⟩) | (go_at_call 95; with_reducible refine ((hon.alloc _).at s st.pl _ hwp Hp.out).mono ?_; rintro e w1 ⟨rfl, y1, rfl⟩) | (go_at_call 107; go_must (with_reducible refine (fn_operands (by first | exact Or.inl rfl | exact Or.inr rfl) (((hon.alloc _).ext y1).alloc _) [st.r.a, st.r.b] _ false (step s st.pl false) (HS.out y1) Hp2.out).mono ?_); rintro e w2 ⟨rfl, y2, rfl⟩))
              go_end0
              exact Told.of (by rw [Hv.out, Hv2.out, visFold_cons]) (by (repeat (first | (with_reducible exact Grow.refl _) | assumption | refine Grow.ext ?_ _ | refine Grow.alloc ?_ _ | refine Grow.drew ?_ | refine Grow.setCell ?_ (by first | (simp; done) | (simp; omega)) _ | refine Grow.trans ?_ (by assumption))))
      · have e : visS st = [] := by simp [visS, H3.out, H2.out, h1]
        have Hv := Lib.hid e
        clear e hG
        replace h1 : (st.kind == 1) = false := by simp [h1]
        rcases hk with rfl | rfl
        all_goals
          go_enter Try.func92, Try.ntmps92
          go_wp2_with fail
          go_end0
          exact Told.of (by rw [Hv.out, visFold_nil]) (by (repeat (first | (with_reducible exact Grow.refl _) | assumption | refine Grow.ext ?_ _ | refine Grow.alloc ?_ _ | refine Grow.drew ?_ | refine Grow.setCell ?_ (by first | (simp; done) | (simp; omega)) _ | refine Grow.trans ?_ (by assumption))))
set_option maxHeartbeats 1000000 in
theorem fn_inJump {S : Type} {k : Nat} {c1 c2 : Value} {W : S → World} {step : S → Pl → Bool → S} {G : Pl → Prop} (hk : k = 91 ∨ k = 95) (hon : On k c1 c2 W step G)
    (j : Ju) (av : Value) (s : S) (hw : j.wf) {F : Nat → Prop} (hav : ∀ s, Sl F (W s) av j.args) (hG : ∀ v ∈ visJ j, G v.1) :
    Calls Try.prog 94 #[j.v av, .func (.func k) #[] #[c1, c2]] (W s) (Told W (visFold step s (visJ j))) := by
  obtain ⟨a, n, cap, rfl, Hn, hm, hcap, hcm, _⟩ := (hav s).open
  have hwa := hw.a; have hwd := hw.dest
  by_cases h2 : j.kind = 2
  · have e : visJ j = visOs false [j.a] := by simp [visJ, h2]
    have Hv := Lib.hid e
    have Hp : Hid (∀ o ∈ [j.a], o.kind ≠ 1 → G o.pl) := by
      intro o ho hc; simp at ho; subst ho
      exact hG (j.a.pl, false) (by rw [e]; simp [visOs, visO, hc])
    clear e hG
    replace h2 : (j.kind == 2) = true := by simp [h2]
    haveI hsz : ∀ s0, EqW (W s).heap.size (W s0) := fun s0 => hon.szW s s0
    have HS : Hid (∀ s0, Sl (fun _ => True) (((W s0).alloc (Obj.cells #[.int .u8 j.kind, .int .u8 j.a.kind, .int .i64 j.a.n, .int .i64 j.a.pl.loc, .bool j.a.pl.deref, .int .u8 j.a.pl.field, .int .i64 j.fn, .int .i64 j.next, .int .i64 j.els, .slice a n cap, .int .i64 j.dest.loc, .bool j.dest.deref, .int .u8 j.dest.field] 46)).alloc (Obj.cells #[.int .u8 j.a.kind, .int .i64 j.a.n, .int .i64 j.a.pl.loc, .bool j.a.pl.deref, .int .u8 j.a.pl.field] 28)) (.slice (some ⟨(W s).heap.size + 1, 0, none⟩) 1 1) [j.a]) := by
      intro s0
      exact Sl.one trivial (by simp [hon.size s s0]) (by omega) (by omega) ⟨rfl, hwa⟩ (by (repeat (refine CellsAt.cons (by go_simp) ?_)); exact CellsAt.nil _ _ _)
    rcases hk with rfl | rfl
    all_goals
      go_enter Try.func94, Try.ntmps94
      go_wp2_with (first | (go_at_call 107; go_must (with_reducible refine (fn_operands (by first | exact Or.inl rfl | exact Or.inr rfl) ((hon.alloc _).alloc _) [j.a] _ false s HS.out Hp.out).mono ?_); rintro e w1 ⟨rfl, y1, rfl⟩))
      go_end0
      exact Told.of (by rw [Hv.out]) (by (repeat (first | (with_reducible exact Grow.refl _) | assumption | refine Grow.ext ?_ _ | refine Grow.alloc ?_ _ | refine Grow.drew ?_ | refine Grow.setCell ?_ (by first | (simp; done) | (simp; omega)) _ | refine Grow.trans ?_ (by assumption))))
  · have H2 := Lib.hid h2
    replace h2 : (j.kind == 2) = false := by simp [h2]
    by_cases h4 : j.kind = 4
    · have e : visJ j = (j.dest, false) :: visOs true j.args := by simp [visJ, h4]
      have Hv := Lib.hid e
      have Hp : Hid (G j.dest) := hG (j.dest, false) (by rw [e]; simp)
      have Hp2 : Hid (∀ o ∈ j.args, o.kind ≠ 1 → G o.pl) := by
        intro o ho hc
        exact hG (o.pl, true && decide (o.kind = 3)) (by rw [e]; refine List.mem_cons_of_mem _ ?_; unfold visOs; rw [List.mem_flatMap]; exact ⟨o, ho, by simp [visO, hc]⟩)
      clear e hG
      replace h4 : (j.kind == 4) = true := by simp [h4]
      haveI hsz : ∀ s0 s1, EqW (W s1).heap.size (W s0) := fun s0 s1 => hon.szW s1 s0
      rcases hk with rfl | rfl
      all_goals
        go_enter Try.func94, Try.ntmps94
        go_wp2_with (first | (go_at_call 91; with_reducible refine ((hon.alloc _).at s j.dest _ hwd Hp.out).mono ?_; rintro e w1 ⟨rfl, y1, rfl⟩) | (go_at_call 95; with_reducible refine ((hon.alloc _).at s j.dest _ hwd Hp.out).mono ?_; rintro e w1 ⟨rfl, y1, rfl⟩) | (go_at_call 107; go_must (with_reducible refine (fn_operands (by first | exact Or.inl rfl | exact Or.inr rfl) ((hon.alloc _).ext y1) j.args _ true (step s j.dest false) (fun s0 => (hav s0).mono (by (repeat (first | (with_reducible exact Grow.refl _) | assumption | refine Grow.ext ?_ _ | refine Grow.alloc ?_ _ | refine Grow.drew ?_ | refine Grow.setCell ?_ (by first | (simp; done) | (simp; omega)) _ | refine Grow.trans ?_ (by assumption))))) Hp2.out).mono ?_); rintro e w2 ⟨rfl, y2, rfl⟩))
        go_end0
        exact Told.of (by rw [Hv.out, visFold_cons]) (by (repeat (first | (with_reducible exact Grow.refl _) | assumption | refine Grow.ext ?_ _ | refine Grow.alloc ?_ _ | refine Grow.drew ?_ | refine Grow.setCell ?_ (by first | (simp; done) | (simp; omega)) _ | refine Grow.trans ?_ (by assumption))))
    · have e : visJ j = [] := by simp [visJ, H2.out, h4]
      have Hv := Lib.hid e
      clear e hG
      replace h4 : (j.kind == 4) = false := by simp [h4]
      rcases hk with rfl | rfl
      all_goals
        go_enter Try.func94, Try.ntmps94
        go_wp2_with fail
        go_end0
        exact Told.of (by rw [Hv.out, visFold_nil]) (by (repeat (first | (with_reducible exact Grow.refl _) | assumption | refine Grow.ext ?_ _ | refine Grow.alloc ?_ _ | refine Grow.drew ?_ | refine Grow.setCell ?_ (by first | (simp; done) | (simp; omega)) _ | refine Grow.trans ?_ (by assumption))))
end Go.Proofs.Ythackfblfkpddaa
