/- Layers 4, 6 and 7: small functions: targets of jumps, operands, two-phase borrows, sizes. -/
import Derived.Test.YthackfblfkpddaaL07
import Derived.Test.YthackfblfkpddaaL06
namespace Go.Proofs.Ythackfblfkpddaa
open Go.RowKit
set_option linter.unusedSimpArgs false
set_option linter.unusedVariables false

def leads (j : Ju) : List Int := if j.kind = 3 ∨ j.kind = 5 then [] else if j.kind = 2 ∧ j.els ≠ j.next then [j.next, j.els] else [j.next]
set_option maxHeartbeats 400000 in
theorem ref06_Leads (j : Ju) (av : Value) (w : World) (hj : j.wf) {F : Nat → Prop} (hav : Sl F w av j.args) :
    Calls Try.prog 104 #[j.v av] w (RetP w fun v w' => Sl (Fresh w) w' v (leads j)) := by
  obtain ⟨a, n, cap, rfl, Hn, hm, hcap, hcm, hav⟩ := hav.open
  have hn := hj.next; have he := hj.els
  go_enter Try.func104, Try.ntmps104
  go_wp2
  all_goals (refine postP_of (by simp only [results, Try.results104]; go_simp; rfl) rfl (by (repeat (first | (with_reducible exact Grow.refl _) | assumption | refine Grow.ext ?_ _ | refine Grow.alloc ?_ _ | refine Grow.drew ?_ | refine Grow.setCell ?_ (by first | (simp; done) | (simp; omega)) _ | refine Grow.trans ?_ (by assumption)))) ?_)
  all_goals first
    | (rw [show leads j = [] from by clear hav hj Hn; grind [leads]]; exact Sl.nil _ _)
    | (rw [show leads j = [j.next] from by clear hav hj Hn; grind [leads]]; exact Sl.one (by simp [Fr]) (by simp) (by omega) (by omega) ⟨rfl, hn⟩ (by (repeat (refine CellsAt.cons (by go_simp) ?_)); exact CellsAt.nil _ _ _))
    | (rw [show leads j = [j.next, j.els] from by clear hav hj Hn; grind [leads]]; exact Sl.two (by simp [Fr]) (by simp) (by omega) (by omega) ⟨rfl, hn⟩ (by (repeat (refine CellsAt.cons (by go_simp) ?_)); exact CellsAt.nil _ _ _) ⟨rfl, he⟩ (by (repeat (refine CellsAt.cons (by go_simp) ?_)); exact CellsAt.nil _ _ _))
def leadsIf (j : Ju) : List Int := if juErr j = 0 then leads j else []
theorem postP2 {P : Program} {fn : Func} {a : Act} {w w0 : World} {v u : Value} {Φ : Value → World → Prop}
    (hr : (results fn a.tmps).run P w = .ok (.tuple #[v, u]) w) (hd : a.defers = []) (g : Grow w0 w) (hv : Φ (.tuple #[v, u]) w) : bodyPost P fn (RetP w0 Φ) .ret a w := postP_of hr hd g hv
set_option maxHeartbeats 400000 in
theorem jump_Targets (j : Ju) (av : Value) (w : World) (hj : j.wf) {F : Nat → Prop} (hav : Sl F w av j.args) :
    Calls Try.prog 93 #[j.v av] w (RetP w fun v w' => ∃ u, v = .tuple #[u, .int .i64 (juErr j)] ∧ Sl (Fresh w) w' u (leadsIf j)) := by
  obtain ⟨a, n, cap, rfl, Hn, hm, hcap, hcm, hav⟩ := hav.open
  have hn := hj.next; have he := hj.els
  cases h0 : (juErr j != 0)
  · have H0 : Hid (juErr j = 0) := Lib.hid (by simpa using h0)
    rw [show leadsIf j = leads j from if_pos H0.out, H0.out]
    go_enter Try.func93, Try.ntmps93
    go_wp2_with (first | (go_at_call 36; ((with_reducible refine (jump_Check j _ _ hj (hav.mono (by (repeat (first | (with_reducible exact Grow.refl _) | assumption | refine Grow.ext ?_ _ | refine Grow.alloc ?_ _ | refine Grow.drew ?_ | refine Grow.setCell ?_ (by first | (simp; done) | (simp; omega)) _ | refine Grow.trans ?_ (by assumption)))))).mono ?_); rintro e w1 ⟨rfl, hb1⟩; obtain ⟨x1, rfl⟩ := ext_of_grow hb1; clear hb1)))
    all_goals (refine postP_of (by simp only [results, Try.results93]; go_simp; rfl) rfl (by (repeat (first | (with_reducible exact Grow.refl _) | assumption | refine Grow.ext ?_ _ | refine Grow.alloc ?_ _ | refine Grow.drew ?_ | refine Grow.setCell ?_ (by first | (simp; done) | (simp; omega)) _ | refine Grow.trans ?_ (by assumption)))) ⟨_, rfl, ?_⟩)
    all_goals first
      | (rw [show leads j = [] from by clear hav hj Hn; grind [leads]]; exact Sl.nil _ _)
      | (rw [show leads j = [j.next] from by clear hav hj Hn; grind [leads]]; exact Sl.one (by simp [Fr]; try omega) (by simp; try omega) (by omega) (by omega) ⟨rfl, hn⟩ (by (repeat (refine CellsAt.cons (by go_simp) ?_)); exact CellsAt.nil _ _ _))
      | (rw [show leads j = [j.next, j.els] from by clear hav hj Hn; grind [leads]]; exact Sl.two (by simp [Fr]; try omega) (by simp; try omega) (by omega) (by omega) ⟨rfl, hn⟩ (by (repeat (refine CellsAt.cons (by go_simp) ?_)); exact CellsAt.nil _ _ _) ⟨rfl, he⟩ (by (repeat (refine CellsAt.cons (by go_simp) ?_)); exact CellsAt.nil _ _ _))
  · have H0 : Hid (¬ juErr j = 0) := Lib.hid (by simpa using h0)
    rw [show leadsIf j = [] from if_neg H0.out]
    go_enter Try.func93, Try.ntmps93
    go_wp2_with (first | (go_at_call 36; ((with_reducible refine (jump_Check j _ _ hj (hav.mono (by (repeat (first | (with_reducible exact Grow.refl _) | assumption | refine Grow.ext ?_ _ | refine Grow.alloc ?_ _ | refine Grow.drew ?_ | refine Grow.setCell ?_ (by first | (simp; done) | (simp; omega)) _ | refine Grow.trans ?_ (by assumption)))))).mono ?_); rintro e w1 ⟨rfl, hb1⟩; obtain ⟨x1, rfl⟩ := ext_of_grow hb1; clear hb1)))
    all_goals (refine postP_of (by simp only [results, Try.results93]; go_simp <;> rfl) rfl (by (repeat (first | (with_reducible exact Grow.refl _) | assumption | refine Grow.ext ?_ _ | refine Grow.alloc ?_ _ | refine Grow.drew ?_ | refine Grow.setCell ?_ (by first | (simp; done) | (simp; omega)) _ | refine Grow.trans ?_ (by assumption)))) ⟨_, rfl, Sl.nil _ _⟩)

def placed (o : Opd) : Bool := decide (o.kind = 2 ∨ o.kind = 3)
set_option maxHeartbeats 400000 in
theorem ref04_Placed (o : Opd) (w : World) : Calls Try.prog 105 #[o.v] w (Ret w (.bool (placed o))) := by
  go_enter Try.func105, Try.ntmps105
  go_wp2
  all_goals go_ret
  all_goals (refine Ret.bool ?_ (by (repeat (first | (with_reducible exact Grow.refl _) | assumption | refine Grow.ext ?_ _ | refine Grow.alloc ?_ _ | refine Grow.drew ?_ | refine Grow.setCell ?_ (by first | (simp; done) | (simp; omega)) _ | refine Grow.trans ?_ (by assumption)))))
  all_goals (unfold placed; grind)

def juParts (j : Ju) : List Opd := if j.kind = 2 then [j.a] else j.args
set_option maxHeartbeats 400000 in
theorem ref06_Parts (j : Ju) (av : Value) (w : World) (hj : j.wf) {F : Nat → Prop} (hav : Sl F w av j.args) :
    Calls Try.prog 106 #[j.v av] w (RetP w fun v w' => Sl (Fr F w.heap.size) w' v (juParts j)) := by
  obtain ⟨a, n, cap, rfl, Hn, hm, hcap, hcm, hav⟩ := hav.open
  have ha := hj.a
  go_enter Try.func106, Try.ntmps106
  go_wp2
  all_goals (refine postP_of (by simp only [results, Try.results106]; go_simp; rfl) rfl (by (repeat (first | (with_reducible exact Grow.refl _) | assumption | refine Grow.ext ?_ _ | refine Grow.alloc ?_ _ | refine Grow.drew ?_ | refine Grow.setCell ?_ (by first | (simp; done) | (simp; omega)) _ | refine Grow.trans ?_ (by assumption)))) ?_)
  all_goals first
    | (rw [show juParts j = [j.a] from by clear hav hj Hn; grind [juParts]]; exact Sl.one (by simp [Fr]) (by simp) (by omega) (by omega) ⟨rfl, ha⟩ (by (repeat (refine CellsAt.cons (by go_simp) ?_)); exact CellsAt.nil _ _ _))
    | (rw [show juParts j = j.args from by clear hav hj Hn; grind [juParts]]; exact (hav.mono (by (repeat (first | (with_reducible exact Grow.refl _) | assumption | refine Grow.ext ?_ _ | refine Grow.alloc ?_ _ | refine Grow.drew ?_ | refine Grow.setCell ?_ (by first | (simp; done) | (simp; omega)) _ | refine Grow.trans ?_ (by assumption))))).wide fun b _ h => Or.inl h)

def two (s : St) : Bool := decide (s.kind = 1) && decide (s.r.kind = 4) && decide (s.r.bo = 3)
set_option maxHeartbeats 400000 in
theorem fnshape_two (s : St) (w : World) : Calls Try.prog 96 #[s.v] w (Ret w (.bool (two s))) := by
  go_enter Try.func96, Try.ntmps96
  go_wp2
  all_goals go_ret
  all_goals (refine Ret.bool ?_ (by (repeat (first | (with_reducible exact Grow.refl _) | assumption | refine Grow.ext ?_ _ | refine Grow.alloc ?_ _ | refine Grow.drew ?_ | refine Grow.setCell ?_ (by first | (simp; done) | (simp; omega)) _ | refine Grow.trans ?_ (by assumption)))))
  all_goals (unfold two; grind)
set_option maxHeartbeats 400000 in
theorem ref07_Borrows (s : St) (w : World) : Calls Try.prog 85 #[s.v] w (Ret w (.bool (two s))) := by
  go_enter Try.func85, Try.ntmps85
  go_wp2
  all_goals go_ret
  all_goals (refine Ret.bool ?_ (by (repeat (first | (with_reducible exact Grow.refl _) | assumption | refine Grow.ext ?_ _ | refine Grow.alloc ?_ _ | refine Grow.drew ?_ | refine Grow.setCell ?_ (by first | (simp; done) | (simp; omega)) _ | refine Grow.trans ?_ (by assumption)))))
  all_goals (unfold two; grind)
end Go.Proofs.Ythackfblfkpddaa
