/- Layer 8: the law of what is reached. -/
import Derived.Test.YthackfblfkpddaaL08l
import Derived.Test.YthackfblfkpddaaL08d
import Derived.Test.YthackfblfkpddaaLG08
import Derived.Test.YthackfblfkpddaaReg
import Derived.Deep.DeepCutAuto
import Derived.Deep.CutBlock
namespace Go.Proofs.Ythackfblfkpddaa
open Go.RowKit
set_option linter.unusedSimpArgs false
set_option linter.unusedVariables false

def inB (l : List Int) (n : Int) : Bool := l.any (fun x => x == n)
theorem inB_iff (l : List Int) (n : Int) : inB l n = true ↔ n ∈ l := by
  unfold inB; rw [List.any_eq_true]
  constructor
  · rintro ⟨x, hx, h⟩; simp at h; exact h ▸ hx
  · intro h; exact ⟨n, h, by simp⟩
set_option maxHeartbeats 1000000 in
theorem law08_in (v : Value) (l : List Int) (n : Int) (w : World) {F : Nat → Prop} (h : Sl F w v l) (hn : I64 n) : Calls Try.prog 21 #[v, .int .i64 n] w (Ret w (.bool (inB l n))) := by
  obtain ⟨a, m, cap, rfl, Hn, hm, hcap, hcm, h⟩ := h.open
  go_enter Try.func21, Try.ntmps21
  go_wp2_with fail
  go_loopw [5] (fun i wr => ∃ (k : Nat), k ≤ m ∧ i = .int .i64 k ∧ Grow w wr ∧ Hid ((l.take k).any (fun x => x == n) = false)) (fun i _ => m - (intOf i).toNat)
  case atStart => exact ⟨0, Nat.zero_le _, rfl, (by (repeat (first | (with_reducible exact Grow.refl _) | assumption | refine Grow.ext ?_ _ | refine Grow.alloc ?_ _ | refine Grow.drew ?_ | refine Grow.setCell ?_ (by first | (simp; done) | (simp; omega)) _ | refine Grow.trans ?_ (by assumption)))), Lib.hid (by simp)⟩
  case round =>
    obtain ⟨k, hk, rfl, hb1, Ha⟩ := hrel
    obtain ⟨y1, rfl⟩ := ext_of_grow hb1
    by_cases hlt : k < m
    · obtain ⟨b_c, off_c, c, rfl, ⟨Hg_c, hl_c, hw_c, c_c0⟩⟩ := h.int k hlt
      cases hc : (c == n)
      · have Hs : Hid ((l.take (k + 1)).any (fun x => x == n) = false) := Lib.hid (by rw [any_snoc Hg_c, Ha.out, hc]; rfl)
        go_wp2_with fail
        go_roundw
        case rel => exact ⟨k + 1, by omega, by go_num, (by (repeat (first | (with_reducible exact Grow.refl _) | assumption | refine Grow.ext ?_ _ | refine Grow.alloc ?_ _ | refine Grow.drew ?_ | refine Grow.setCell ?_ (by first | (simp; done) | (simp; omega)) _ | refine Grow.trans ?_ (by assumption)))), Hs⟩
        case measure => simp [intOf]; omega
      · have Hs : Hid (inB l n = true) := Lib.hid ((inB_iff l n).2 (by have := List.mem_of_getElem? Hg_c.out; simp at hc; exact hc ▸ this))
        go_wp2_with fail
        go_ret
        exact Ret.bool Hs.out.symm (by (repeat (first | (with_reducible exact Grow.refl _) | assumption | refine Grow.ext ?_ _ | refine Grow.alloc ?_ _ | refine Grow.drew ?_ | refine Grow.setCell ?_ (by first | (simp; done) | (simp; omega)) _ | refine Grow.trans ?_ (by assumption))))
    · have Hs : Hid (inB l n = false) := Lib.hid (by have := Ha.out; rw [List.take_of_length_le (by rw [← Hn.out]; omega)] at this; exact this)
      go_wp2_with fail
      go_ret
      exact Ret.bool Hs.out.symm (by (repeat (first | (with_reducible exact Grow.refl _) | assumption | refine Grow.ext ?_ _ | refine Grow.alloc ?_ _ | refine Grow.drew ?_ | refine Grow.setCell ?_ (by first | (simp; done) | (simp; omega)) _ | refine Grow.trans ?_ (by assumption))))
theorem law08_in_at (v : Value) (l : List Int) (n : Int) (w : World) {F : Nat → Prop} (h : Sl F w v l) (hn : I64 n) {b : Bool} (hb : inB l n = b) : Calls Try.prog 21 #[v, .int .i64 n] w (Ret w (.bool b)) := hb ▸ law08_in v l n w h hn

theorem rmem {p : Pr} {x : Int} (h : x ∈ reachL p) : ∃ k : Nat, x = k ∧ k < p.funcs.length ∧ reachB p k = true := by
  unfold reachL reachUpto at h
  obtain ⟨c, hc, rfl⟩ := List.mem_map.1 h
  have := List.mem_filter.1 hc
  exact ⟨c, rfl, List.mem_range.1 this.1, this.2⟩
theorem rmem_of {p : Pr} {k : Nat} (h : k < p.funcs.length) (hr : reachB p k = true) : (k : Int) ∈ reachL p := by
  unfold reachL reachUpto
  exact List.mem_map.2 ⟨k, List.mem_filter.2 ⟨List.mem_range.2 h, hr⟩, rfl⟩
theorem reach_sorted (p : Pr) : (reachL p).Pairwise (· < ·) := by
  unfold reachL reachUpto
  rw [List.pairwise_map]
  exact (List.pairwise_lt_range.filter _).imp (fun h => by omega)
theorem reach_lt {p : Pr} {i j : Nat} {x y : Int} (hij : i < j) (h1 : (reachL p)[i]? = some x) (h2 : (reachL p)[j]? = some y) : x < y := by
  obtain ⟨hi, rfl⟩ := List.getElem?_eq_some_iff.1 h1
  obtain ⟨hj, rfl⟩ := List.getElem?_eq_some_iff.1 h2
  exact List.pairwise_iff_getElem.1 (reach_sorted p) i j hi hj hij
theorem reach_zero {p : Pr} (h : prErr p = 0) : (reachL p)[0]? = some 0 := by
  have h1 := (pr_ok h).1
  unfold reachL
  obtain ⟨m, hm⟩ : ∃ m, p.funcs.length = m + 1 := ⟨p.funcs.length - 1, by omega⟩
  rw [hm]
  have : ∀ m, ∃ l, reachUpto p (m + 1) = 0 :: l := by
    intro m; induction m with
    | zero => exact ⟨[], reachUpto_one h⟩
    | succ m ih => obtain ⟨l, e⟩ := ih; rw [reachUpto_succ, e]; exact ⟨_, rfl⟩
  obtain ⟨l, e⟩ := this m
  rw [e]; rfl
theorem reach_next {p : Pr} (h : prErr p = 0) {m c : Nat} (hm : (m : Int) ∈ reachL p) (hg : gr p m c = true) : (c : Int) ∈ reachL p := by
  obtain ⟨k, e, hk, hr⟩ := rmem hm
  obtain rfl : m = k := by omega
  refine rmem_of (gr_lt h _ _ hg).2 ((reachB_iff h c).2 (Or.inr ?_))
  rcases (reachB_iff h m).1 hr with rfl | hr
  · exact .one hg
  · exact .next hr hg
theorem reach_pred {p : Pr} (h : prErr p = 0) {c : Nat} (hc : (c : Int) ∈ reachL p) (h0 : c ≠ 0) : ∃ m : Nat, m ≠ c ∧ (m : Int) ∈ reachL p ∧ gr p m c = true := by
  obtain ⟨k, e, hk, hr⟩ := rmem hc
  obtain rfl : c = k := by omega
  clear hc e hk
  have hr' := (reachB_iff h c).1 hr
  clear hr
  rcases hr' with hr | hr
  · exact absurd hr h0
  · induction hr with
    | one hg => exact ⟨0, Ne.symm h0, rmem_of (gr_lt h _ _ hg).1 ((reachB_iff h 0).2 (Or.inl rfl)), hg⟩
    | @next m c hm hg ih =>
      by_cases e : m = c
      · subst e; exact ih h0
      · exact ⟨m, e, rmem_of (gr_lt h _ _ hg).1 ((reachB_iff h m).2 (Or.inr hm)), hg⟩
/-- What the marks must tell: those that are called by the first i. -/
def ToldBy (p : Pr) (i : Nat) (h : Nat → Bool) : Prop := ∀ (i' : Nat) (m c : Nat), i' < i → (reachL p)[i']? = some (m : Int) → m ≠ c → gr p m c = true → h c = true
structure QH where
  h : Nat → Bool
  x : Ext
instance : Inhabited QH := ⟨⟨fun _ => false, default⟩⟩
theorem reached_vv (p : Pr) (pv : Value) (w : World) {F : Nat → Prop} (hp : Sl F w pv p.funcs) (hok : prErr p = 0) : Calls Try.prog 20 #[p.v pv] w (RetP w fun v w' => ∃ a n c, v = .tuple #[.slice a n c, .int .i64 0] ∧ n ≤ 9223372036854775807 ∧ Hid (n = (reachL p).length) ∧ Sl (Fresh w) w' (.slice a n c) (reachL p)) :=
  (program_Reached p pv w hp hok).mono (by rintro e w' ⟨v, rfl, ⟨u, rfl, hs⟩, g⟩; obtain ⟨a, n, c, rfl, Hn, hm, hcap, hcm, hs⟩ := hs.open; exact ⟨_, rfl, ⟨a, n, c, rfl, hm, Hn, hs⟩, g⟩)
theorem calls_vv (f : Fn) (v1 v2 : Value) (w : World) {F F' : Nat → Prop} (hf : f.wf) (h1 : Sl F w v1 f.locals) (h2 : Sl F' w v2 f.blocks) (hok : fnErr f = 0) (B : Nat) (hB : B < w.heap.size) :
    Calls Try.prog 18 #[f.v v1 v2] w (RetP w fun v w' => ∃ a n c, v = .tuple #[.slice a n c, .int .i64 0] ∧ n ≤ 9223372036854775807 ∧ Hid (n = (callsL f).length) ∧ Sl (fun k => k ≠ B) w' (.slice a n c) (callsL f)) :=
  (fnshape_Calls f v1 v2 w hf h1 h2 hok).mono (by
    rintro e w' ⟨v, rfl, ⟨u, rfl, hs⟩, g⟩; obtain ⟨a, n, c, rfl, Hn, hm, hcap, hcm, hs⟩ := hs.open
    exact ⟨_, rfl, ⟨a, n, c, rfl, hm, Hn, hs.wide (fun b hb hF => by rcases hF with hF | hF; exact hF.elim; omega)⟩, g⟩)
theorem ex5 {A B C : Prop} {W w : World} {α : Type} [Rp α] {F : Nat → Prop} {v : Value} {l : List α} (a : A) (b : B) (g : Grow W w) (s : Sl F w v l) (c : C) : ∃ y, A ∧ B ∧ w = ext W y ∧ Sl F w v l ∧ C := by
  obtain ⟨y, hy⟩ := ext_of_grow g; exact ⟨y, a, b, hy, s, c⟩
theorem sl_turn {α : Type} [Rp α] {W1 : World} {h h' : Nat → Bool} {t : TypeId} {y : Ext} {B : Nat} {v : Value} {l : List α} (hs : Sl (fun k => k ≠ B) (ext (W1.alloc (.cells (b8 h) t)) y) v l) (hB : B = W1.heap.size) : Sl (fun k => k ≠ B) (ext (W1.alloc (.cells (b8 h') t)) y) v l :=
  hs.keep ((AgrS.alloc (AgrS.refl _ _) (by simp [hB]) _ _).ext y).agr
end Go.Proofs.Ythackfblfkpddaa
