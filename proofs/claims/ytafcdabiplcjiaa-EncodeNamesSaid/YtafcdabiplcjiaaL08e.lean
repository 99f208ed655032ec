/- Sets of numbers, kept as a map from int to bool that a call itself makes. Plain: what is reached in a graph of at most eight nodes. Layer 8: the functions that are reached by calls: a stack of numbers, and a set. Layer 8: what is reached by calls. Layer 8: the functions that are reached. -/
import Derived.Test.YtafcdabiplcjiaaL07
import Derived.Test.YtafcdabiplcjiaaL07z
import Derived.Test.YtafcdabiplcjiaaL08d
import Derived.Test.YtafcdabiplcjiaaOwn
import Derived.Maps.Own
import Derived.Maps.Views
import Derived.Maps.OwnSet
import Derived.Deep.DeepMust
namespace Go.Proofs.Ytafcdabiplcjiaa
open Go.RowKit
set_option linter.unusedSimpArgs false
set_option linter.unusedVariables false

open Go.RowKit Go.Maps

theorem keyInt : Keyed Try.prog 3 := int_keyed Try.underlying3
theorem lit64 {c : Int} (h : I64 c) : (Lit.int .i64 c).wf = true := by
  unfold I64 at h; simp [Lit.wf, IntKind.min, IntKind.max, IntKind.bits, IntKind.signed]; omega
/-- Block B is a map that holds true at just the numbers of S. -/
def MapB (w : World) (B : Nat) (n : Nat) (S : Int → Bool) : Prop :=
  ∃ D : DataW Unit, w.ownsMap Try.prog 3 (plainElem Try.prog 4) B n D ∧ ∀ c, D.atKey (.int .i64 c) (.lit (.bool false)) = .lit (.bool (S c))
theorem MapB.made (w : World) : MapB (w.alloc (.map #[] 0)) w.heap.size 0 (fun _ => false) :=
  ⟨_, World.ownsMap_made w _ _ _, fun c => rfl⟩
theorem MapB.kept {w w' : World} {row : Option Nat} {B n : Nat} {S : Int → Bool} (h : MapB w B n S) (hg : w.grownBy w' row) (hne : some B ≠ row) : MapB w' B n S := by
  obtain ⟨D, h1, h2⟩ := h; exact ⟨D, h1.kept hg hne, h2⟩
theorem MapB.lt {w : World} {B n : Nat} {S : Int → Bool} (h : MapB w B n S) : B < w.heap.size := by obtain ⟨D, h1, h2⟩ := h; exact h1.lt
/-- c is reached from s by one step or more. -/
inductive Rch (g : Nat → Nat → Bool) (s : Nat) : Nat → Prop
  | one {c : Nat} : g s c = true → Rch g s c
  | next {m c : Nat} : Rch g s m → g m c = true → Rch g s c
theorem Rch.lt {g : Nat → Nat → Bool} {s c n : Nat} (hg : ∀ i c, g i c = true → c < n) (h : Rch g s c) : c < n := by
  cases h with
  | one h => exact hg _ _ h
  | next _ h => exact hg _ _ h
/-- A set that holds what s steps to, and is closed, holds all. -/
theorem Rch.mem {g : Nat → Nat → Bool} {s c : Nat} {P : Nat → Prop} (h0 : ∀ c, g s c = true → P c) (h1 : ∀ m c, P m → g m c = true → P c) (h : Rch g s c) : P c := by
  induction h with
  | one h => exact h0 _ h
  | next _ h ih => exact h1 _ _ ih h
theorem Rch.trans {g : Nat → Nat → Bool} {s m c : Nat} (h : Rch g s m) (k : Rch g m c) : Rch g s c := by
  induction k with
  | one k => exact .next h k
  | next _ k ih => exact .next ih k
def stepR (g : Nat → Nat → Bool) (h : Nat → Bool) (i : Nat) : Nat → Bool := if h i = true then (fun x => h x || g i x) else h
def rnd (g : Nat → Nat → Bool) (n : Nat) (h : Nat → Bool) : Nat → Bool := (List.range n).foldl (stepR g) h
def rnds (g : Nat → Nat → Bool) (n : Nat) : Nat → (Nat → Bool) → (Nat → Bool)
  | 0, h => h
  | k + 1, h => rnd g n (rnds g n k h)
theorem stepR_le (g : Nat → Nat → Bool) (h : Nat → Bool) (i x : Nat) (hx : h x = true) : stepR g h i x = true := by
  unfold stepR; split <;> simp [hx]
theorem fold_le (g : Nat → Nat → Bool) (l : List Nat) (h : Nat → Bool) (x : Nat) (hx : h x = true) : l.foldl (stepR g) h x = true := by
  induction l generalizing h with
  | nil => exact hx
  | cons i l ih => exact ih _ (stepR_le g h i x hx)
theorem fold_sound (g : Nat → Nat → Bool) (P : Nat → Prop) (hP : ∀ m c, P m → g m c = true → P c) (l : List Nat) (h : Nat → Bool) (h0 : ∀ x, h x = true → P x) : ∀ x, l.foldl (stepR g) h x = true → P x := by
  induction l generalizing h with
  | nil => exact h0
  | cons i l ih =>
    refine ih _ (fun x hx => ?_)
    unfold stepR at hx
    split at hx
    · rename_i hi
      simp only [Bool.or_eq_true] at hx
      rcases hx with hx | hx
      · exact h0 x hx
      · exact hP i x (h0 i hi) hx
    · exact h0 x hx
theorem fold_step (g : Nat → Nat → Bool) (l : List Nat) (h : Nat → Bool) (i x : Nat) (hi : i ∈ l) (hh : h i = true) (hg : g i x = true) : l.foldl (stepR g) h x = true := by
  induction l generalizing h with
  | nil => cases hi
  | cons j l ih =>
    rcases List.mem_cons.1 hi with rfl | hi
    · refine fold_le g l _ x ?_
      unfold stepR; rw [if_pos hh]; simp [hg]
    · exact ih _ hi (stepR_le g h j i hh)
theorem countP_lt {l : List Nat} {p q : Nat → Bool} (hle : ∀ x ∈ l, p x = true → q x = true) {a : Nat} (ha : a ∈ l) (hp : p a = false) (hq : q a = true) : l.countP p < l.countP q := by
  induction l with
  | nil => cases ha
  | cons b l ih =>
    have hm : l.countP p ≤ l.countP q := List.countP_mono_left (fun x hx => hle x (List.mem_cons_of_mem _ hx))
    rw [List.countP_cons, List.countP_cons]
    rcases List.mem_cons.1 ha with rfl | ha
    · simp [hp, hq]; omega
    · have h1 := ih (fun x hx => hle x (List.mem_cons_of_mem _ hx)) ha
      have h2 := hle b (by simp)
      cases hb : p b
      · simp; omega
      · rw [h2 hb]; simp; omega
def Clo (g : Nat → Nat → Bool) (h : Nat → Bool) : Prop := ∀ i x, h i = true → g i x = true → h x = true
theorem clo_fix {g : Nat → Nat → Bool} {h : Nat → Bool} (hc : Clo g h) (l : List Nat) : l.foldl (stepR g) h = h := by
  induction l with
  | nil => rfl
  | cons i l ih =>
    have e : stepR g h i = h := by
      unfold stepR; split
      · rename_i hi
        funext x
        cases hx : h x
        · cases hgx : g i x
          · rfl
          · have := hc i x hi hgx; rw [hx] at this; cases this
        · rfl
      · rfl
    rw [List.foldl_cons, e, ih]
theorem rnds_clo {g : Nat → Nat → Bool} {n N : Nat} (hn : n ≤ N) (hg : ∀ i c, g i c = true → i < n ∧ c < n) (h : Nat → Bool) : ∀ k, Clo g (rnds g n k h) ∨ k ≤ (List.range N).countP (rnds g n k h) := by
  intro k
  induction k with
  | zero => exact Or.inr (Nat.zero_le _)
  | succ k ih =>
    rcases ih with ih | ih
    · left
      show Clo g (rnd g n (rnds g n k h))
      unfold rnd; rw [clo_fix ih]; exact ih
    · by_cases hc : Clo g (rnds g n k h)
      · left
        show Clo g (rnd g n (rnds g n k h))
        unfold rnd; rw [clo_fix hc]; exact hc
      · right
        have : ∃ i x, rnds g n k h i = true ∧ g i x = true ∧ rnds g n k h x = false := by
          apply Classical.byContradiction
          intro hno
          apply hc
          intro i x hi hgx
          cases hx : rnds g n k h x
          · exact absurd ⟨i, x, hi, hgx, hx⟩ hno
          · rfl
        obtain ⟨i, x, hi, hgx, hx⟩ := this
        have hlt := hg i x hgx
        have : (List.range N).countP (rnds g n k h) < (List.range N).countP (rnds g n (k + 1) h) :=
          countP_lt (fun y _ hy => fold_le g _ _ y hy) (a := x) (List.mem_range.2 (by omega)) hx (fold_step g (List.range n) _ i x (List.mem_range.2 hlt.1) hi hgx)
        omega
theorem countP_all {l : List Nat} {p : Nat → Bool} (h : l.length ≤ l.countP p) : ∀ x ∈ l, p x = true := by
  have := List.countP_le_length (p := p) (l := l)
  exact List.countP_eq_length.1 (by omega)
theorem rnds_le (g : Nat → Nat → Bool) (n : Nat) (h : Nat → Bool) (x : Nat) (hx : h x = true) : ∀ k, rnds g n k h x = true
  | 0 => hx
  | k + 1 => fold_le g _ _ x (rnds_le g n h x hx k)
theorem rnds_sound (g : Nat → Nat → Bool) (n : Nat) (P : Nat → Prop) (hP : ∀ m c, P m → g m c = true → P c) (h : Nat → Bool) (h0 : ∀ x, h x = true → P x) : ∀ k x, rnds g n k h x = true → P x
  | 0 => h0
  | k + 1 => fold_sound g P hP _ _ (rnds_sound g n P hP h h0 k)
theorem rnds_closed {g : Nat → Nat → Bool} {n N : Nat} (hn : n ≤ N) (hg : ∀ i c, g i c = true → i < n ∧ c < n) (h : Nat → Bool) : Clo g (rnds g n N h) := by
  rcases rnds_clo hn hg h N with h | h
  · exact h
  · intro i x hi hgx
    exact countP_all (l := List.range N) (by simpa using h) x (List.mem_range.2 (by have := hg i x hgx; omega))
/-- Rounds: s, and what is reached from it. -/
theorem rnds_from {g : Nat → Nat → Bool} {n N : Nat} (hn : n ≤ N) (hg : ∀ i c, g i c = true → i < n ∧ c < n) (h : Nat → Bool) (x : Nat) : rnds g n N h x = true ↔ (h x = true ∨ ∃ i, h i = true ∧ Rch g i x) := by
  constructor
  · refine rnds_sound g n (fun x => h x = true ∨ ∃ i, h i = true ∧ Rch g i x) ?_ h (fun x hx => Or.inl hx) N x
    intro m c hm hgm
    rcases hm with hm | ⟨i, hi, hr⟩
    · exact Or.inr ⟨m, hm, .one hgm⟩
    · exact Or.inr ⟨i, hi, .next hr hgm⟩
  · rintro (hx | ⟨i, hi, hr⟩)
    · exact rnds_le g n h x hx N
    · have hc := rnds_closed hn hg h
      exact hr.mem (P := fun x => rnds g n N h x = true) (fun c hgc => hc i c (rnds_le g n h i hi N) hgc) (fun m c hm hgm => hc m c hm hgm)
theorem Grow.grown {w w' : World} (h : Grow w w') : w.grownBy w' none := ⟨h.os, h.tape, h.output, h.size, fun k hk _ => h.block k hk⟩
theorem MapB.agr {w w' : World} {B n : Nat} {S : Int → Bool} (h : MapB w B n S) (e : w'.heap[B]? = w.heap[B]?) : MapB w' B n S := by
  obtain ⟨D, ⟨es, clock, h1, h2⟩, h3⟩ := h
  exact ⟨D, ⟨es, clock, by rw [e]; exact h1, h2⟩, h3⟩
/-- The last one is taken off. -/
theorem Own.pop {F : Nat → Prop} {base : Nat} {e : TypeId} {w : World} {a : Option Addr} {n cap : Nat} {xs : List Int} {x : Int} (h : Own F base e w (.slice a (n + 1) cap) (xs ++ [x])) : Own F base e w (.slice a n cap) xs := by
  obtain ⟨G, css, hG, hl, hR, hn, hown⟩ := h
  obtain ⟨hlen, hown⟩ := hown
  rcases hown with ⟨hv, h0⟩ | ⟨g, cap', cur, hv, hbg, hg, hnc, hcm, hcs, htake⟩
  · simp at h0
  · injection hv with e1 e2 e3; subst e1 e3
    have hn' : n = xs.length := by simp at e2; omega
    subst hn'
    simp only [List.length_append, List.length_singleton] at hl hnc hn hlen htake
    refine ⟨G, css.take xs.length, fun k hk => ⟨(hG k hk).1, (hG k hk).2.1, (hG k hk).2.2⟩, by simp; omega, fun i hi hi' => ?_, by omega, ?_, Or.inr ⟨g, cap, cur, rfl, hbg, hg, by omega, hcm, hcs, ?_⟩⟩
    · have := hR i (by simp; omega) (by omega)
      rw [List.getElem_append_left hi] at this
      rw [List.getElem_take]; exact this
    · have hcl : ∀ c ∈ css, c.length = 1 := by
        intro c hc
        obtain ⟨i, hi, rfl⟩ := List.getElem_of_mem hc
        exact Rp.len (hR i (by simp; omega) hi)
      have : ∀ (l : List (List Value)), (∀ c ∈ l, c.length = 1) → l.flatten.length = l.length := by
        intro l hl; induction l with
        | nil => rfl
        | cons c l ih => simp [hl c (by simp), ih (fun d hd => hl d (by simp [hd]))]; omega
      rw [this _ (fun c hc => hcl c (List.mem_of_mem_take hc))]; simp [sz_int]; omega
    · have hcl : ∀ c ∈ css, c.length = 1 := by
        intro c hc
        obtain ⟨i, hi, rfl⟩ := List.getElem_of_mem hc
        exact Rp.len (hR i (by simp; omega) hi)
      have key : ∀ (l : List (List Value)) (m : Nat), (∀ c ∈ l, c.length = 1) → (l.take m).flatten = l.flatten.take m := by
        intro l; induction l with
        | nil => intro m _; simp
        | cons c l ih =>
          intro m hl
          cases m with
          | zero => simp
          | succ m =>
            have h1 := hl c (by simp)
            match c, h1 with
            | [v], _ => simp [ih m (fun d hd => hl d (by simp [hd]))]
      rw [key css xs.length hcl, ← htake]
      rw [sz_int, List.take_take]; congr 1; omega
/-- append(v, y), with what it tells of the row's block. -/
theorem wpList_app2 {P : Program} {ops : Array Oper} {rest : List Oper} {o : Oper} {a : Act} {w W0 : World} {x0 : Ext} {Q : Exit → Act → World → Prop} {s x : Operand} {t e : TypeId} {bytes : Nat}
    (T : SlT P t e 1 bytes) (hgd : o.guard = none) (ho : o.op = .call { callee := .builtin .append, args := #[s, x], argTypes := #[t, t] })
    {base : Nat} {v : Value} {xs : List Int} (hs : a.eval s = v) (hown : Own (fun _ => False) base e (ext W0 x0) v xs) (hgr : Grow (ext W0 x0) w) (hb : W0.heap.size ≤ base) (hbs : base ≤ w.heap.size)
    {b off c : Nat} (hx : a.eval x = .slice (some ⟨b, off, none⟩) 1 c) {y : Int} (hy : I64 y) (hc : CellsAt w b off [.int .i64 y]) (hlen : (xs.length + 1) * bytes ≤ 140737488355328) (hlen' : xs.length + 1 ≤ 140737488355328)
    (h : ∀ v' x', Own (fun _ => False) base e (ext W0 x') v' (xs ++ [y]) → (ext W0 x0).grownBy (ext W0 x') v.ownBlock → (v'.ownBlock = v.ownBlock ∨ v'.ownBlock = some w.heap.size) → wpList P ops Q rest (a.put o.dst v') (ext W0 x')) :
    wpList P ops Q (o :: rest) a w := by
  obtain ⟨G, css, hG, hl, hRs, hn, hor⟩ := hown.mono hgr
  obtain ⟨v', w', hr, h2, h3, h4⟩ := run_app (P := P) w base t o.type e _ bytes T v _ _ hor ⟨b, off, none⟩ 1 c [.int .i64 y] (by simp) (fun j u hu => by
    obtain ⟨hj, rfl⟩ := List.getElem?_eq_some_iff.1 hu
    rw [Addr.add_lit]; exact hc j hj) (fun u hu => by simp at hu; subst hu; rfl) (by omega) hlen hlen' hbs
  have hrow : ∀ k, v.ownBlock = some k → base ≤ k ∧ k < (ext W0 x0).heap.size := hown.row_lt
  have hgw : Grow W0 w := (grow_ext W0 x0).trans hgr
  have hg0 : Grow W0 w' := ⟨h3.os.trans hgw.os, h3.tape.trans hgw.tape, h3.output.trans hgw.output, Nat.le_trans hgw.size h3.size, fun k hk => by
    rw [h3.block k (Nat.lt_of_lt_of_le hk hgw.size) (fun e => by have := hrow k e.symm; omega), hgw.block k hk]⟩
  obtain ⟨x', rfl⟩ := ext_of_grow hg0
  have hOwn : Own (fun _ => False) base e (ext W0 x') v' (xs ++ [y]) := Own.snoc (ds := [[.int .i64 y]]) (Gy := fun _ => False) hG hl hRs (fun k hk => hk.elim) rfl (fun i h h' => match i, h with | 0, _ => ⟨rfl, hy⟩) hlen' (by show World.ownsRow _ base e 1 v' _ _; simpa using h2) h3 h4
  refine wpList_plain hgd fun _ hK => ?_
  unfold Oper.wp execOp
  simp only [ho, resolve, invoke, builtin, Sem.run_bind, Sem.run_pure, Result.andThen_ok, List.map_toArray, List.map_cons, List.map_nil, hs, hx, hr]
  exact hK _ _ (h v' x' hOwn ⟨h3.os.trans hgr.os, h3.tape.trans hgr.tape, h3.output.trans hgr.output, Nat.le_trans hgr.size h3.size, fun k hk hne => by
    rw [h3.block k (Nat.lt_of_lt_of_le hk hgr.size) hne, hgr.block k hk]⟩ h4)
theorem Own.kept {base : Nat} {e : TypeId} {w w' : World} {v : Value} {xs : List Int} {B : Nat} (h : Own (fun _ => False) base e w v xs) (hg : w.grownBy w' (some B)) (hB : B < base) : Own (fun _ => False) base e w' v xs :=
  h.keep (fun k hk hlt => hg.block k hlt (by intro e; injection e with e; subst e; rcases hk with hk | hk; exact hk; omega)) hg.size
theorem MapB.mono {w w' : World} {B n : Nat} {S : Int → Bool} (h : MapB w B n S) (g : Grow w w') : MapB w' B n S := h.kept g.grown (by simp)

def gr (p : Pr) (i c : Nat) : Bool := match p.funcs[i]? with | some f => callsTo f c | none => false
def unseen (S : Int → Bool) : Nat := (List.range 8).countP (fun c : Nat => !S (c : Int))
def resB : Result Value → Bool
  | .ok (.bool b) _ => b
  | _ => false
def lenOf : Value → Nat
  | .slice _ n _ => n
  | _ => 0
theorem unseen_put {S : Int → Bool} {c : Nat} (hc : c < 8) (h : S (c : Int) = false) : unseen (fun x => if x = (c : Int) then true else S x) < unseen S := by
  unfold unseen
  refine countP_lt (fun x _ hx => ?_) (a := c) (List.mem_range.2 hc) (by simp) (by simp [h])
  by_cases e : (x : Int) = (c : Int)
  · simp [e] at hx
  · simpa [e] using hx
theorem callsL_mem {f : Fn} {x : Int} (h : x ∈ callsL f) : ∃ c : Nat, x = c ∧ c < 8 ∧ callsTo f c = true := by
  unfold callsL at h
  obtain ⟨c, hc, rfl⟩ := List.mem_map.1 h
  have := List.mem_filter.1 hc
  exact ⟨c, rfl, List.mem_range.1 this.1, this.2⟩
theorem callsL_of {f : Fn} {c : Nat} (hc : c < 8) (h : callsTo f c = true) : (c : Int) ∈ callsL f :=
  List.mem_map.2 ⟨c, List.mem_filter.2 ⟨List.mem_range.2 hc, h⟩, rfl⟩
theorem pr_ok {p : Pr} (h : prErr p = 0) : 1 ≤ p.funcs.length ∧ p.funcs.length ≤ 8 ∧ (∀ f ∈ p.funcs, fnErr f = 0) ∧ inputsB (p.funcs.getD 0 fnz) = true ∧ callsB p = true := by
  unfold prErr at h
  by_cases h8 : 8 < p.funcs.length
  · rw [if_pos h8] at h; cases h
  · rw [if_neg h8] at h
    by_cases h0 : p.funcs.length = 0
    · rw [if_pos h0] at h; cases h
    · rw [if_neg h0] at h
      by_cases hf : fnsErr p.funcs = 0
      · rw [if_neg (by simpa using hf)] at h
        by_cases hc : (inputsB (p.funcs.getD 0 fnz) && callsB p) = true
        · simp only [Bool.and_eq_true] at hc; exact ⟨by omega, by omega, fnsErr_all hf, hc.1, hc.2⟩
        · rw [if_neg hc] at h; cases h
      · rw [if_pos hf] at h; exact absurd h hf
theorem calls_lt {p : Pr} (h : prErr p = 0) {f : Fn} (hf : f ∈ p.funcs) {c : Nat} (hc : callsTo f c = true) : c < p.funcs.length := by
  have hb := (pr_ok h).2.2.2.2
  unfold callsB at hb
  unfold callsTo at hc
  obtain ⟨b, hbm, hb2⟩ := List.any_eq_true.1 hc
  have := List.all_eq_true.1 (List.all_eq_true.1 hb f hf) b hbm
  simp only [Bool.and_eq_true, decide_eq_true_eq] at hb2
  unfold callB at this
  simp only [hb2.1, decide_true, Bool.not_true, Bool.false_or, Bool.and_eq_true, decide_eq_true_eq] at this
  omega
theorem gr_lt {p : Pr} (h : prErr p = 0) (i c : Nat) (hg : gr p i c = true) : i < p.funcs.length ∧ c < p.funcs.length := by
  unfold gr at hg
  cases e : p.funcs[i]? with
  | none => rw [e] at hg; cases hg
  | some f => rw [e] at hg; exact ⟨(List.getElem?_eq_some_iff.1 e).1, calls_lt h (List.mem_of_getElem? e) hg⟩
structure RI (p : Pr) (s : Nat) (T : List Int) (S : Int → Bool) : Prop where
  sound : ∀ c : Int, S c = true → ∃ k : Nat, c = k ∧ Rch (gr p) s k
  todo : ∀ x ∈ T, ∃ k : Nat, x = k ∧ k < p.funcs.length ∧ (k = s ∨ S k = true)
  clo : ∀ k : Nat, (k = s ∨ S k = true) → (k : Int) ∉ T → ∀ c : Nat, gr p k c = true → S c = true
structure RJ (p : Pr) (s k : Nat) (L T : List Int) (S : Int → Bool) : Prop where
  sound : ∀ c : Int, S c = true → ∃ k : Nat, c = k ∧ Rch (gr p) s k
  todo : ∀ x ∈ T, ∃ k : Nat, x = k ∧ k < p.funcs.length ∧ (k = s ∨ S k = true)
  clo : ∀ k' : Nat, k' ≠ k → (k' = s ∨ S k' = true) → (k' : Int) ∉ T → ∀ c : Nat, gr p k' c = true → S c = true
  own : k = s ∨ S k = true
  some : ∀ c ∈ L, S c = true
theorem RI.start (p : Pr) {s : Nat} (hs : s < p.funcs.length) : RI p s [(s : Int)] (fun _ => false) where
  sound c h := by cases h
  todo x hx := by simp at hx; exact ⟨s, hx, hs, Or.inl rfl⟩
  clo k h hk := by rcases h with rfl | h; simp at hk; cases h
theorem RI.pop {p : Pr} {s k : Nat} {T : List Int} {S : Int → Bool} (h : RI p s (T ++ [(k : Int)]) S) : RJ p s k [] T S where
  sound := h.sound
  todo x hx := h.todo x (List.mem_append_left _ hx)
  clo k' hne hs hT := h.clo k' hs (by simp [hT]; omega)
  own := by obtain ⟨k', e, _, h'⟩ := h.todo (k : Int) (by simp); obtain rfl : k = k' := by omega
            exact h'
  some c hc := by cases hc
theorem RJ.seen {p : Pr} {s k : Nat} {L T : List Int} {S : Int → Bool} {c : Int} (h : RJ p s k L T S) (hc : S c = true) : RJ p s k (L ++ [c]) T S :=
  ⟨h.sound, h.todo, h.clo, h.own, fun x hx => by rcases List.mem_append.1 hx with hx | hx; exact h.some x hx; simp at hx; subst hx; exact hc⟩
theorem RJ.push {p : Pr} {s k c : Nat} {L T : List Int} {S : Int → Bool} (h : RJ p s k L T S) (hc : S (c : Int) = false) (hg : gr p k c = true) (hn : c < p.funcs.length) : RJ p s k (L ++ [(c : Int)]) (T ++ [(c : Int)]) (fun x => if x = (c : Int) then true else S x) where
  sound x hx := by
    by_cases e : x = (c : Int)
    · refine ⟨c, e, ?_⟩
      rcases h.own with rfl | ho
      · exact .one hg
      · obtain ⟨k', e', hr⟩ := h.sound _ ho
        obtain rfl : k = k' := by omega
        exact .next hr hg
    · simp only [e, if_false] at hx; exact h.sound x hx
  todo x hx := by
    rcases List.mem_append.1 hx with hx | hx
    · obtain ⟨k', e, hl, ho⟩ := h.todo x hx
      refine ⟨k', e, hl, ?_⟩
      rcases ho with ho | ho
      · exact Or.inl ho
      · right; (try dsimp only); split <;> simp [ho]
    · simp at hx; exact ⟨c, hx, hn, Or.inr (by simp)⟩
  clo k' hne hs hT c' hg' := by
    have hk : ¬ (k' : Int) = (c : Int) := fun e => hT (by simp [e])
    have : k' = s ∨ S (k' : Int) = true := by
      rcases hs with hs | hs
      · exact Or.inl hs
      · right; simpa only [hk, if_false] using hs
    have := h.clo k' hne this (fun q => hT (List.mem_append_left _ q)) c' hg'
    (try dsimp only); split <;> simp [this]
  own := by
    rcases h.own with ho | ho
    · exact Or.inl ho
    · right; (try dsimp only); split <;> simp [ho]
  some x hx := by
    rcases List.mem_append.1 hx with hx | hx
    · have := h.some x hx; (try dsimp only); split <;> simp [this]
    · simp at hx; simp [hx]
theorem RJ.done {p : Pr} {s k : Nat} {L T : List Int} {S : Int → Bool} (h : RJ p s k L T S) (hL : ∀ c : Nat, gr p k c = true → (c : Int) ∈ L) : RI p s T S where
  sound := h.sound
  todo := h.todo
  clo k' hs hT c hg := by
    by_cases e : k' = k
    · subst e; exact h.some _ (hL c hg)
    · exact h.clo k' e hs hT c hg
theorem RI.fin {p : Pr} {s : Nat} {S : Int → Bool} (h : RI p s [] S) (c : Nat) : S (c : Int) = true ↔ Rch (gr p) s c := by
  constructor
  · intro hc; obtain ⟨k, e, hr⟩ := h.sound _ hc; obtain rfl : c = k := by omega
    exact hr
  · intro hr
    exact hr.mem (P := fun c => S (c : Int) = true) (fun c hg => h.clo s (Or.inl rfl) (by simp) c hg) (fun m c hm hg => h.clo m (Or.inr hm) (by simp) c hg)
theorem Own.lit1 {base : Nat} {e : TypeId} {w : World} {g : Nat} {x : Int} (hx : I64 x) (hg : w.heap[g]? = some (.cells #[.int .i64 x] e)) (hb : base ≤ g) : Own (fun _ => False) base e w (.slice (some ⟨g, 0, none⟩) 1 1) [x] :=
  ⟨fun _ => False, [[.int .i64 x]], fun _ h => h.elim, rfl, (fun i h h' => match i, h with | 0, _ => ⟨rfl, hx⟩), by simp, by
    refine ⟨by simp [sz_int], .inr ⟨g, 1, #[.int .i64 x], rfl, hb, hg, Nat.le_refl _, by unfold maxLen; omega, by simp [sz_int], by simp [sz_int]⟩⟩⟩
def Rg7 (lo hi b : Nat) : Prop := lo ≤ b ∧ b < hi
theorem nil_or_snoc (T : List Int) : T = [] ∨ ∃ T' x, T = T' ++ [x] := by
  rcases List.eq_nil_or_concat T with h | ⟨T', x, h⟩
  · exact Or.inl h
  · exact Or.inr ⟨T', x, by rw [h, List.concat_eq_append]⟩
theorem unseen_le (S : Int → Bool) : unseen S ≤ 8 := by
  unfold unseen; have := List.countP_le_length (p := fun c : Nat => !S (c : Int)) (l := List.range 8); simpa using this
/-- c is 0, or reached from it. -/
def reachB (p : Pr) : Nat → Bool := rnds (gr p) p.funcs.length 8 (fun x => x == 0)
theorem reachB_iff {p : Pr} (h : prErr p = 0) (c : Nat) : reachB p c = true ↔ (c = 0 ∨ Rch (gr p) 0 c) := by
  unfold reachB
  rw [rnds_from (pr_ok h).2.1 (gr_lt h)]
  constructor
  · rintro (h | ⟨i, hi, hr⟩)
    · exact Or.inl (by simpa using h)
    · obtain rfl : i = 0 := by simpa using hi
      exact Or.inr hr
  · rintro (h | h)
    · exact Or.inl (by simp [h])
    · exact Or.inr ⟨0, by simp, h⟩
def reachUpto (p : Pr) (q : Nat) : List Int := ((List.range q).filter (reachB p)).map (fun c : Nat => (c : Int))
def reachL (p : Pr) : List Int := reachUpto p p.funcs.length
theorem reachUpto_succ (p : Pr) (q : Nat) : reachUpto p (q + 1) = reachUpto p q ++ (if reachB p q = true then [(q : Int)] else []) := by
  unfold reachUpto; rw [List.range_succ, List.filter_append, List.map_append]
  cases h : reachB p q <;> simp [h]
theorem reachUpto_len (p : Pr) (q : Nat) : (reachUpto p q).length ≤ q := by
  unfold reachUpto; rw [List.length_map]
  have := List.length_filter_le (reachB p) (List.range q); simpa using this
theorem reachUpto_one {p : Pr} (h : prErr p = 0) : reachUpto p 1 = [0] := by
  have : reachB p 0 = true := (reachB_iff h 0).2 (Or.inl rfl)
  rw [reachUpto_succ, this]; rfl
end Go.Proofs.Ytafcdabiplcjiaa
