/- Sets of numbers, kept as a map from int to bool that a call itself makes. Plain: what is reached in a graph of at most eight nodes. Layer 8: the functions that are reached by calls: a stack of numbers, and a set. Layer 8: what is reached by calls. Layer 8: the functions that are reached. -/
import Derived.Test.YthackfblfkpddaaL07
import Derived.Test.YthackfblfkpddaaL07z
import Derived.Test.YthackfblfkpddaaL08d
import Derived.Test.YthackfblfkpddaaOwn
import Derived.Maps.Own
import Derived.Maps.Views
import Derived.Maps.OwnSet
import Derived.Deep.DeepMust
namespace Go.Proofs.Ythackfblfkpddaa
open Go.RowKit
set_option linter.unusedSimpArgs false
set_option linter.unusedVariables false

open Go.RowKit Go.Maps

theorem keyInt : Keyed Try.prog 3 := int_keyed Try.underlying3
theorem lit64 {c : Int} (h : I64 c) : (Lit.int .i64 c).wf = true := by
  unfold I64 at h; simp [Lit.wf, IntKind.min, IntKind.max, IntKind.bits, IntKind.signed]; omega
/-- Block B is a map that holds true at just the numbers of S. -/
def MapB (w : World) (B : Nat) (n : Nat) (S : Int → Bool) : Prop :=
  ∃ D : DataW Unit, w.ownsMap Try.prog 3 (plainElem Try.prog 4) B n D ∧ ∀ c, D.atKey (.int .i64 c) (.lit (.bool false)) = .lit (.bool (S c))
theorem MapB.made (w : World) : MapB (w.alloc (.map #[] 0)) w.heap.size 0 (fun _ => false) :=
  ⟨_, World.ownsMap_made w _ _ _, fun c => rfl⟩
theorem MapB.kept {w w' : World} {row : Option Nat} {B n : Nat} {S : Int → Bool} (h : MapB w B n S) (hg : w.grownBy w' row) (hne : some B ≠ row) : MapB w' B n S := by
  obtain ⟨D, h1, h2⟩ := h; exact ⟨D, h1.kept hg hne, h2⟩
theorem MapB.lt {w : World} {B n : Nat} {S : Int → Bool} (h : MapB w B n S) : B < w.heap.size := by obtain ⟨D, h1, h2⟩ := h; exact h1.lt
theorem MapB.look {w : World} {B n : Nat} {S : Int → Bool} (h : MapB w B n S) {c : Int} (hc : I64 c) : (Instr.lookup 89 (.map (some B)) (.int .i64 c) false).run Try.prog w = .ok (.bool (S c)) w := by
  obtain ⟨D, h1, h2⟩ := h
  obtain ⟨v, ps, hr, hv⟩ := h1.lookup keyInt Try.underlying89 (z := .bool false) (by kernel_rfl) (plainElem_bool Try.underlying4 false) (keyOf_int_mk Try.underlying3 (lit64 hc))
  rw [h2 c] at hv
  rw [hr]
  have : v = .bool (S c) := by
    unfold plainElem at hv
    have hb := Try.underlying4
    generalize (Program.underlying Try.prog 4) = u at hv hb
    subst hb
    cases v <;> simp at hv
    rw [hv.1]
  rw [this]
theorem MapB.put {w : World} {B n : Nat} {S : Int → Bool} (h : MapB w B n S) (hn : n < 1000000) {c : Int} (hc : I64 c) : ∃ w', (Instr.mapUpdate 89 (.map (some B)) (.int .i64 c) (.bool true)).run Try.prog w = .ok () w' ∧ MapB w' B (n + 1) (fun x => if x = c then true else S x) ∧ w.grownBy w' (some B) := by
  obtain ⟨D, h1, h2⟩ := h
  obtain ⟨w', hr, h3, h4⟩ := h1.update keyInt Try.underlying89 (by unfold maxLen; omega) (keyOf_int_mk Try.underlying3 (lit64 hc)) (plainElem_bool Try.underlying4 true)
  refine ⟨w', hr, ⟨_, h3, fun x => ?_⟩, h4⟩
  by_cases e : x = c
  · subst e; rw [atKey_put_same (k := Lit.int .i64 x) h1.isMap (show WideAt.IsKeyLit (Lit.int .i64 x) from trivial)]; simp
  · rw [atKey_put_other (by simp [e]), h2 x]; simp [e]
/-- c is reached from s by one step or more. -/
inductive Rch (g : Nat → Nat → Bool) (s : Nat) : Nat → Prop
  | one {c : Nat} : g s c = true → Rch g s c
  | next {m c : Nat} : Rch g s m → g m c = true → Rch g s c
theorem Rch.lt {g : Nat → Nat → Bool} {s c n : Nat} (hg : ∀ i c, g i c = true → c < n) (h : Rch g s c) : c < n := by
  cases h with
  | one h => exact hg _ _ h
  | next _ h => exact hg _ _ h
/-- A set that holds what s steps to, and is closed, holds all. -/
theorem Rch.mem {g : Nat → Nat → Bool} {s c : Nat} {P : Nat → Prop} (h0 : ∀ c, g s c = true → P c) (h1 : ∀ m c, P m → g m c = true → P c) (h : Rch g s c) : P c := by
  induction h with
  | one h => exact h0 _ h
  | next _ h ih => exact h1 _ _ ih h
theorem Rch.trans {g : Nat → Nat → Bool} {s m c : Nat} (h : Rch g s m) (k : Rch g m c) : Rch g s c := by
  induction k with
  | one k => exact .next h k
  | next _ k ih => exact .next ih k
def stepR (g : Nat → Nat → Bool) (h : Nat → Bool) (i : Nat) : Nat → Bool := if h i = true then (fun x => h x || g i x) else h
def rnd (g : Nat → Nat → Bool) (n : Nat) (h : Nat → Bool) : Nat → Bool := (List.range n).foldl (stepR g) h
def rnds (g : Nat → Nat → Bool) (n : Nat) : Nat → (Nat → Bool) → (Nat → Bool)
  | 0, h => h
  | k + 1, h => rnd g n (rnds g n k h)
theorem stepR_le (g : Nat → Nat → Bool) (h : Nat → Bool) (i x : Nat) (hx : h x = true) : stepR g h i x = true := by
  unfold stepR; split <;> simp [hx]
theorem fold_le (g : Nat → Nat → Bool) (l : List Nat) (h : Nat → Bool) (x : Nat) (hx : h x = true) : l.foldl (stepR g) h x = true := by
  induction l generalizing h with
  | nil => exact hx
  | cons i l ih => exact ih _ (stepR_le g h i x hx)
theorem fold_sound (g : Nat → Nat → Bool) (P : Nat → Prop) (hP : ∀ m c, P m → g m c = true → P c) (l : List Nat) (h : Nat → Bool) (h0 : ∀ x, h x = true → P x) : ∀ x, l.foldl (stepR g) h x = true → P x := by
  induction l generalizing h with
  | nil => exact h0
  | cons i l ih =>
    refine ih _ (fun x hx => ?_)
    unfold stepR at hx
    split at hx
    · rename_i hi
      simp only [Bool.or_eq_true] at hx
      rcases hx with hx | hx
      · exact h0 x hx
      · exact hP i x (h0 i hi) hx
    · exact h0 x hx
theorem fold_step (g : Nat → Nat → Bool) (l : List Nat) (h : Nat → Bool) (i x : Nat) (hi : i ∈ l) (hh : h i = true) (hg : g i x = true) : l.foldl (stepR g) h x = true := by
  induction l generalizing h with
  | nil => cases hi
  | cons j l ih =>
    rcases List.mem_cons.1 hi with rfl | hi
    · refine fold_le g l _ x ?_
      unfold stepR; rw [if_pos hh]; simp [hg]
    · exact ih _ hi (stepR_le g h j i hh)
theorem countP_lt {l : List Nat} {p q : Nat → Bool} (hle : ∀ x ∈ l, p x = true → q x = true) {a : Nat} (ha : a ∈ l) (hp : p a = false) (hq : q a = true) : l.countP p < l.countP q := by
  induction l with
  | nil => cases ha
  | cons b l ih =>
    have hm : l.countP p ≤ l.countP q := List.countP_mono_left (fun x hx => hle x (List.mem_cons_of_mem _ hx))
    rw [List.countP_cons, List.countP_cons]
    rcases List.mem_cons.1 ha with rfl | ha
    · simp [hp, hq]; omega
    · have h1 := ih (fun x hx => hle x (List.mem_cons_of_mem _ hx)) ha
      have h2 := hle b (by simp)
      cases hb : p b
      · simp; omega
      · rw [h2 hb]; simp; omega
def Clo (g : Nat → Nat → Bool) (h : Nat → Bool) : Prop := ∀ i x, h i = true → g i x = true → h x = true
theorem clo_fix {g : Nat → Nat → Bool} {h : Nat → Bool} (hc : Clo g h) (l : List Nat) : l.foldl (stepR g) h = h := by
  induction l with
  | nil => rfl
  | cons i l ih =>
    have e : stepR g h i = h := by
      unfold stepR; split
      · rename_i hi
        funext x
        cases hx : h x
        · cases hgx : g i x
          · rfl
          · have := hc i x hi hgx; rw [hx] at this; cases this
        · rfl
      · rfl
    rw [List.foldl_cons, e, ih]
theorem rnds_clo {g : Nat → Nat → Bool} {n N : Nat} (hn : n ≤ N) (hg : ∀ i c, g i c = true → i < n ∧ c < n) (h : Nat → Bool) : ∀ k, Clo g (rnds g n k h) ∨ k ≤ (List.range N).countP (rnds g n k h) := by
  intro k
  induction k with
  | zero => exact Or.inr (Nat.zero_le _)
  | succ k ih =>
    rcases ih with ih | ih
    · left
      show Clo g (rnd g n (rnds g n k h))
      unfold rnd; rw [clo_fix ih]; exact ih
    · by_cases hc : Clo g (rnds g n k h)
      · left
        show Clo g (rnd g n (rnds g n k h))
        unfold rnd; rw [clo_fix hc]; exact hc
      · right
        have : ∃ i x, rnds g n k h i = true ∧ g i x = true ∧ rnds g n k h x = false := by
          apply Classical.byContradiction
          intro hno
          apply hc
          intro i x hi hgx
          cases hx : rnds g n k h x
          · exact absurd ⟨i, x, hi, hgx, hx⟩ hno
          · rfl
        obtain ⟨i, x, hi, hgx, hx⟩ := this
        have hlt := hg i x hgx
        have : (List.range N).countP (rnds g n k h) < (List.range N).countP (rnds g n (k + 1) h) :=
          countP_lt (fun y _ hy => fold_le g _ _ y hy) (a := x) (List.mem_range.2 (by omega)) hx (fold_step g (List.range n) _ i x (List.mem_range.2 hlt.1) hi hgx)
        omega
theorem countP_all {l : List Nat} {p : Nat → Bool} (h : l.length ≤ l.countP p) : ∀ x ∈ l, p x = true := by
  have := List.countP_le_length (p := p) (l := l)
  exact List.countP_eq_length.1 (by omega)
theorem rnds_le (g : Nat → Nat → Bool) (n : Nat) (h : Nat → Bool) (x : Nat) (hx : h x = true) : ∀ k, rnds g n k h x = true
  | 0 => hx
  | k + 1 => fold_le g _ _ x (rnds_le g n h x hx k)
theorem rnds_sound (g : Nat → Nat → Bool) (n : Nat) (P : Nat → Prop) (hP : ∀ m c, P m → g m c = true → P c) (h : Nat → Bool) (h0 : ∀ x, h x = true → P x) : ∀ k x, rnds g n k h x = true → P x
  | 0 => h0
  | k + 1 => fold_sound g P hP _ _ (rnds_sound g n P hP h h0 k)
theorem rnds_closed {g : Nat → Nat → Bool} {n N : Nat} (hn : n ≤ N) (hg : ∀ i c, g i c = true → i < n ∧ c < n) (h : Nat → Bool) : Clo g (rnds g n N h) := by
  rcases rnds_clo hn hg h N with h | h
  · exact h
  · intro i x hi hgx
    exact countP_all (l := List.range N) (by simpa using h) x (List.mem_range.2 (by have := hg i x hgx; omega))
/-- Rounds: s, and what is reached from it. -/
theorem rnds_from {g : Nat → Nat → Bool} {n N : Nat} (hn : n ≤ N) (hg : ∀ i c, g i c = true → i < n ∧ c < n) (h : Nat → Bool) (x : Nat) : rnds g n N h x = true ↔ (h x = true ∨ ∃ i, h i = true ∧ Rch g i x) := by
  constructor
  · refine rnds_sound g n (fun x => h x = true ∨ ∃ i, h i = true ∧ Rch g i x) ?_ h (fun x hx => Or.inl hx) N x
    intro m c hm hgm
    rcases hm with hm | ⟨i, hi, hr⟩
    · exact Or.inr ⟨m, hm, .one hgm⟩
    · exact Or.inr ⟨i, hi, .next hr hgm⟩
  · rintro (hx | ⟨i, hi, hr⟩)
    · exact rnds_le g n h x hx N
    · have hc := rnds_closed hn hg h
      exact hr.mem (P := fun x => rnds g n N h x = true) (fun c hgc => hc i c (rnds_le g n h i hi N) hgc) (fun m c hm hgm => hc m c hm hgm)
theorem Grow.grown {w w' : World} (h : Grow w w') : w.grownBy w' none := ⟨h.os, h.tape, h.output, h.size, fun k hk _ => h.block k hk⟩
theorem MapB.agr {w w' : World} {B n : Nat} {S : Int → Bool} (h : MapB w B n S) (e : w'.heap[B]? = w.heap[B]?) : MapB w' B n S := by
  obtain ⟨D, ⟨es, clock, h1, h2⟩, h3⟩ := h
  exact ⟨D, ⟨es, clock, by rw [e]; exact h1, h2⟩, h3⟩
/-- The last one is taken off. -/
theorem Own.pop {F : Nat → Prop} {base : Nat} {e : TypeId} {w : World} {a : Option Addr} {n cap : Nat} {xs : List Int} {x : Int} (h : Own F base e w (.slice a (n + 1) cap) (xs ++ [x])) : Own F base e w (.slice a n cap) xs := by
  obtain ⟨G, css, hG, hl, hR, hn, hown⟩ := h
  obtain ⟨hlen, hown⟩ := hown
  rcases hown with ⟨hv, h0⟩ | ⟨g, cap', cur, hv, hbg, hg, hnc, hcm, hcs, htake⟩
  · simp at h0
  · injection hv with e1 e2 e3; subst e1 e3
    have hn' : n = xs.length := by simp at e2; omega
    subst hn'
    simp only [List.length_append, List.length_singleton] at hl hnc hn hlen htake
    refine ⟨G, css.take xs.length, fun k hk => ⟨(hG k hk).1, (hG k hk).2.1, (hG k hk).2.2⟩, by simp; omega, fun i hi hi' => ?_, by omega, ?_, Or.inr ⟨g, cap, cur, rfl, hbg, hg, by omega, hcm, hcs, ?_⟩⟩
    · have := hR i (by simp; omega) (by omega)
      rw [List.getElem_append_left hi] at this
      rw [List.getElem_take]; exact this
    · have hcl : ∀ c ∈ css, c.length = 1 := by
        intro c hc
        obtain ⟨i, hi, rfl⟩ := List.getElem_of_mem hc
        exact Rp.len (hR i (by simp; omega) hi)
      have : ∀ (l : List (List Value)), (∀ c ∈ l, c.length = 1) → l.flatten.length = l.length := by
        intro l hl; induction l with
        | nil => rfl
        | cons c l ih => simp [hl c (by simp), ih (fun d hd => hl d (by simp [hd]))]; omega
      rw [this _ (fun c hc => hcl c (List.mem_of_mem_take hc))]; simp [sz_int]; omega
    · have hcl : ∀ c ∈ css, c.length = 1 := by
        intro c hc
        obtain ⟨i, hi, rfl⟩ := List.getElem_of_mem hc
        exact Rp.len (hR i (by simp; omega) hi)
      have key : ∀ (l : List (List Value)) (m : Nat), (∀ c ∈ l, c.length = 1) → (l.take m).flatten = l.flatten.take m := by
        intro l; induction l with
        | nil => intro m _; simp
        | cons c l ih =>
          intro m hl
          cases m with
          | zero => simp
          | succ m =>
            have h1 := hl c (by simp)
            match c, h1 with
            | [v], _ => simp [ih m (fun d hd => hl d (by simp [hd]))]
      rw [key css xs.length hcl, ← htake]
      rw [sz_int, List.take_take]; congr 1; omega
/-- append(v, y), with what it tells of the row's block. -/
theorem wpList_app2 {P : Program} {ops : Array Oper} {rest : List Oper} {o : Oper} {a : Act} {w W0 : World} {x0 : Ext} {Q : Exit → Act → World → Prop} {s x : Operand} {t e : TypeId} {bytes : Nat}
    (T : SlT P t e 1 bytes) (hgd : o.guard = none) (ho : o.op = .call { callee := .builtin .append, args := #[s, x], argTypes := #[t, t] })
    {base : Nat} {v : Value} {xs : List Int} (hs : a.eval s = v) (hown : Own (fun _ => False) base e (ext W0 x0) v xs) (hgr : Grow (ext W0 x0) w) (hb : W0.heap.size ≤ base) (hbs : base ≤ w.heap.size)
    {b off c : Nat} (hx : a.eval x = .slice (some ⟨b, off, none⟩) 1 c) {y : Int} (hy : I64 y) (hc : CellsAt w b off [.int .i64 y]) (hlen : (xs.length + 1) * bytes ≤ 140737488355328) (hlen' : xs.length + 1 ≤ 140737488355328)
    (h : ∀ v' x', Own (fun _ => False) base e (ext W0 x') v' (xs ++ [y]) → (ext W0 x0).grownBy (ext W0 x') v.ownBlock → (v'.ownBlock = v.ownBlock ∨ v'.ownBlock = some w.heap.size) → wpList P ops Q rest (a.put o.dst v') (ext W0 x')) :
    wpList P ops Q (o :: rest) a w := by
  obtain ⟨G, css, hG, hl, hRs, hn, hor⟩ := hown.mono hgr
  obtain ⟨v', w', hr, h2, h3, h4⟩ := run_app (P := P) w base t o.type e _ bytes T v _ _ hor ⟨b, off, none⟩ 1 c [.int .i64 y] (by simp) (fun j u hu => by
    obtain ⟨hj, rfl⟩ := List.getElem?_eq_some_iff.1 hu
    rw [Addr.add_lit]; exact hc j hj) (fun u hu => by simp at hu; subst hu; rfl) (by omega) hlen hlen' hbs
  have hrow : ∀ k, v.ownBlock = some k → base ≤ k ∧ k < (ext W0 x0).heap.size := hown.row_lt
  have hgw : Grow W0 w := (grow_ext W0 x0).trans hgr
  have hg0 : Grow W0 w' := ⟨h3.os.trans hgw.os, h3.tape.trans hgw.tape, h3.output.trans hgw.output, Nat.le_trans hgw.size h3.size, fun k hk => by
    rw [h3.block k (Nat.lt_of_lt_of_le hk hgw.size) (fun e => by have := hrow k e.symm; omega), hgw.block k hk]⟩
  obtain ⟨x', rfl⟩ := ext_of_grow hg0
  have hOwn : Own (fun _ => False) base e (ext W0 x') v' (xs ++ [y]) := Own.snoc (ds := [[.int .i64 y]]) (Gy := fun _ => False) hG hl hRs (fun k hk => hk.elim) rfl (fun i h h' => match i, h with | 0, _ => ⟨rfl, hy⟩) hlen' (by show World.ownsRow _ base e 1 v' _ _; simpa using h2) h3 h4
  refine wpList_plain hgd fun _ hK => ?_
  unfold Oper.wp execOp
  simp only [ho, resolve, invoke, builtin, Sem.run_bind, Sem.run_pure, Result.andThen_ok, List.map_toArray, List.map_cons, List.map_nil, hs, hx, hr]
  exact hK _ _ (h v' x' hOwn ⟨h3.os.trans hgr.os, h3.tape.trans hgr.tape, h3.output.trans hgr.output, Nat.le_trans hgr.size h3.size, fun k hk hne => by
    rw [h3.block k (Nat.lt_of_lt_of_le hk hgr.size) hne, hgr.block k hk]⟩ h4)
theorem Own.kept {base : Nat} {e : TypeId} {w w' : World} {v : Value} {xs : List Int} {B : Nat} (h : Own (fun _ => False) base e w v xs) (hg : w.grownBy w' (some B)) (hB : B < base) : Own (fun _ => False) base e w' v xs :=
  h.keep (fun k hk hlt => hg.block k hlt (by intro e; injection e with e; subst e; rcases hk with hk | hk; exact hk; omega)) hg.size
theorem MapB.mono {w w' : World} {B n : Nat} {S : Int → Bool} (h : MapB w B n S) (g : Grow w w') : MapB w' B n S := h.kept g.grown (by simp)

def gr (p : Pr) (i c : Nat) : Bool := match p.funcs[i]? with | some f => callsTo f c | none => false
def unseen (S : Int → Bool) : Nat := (List.range 8).countP (fun c : Nat => !S (c : Int))
def resB : Result Value → Bool
  | .ok (.bool b) _ => b
  | _ => false
theorem unsW_eq {w : World} {B n : Nat} {S : Int → Bool} (h : MapB w B n S) : (List.range 8).countP (fun c : Nat => !resB ((Instr.lookup 89 (.map (some B)) (.int .i64 (c : Nat)) false).run Try.prog w)) = unseen S := by
  unfold unseen; apply List.countP_congr; intro c hc
  have hc := List.mem_range.1 hc
  rw [h.look ⟨by omega, by omega⟩]; rfl
def lenOf : Value → Nat
  | .slice _ n _ => n
  | _ => 0
theorem unseen_put {S : Int → Bool} {c : Nat} (hc : c < 8) (h : S (c : Int) = false) : unseen (fun x => if x = (c : Int) then true else S x) < unseen S := by
  unfold unseen
  refine countP_lt (fun x _ hx => ?_) (a := c) (List.mem_range.2 hc) (by simp) (by simp [h])
  by_cases e : (x : Int) = (c : Int)
  · simp [e] at hx
  · simpa [e] using hx
theorem callsL_mem {f : Fn} {x : Int} (h : x ∈ callsL f) : ∃ c : Nat, x = c ∧ c < 8 ∧ callsTo f c = true := by
  unfold callsL at h
  obtain ⟨c, hc, rfl⟩ := List.mem_map.1 h
  have := List.mem_filter.1 hc
  exact ⟨c, rfl, List.mem_range.1 this.1, this.2⟩
theorem callsL_of {f : Fn} {c : Nat} (hc : c < 8) (h : callsTo f c = true) : (c : Int) ∈ callsL f :=
  List.mem_map.2 ⟨c, List.mem_filter.2 ⟨List.mem_range.2 hc, h⟩, rfl⟩
theorem pr_ok {p : Pr} (h : prErr p = 0) : 1 ≤ p.funcs.length ∧ p.funcs.length ≤ 8 ∧ (∀ f ∈ p.funcs, fnErr f = 0) ∧ inputsB (p.funcs.getD 0 fnz) = true ∧ callsB p = true := by
  unfold prErr at h
  by_cases h8 : 8 < p.funcs.length
  · rw [if_pos h8] at h; cases h
  · rw [if_neg h8] at h
    by_cases h0 : p.funcs.length = 0
    · rw [if_pos h0] at h; cases h
    · rw [if_neg h0] at h
      by_cases hf : fnsErr p.funcs = 0
      · rw [if_neg (by simpa using hf)] at h
        by_cases hc : (inputsB (p.funcs.getD 0 fnz) && callsB p) = true
        · simp only [Bool.and_eq_true] at hc; exact ⟨by omega, by omega, fnsErr_all hf, hc.1, hc.2⟩
        · rw [if_neg hc] at h; cases h
      · rw [if_pos hf] at h; exact absurd h hf
theorem calls_lt {p : Pr} (h : prErr p = 0) {f : Fn} (hf : f ∈ p.funcs) {c : Nat} (hc : callsTo f c = true) : c < p.funcs.length := by
  have hb := (pr_ok h).2.2.2.2
  unfold callsB at hb
  unfold callsTo at hc
  obtain ⟨b, hbm, hb2⟩ := List.any_eq_true.1 hc
  have := List.all_eq_true.1 (List.all_eq_true.1 hb f hf) b hbm
  simp only [Bool.and_eq_true, decide_eq_true_eq] at hb2
  unfold callB at this
  simp only [hb2.1, decide_true, Bool.not_true, Bool.false_or, Bool.and_eq_true, decide_eq_true_eq] at this
  omega
theorem gr_lt {p : Pr} (h : prErr p = 0) (i c : Nat) (hg : gr p i c = true) : i < p.funcs.length ∧ c < p.funcs.length := by
  unfold gr at hg
  cases e : p.funcs[i]? with
  | none => rw [e] at hg; cases hg
  | some f => rw [e] at hg; exact ⟨(List.getElem?_eq_some_iff.1 e).1, calls_lt h (List.mem_of_getElem? e) hg⟩
structure RI (p : Pr) (s : Nat) (T : List Int) (S : Int → Bool) : Prop where
  sound : ∀ c : Int, S c = true → ∃ k : Nat, c = k ∧ Rch (gr p) s k
  todo : ∀ x ∈ T, ∃ k : Nat, x = k ∧ k < p.funcs.length ∧ (k = s ∨ S k = true)
  clo : ∀ k : Nat, (k = s ∨ S k = true) → (k : Int) ∉ T → ∀ c : Nat, gr p k c = true → S c = true
structure RJ (p : Pr) (s k : Nat) (L T : List Int) (S : Int → Bool) : Prop where
  sound : ∀ c : Int, S c = true → ∃ k : Nat, c = k ∧ Rch (gr p) s k
  todo : ∀ x ∈ T, ∃ k : Nat, x = k ∧ k < p.funcs.length ∧ (k = s ∨ S k = true)
  clo : ∀ k' : Nat, k' ≠ k → (k' = s ∨ S k' = true) → (k' : Int) ∉ T → ∀ c : Nat, gr p k' c = true → S c = true
  own : k = s ∨ S k = true
  some : ∀ c ∈ L, S c = true
theorem RI.start (p : Pr) {s : Nat} (hs : s < p.funcs.length) : RI p s [(s : Int)] (fun _ => false) where
  sound c h := by cases h
  todo x hx := by simp at hx; exact ⟨s, hx, hs, Or.inl rfl⟩
  clo k h hk := by rcases h with rfl | h; simp at hk; cases h
theorem RI.pop {p : Pr} {s k : Nat} {T : List Int} {S : Int → Bool} (h : RI p s (T ++ [(k : Int)]) S) : RJ p s k [] T S where
  sound := h.sound
  todo x hx := h.todo x (List.mem_append_left _ hx)
  clo k' hne hs hT := h.clo k' hs (by simp [hT]; omega)
  own := by obtain ⟨k', e, _, h'⟩ := h.todo (k : Int) (by simp); obtain rfl : k = k' := by omega
            exact h'
  some c hc := by cases hc
theorem RJ.seen {p : Pr} {s k : Nat} {L T : List Int} {S : Int → Bool} {c : Int} (h : RJ p s k L T S) (hc : S c = true) : RJ p s k (L ++ [c]) T S :=
  ⟨h.sound, h.todo, h.clo, h.own, fun x hx => by rcases List.mem_append.1 hx with hx | hx; exact h.some x hx; simp at hx; subst hx; exact hc⟩
theorem RJ.push {p : Pr} {s k c : Nat} {L T : List Int} {S : Int → Bool} (h : RJ p s k L T S) (hc : S (c : Int) = false) (hg : gr p k c = true) (hn : c < p.funcs.length) : RJ p s k (L ++ [(c : Int)]) (T ++ [(c : Int)]) (fun x => if x = (c : Int) then true else S x) where
  sound x hx := by
    by_cases e : x = (c : Int)
    · refine ⟨c, e, ?_⟩
      rcases h.own with rfl | ho
      · exact .one hg
      · obtain ⟨k', e', hr⟩ := h.sound _ ho
        obtain rfl : k = k' := by omega
        exact .next hr hg
    · simp only [e, if_false] at hx; exact h.sound x hx
  todo x hx := by
    rcases List.mem_append.1 hx with hx | hx
    · obtain ⟨k', e, hl, ho⟩ := h.todo x hx
      refine ⟨k', e, hl, ?_⟩
      rcases ho with ho | ho
      · exact Or.inl ho
      · right; (try dsimp only); split <;> simp [ho]
    · simp at hx; exact ⟨c, hx, hn, Or.inr (by simp)⟩
  clo k' hne hs hT c' hg' := by
    have hk : ¬ (k' : Int) = (c : Int) := fun e => hT (by simp [e])
    have : k' = s ∨ S (k' : Int) = true := by
      rcases hs with hs | hs
      · exact Or.inl hs
      · right; simpa only [hk, if_false] using hs
    have := h.clo k' hne this (fun q => hT (List.mem_append_left _ q)) c' hg'
    (try dsimp only); split <;> simp [this]
  own := by
    rcases h.own with ho | ho
    · exact Or.inl ho
    · right; (try dsimp only); split <;> simp [ho]
  some x hx := by
    rcases List.mem_append.1 hx with hx | hx
    · have := h.some x hx; (try dsimp only); split <;> simp [this]
    · simp at hx; simp [hx]
theorem RJ.done {p : Pr} {s k : Nat} {L T : List Int} {S : Int → Bool} (h : RJ p s k L T S) (hL : ∀ c : Nat, gr p k c = true → (c : Int) ∈ L) : RI p s T S where
  sound := h.sound
  todo := h.todo
  clo k' hs hT c hg := by
    by_cases e : k' = k
    · subst e; exact h.some _ (hL c hg)
    · exact h.clo k' e hs hT c hg
theorem RI.fin {p : Pr} {s : Nat} {S : Int → Bool} (h : RI p s [] S) (c : Nat) : S (c : Int) = true ↔ Rch (gr p) s c := by
  constructor
  · intro hc; obtain ⟨k, e, hr⟩ := h.sound _ hc; obtain rfl : c = k := by omega
    exact hr
  · intro hr
    exact hr.mem (P := fun c => S (c : Int) = true) (fun c hg => h.clo s (Or.inl rfl) (by simp) c hg) (fun m c hm hg => h.clo m (Or.inr hm) (by simp) c hg)
theorem Own.lit1 {base : Nat} {e : TypeId} {w : World} {g : Nat} {x : Int} (hx : I64 x) (hg : w.heap[g]? = some (.cells #[.int .i64 x] e)) (hb : base ≤ g) : Own (fun _ => False) base e w (.slice (some ⟨g, 0, none⟩) 1 1) [x] :=
  ⟨fun _ => False, [[.int .i64 x]], fun _ h => h.elim, rfl, (fun i h h' => match i, h with | 0, _ => ⟨rfl, hx⟩), by simp, by
    refine ⟨by simp [sz_int], .inr ⟨g, 1, #[.int .i64 x], rfl, hb, hg, Nat.le_refl _, by unfold maxLen; omega, by simp [sz_int], by simp [sz_int]⟩⟩⟩
def Rg7 (lo hi b : Nat) : Prop := lo ≤ b ∧ b < hi
theorem nil_or_snoc (T : List Int) : T = [] ∨ ∃ T' x, T = T' ++ [x] := by
  rcases List.eq_nil_or_concat T with h | ⟨T', x, h⟩
  · exact Or.inl h
  · exact Or.inr ⟨T', x, by rw [h, List.concat_eq_append]⟩
theorem unseen_le (S : Int → Bool) : unseen S ≤ 8 := by
  unfold unseen; have := List.countP_le_length (p := fun c : Nat => !S (c : Int)) (l := List.range 8); simpa using this
set_option maxRecDepth 100000 in
set_option maxHeartbeats 4000000 in
theorem program_from (p : Pr) (pv : Value) (s : Nat) (w : World) {F : Nat → Prop} (hp : Sl F w pv p.funcs) (hok : prErr p = 0) (hs : s < p.funcs.length) :
    Calls Try.prog 44 #[p.v pv, .int .i64 s] w (RetP w fun v w' => ∃ B m S, v = .map (some B) ∧ MapB w' B m S ∧ w.heap.size ≤ B ∧ ∀ c : Nat, S (c : Int) = true ↔ Rch (gr p) s c) := by
  obtain ⟨a, n, cap, rfl, Hn, hm, hcap, hcm, hp⟩ := hp.open
  have Hok := Lib.hid (pr_ok hok)
  have Hok0 := Lib.hid hok
  have Hs := Lib.hid hs
  have hsn : s < n := by rw [Hn.out]; exact hs
  have hn8 : n ≤ 8 := by have := Hok.out.2.1; rw [← Hn.out] at this; exact this
  clear hok hs
  have hmm := @run_makeMap Try.prog
  go_enter Try.func44, Try.ntmps44
  go_wp2_with fail
  clear hmm
  go_loopw [6] (fun tv wr => ∃ (T : List Int) (S : Int → Bool) (m : Nat) (x : Ext), wr = ext (w.alloc (Obj.cells #[.slice a n cap] 43)) x ∧ MapB wr (w.heap.size + 1) m S ∧ Own (fun _ => False) (w.heap.size + 1 + 1) 3 wr tv T ∧ m + unseen S ≤ 8 ∧ T.length + unseen S ≤ 9 ∧ Hid (RI p s T S)) (fun tv wr => 2 * (List.range 8).countP (fun c : Nat => !resB ((Instr.lookup 89 (.map (some (w.heap.size + 1))) (.int .i64 (c : Nat)) false).run Try.prog wr)) + lenOf tv)
  case atStart =>
    obtain ⟨x, hx⟩ := ext_of_grow (W := w.alloc (Obj.cells #[.slice a n cap] 43)) (w := ((w.alloc (Obj.cells #[.slice a n cap] 43)).alloc (.map #[] 0)).alloc (.cells #[.int .i64 (s : Int)] 3)) (by (repeat (first | (with_reducible exact Grow.refl _) | assumption | refine Grow.ext ?_ _ | refine Grow.alloc ?_ _ | refine Grow.drew ?_ | refine Grow.setCell ?_ (by first | (simp; done) | (simp; omega)) _ | refine Grow.trans ?_ (by assumption))))
    refine ⟨[(s : Int)], fun _ => false, 0, x, hx, ?_, ?_, ?_, ?_, Lib.hid (RI.start p Hs.out)⟩
    · have := (MapB.made (w.alloc (Obj.cells #[.slice a n cap] 43))).mono (w' := ((w.alloc (Obj.cells #[.slice a n cap] 43)).alloc (.map #[] 0)).alloc (.cells #[.int .i64 (s : Int)] 3)) (by (repeat (first | (with_reducible exact Grow.refl _) | assumption | refine Grow.ext ?_ _ | refine Grow.alloc ?_ _ | refine Grow.drew ?_ | refine Grow.setCell ?_ (by first | (simp; done) | (simp; omega)) _ | refine Grow.trans ?_ (by assumption))))
      rwa [alloc_size] at this
    · refine Own.lit1 ⟨by omega, by omega⟩ ?_ (Nat.le_refl _)
      show (Array.push _ _)[_]? = _
      rw [Array.getElem?_push, if_pos (by simp)]
    · have := unseen_le (fun _ => false); omega
    · have := unseen_le (fun _ => false); simp; omega
  case round =>
    obtain ⟨T, S, m, x, rfl, hMB, hown, hmu, hTu, Hri⟩ := hrel
    obtain ⟨ta, tcap, rfl, htl⟩ := hown.shape
    rcases nil_or_snoc T with rfl | ⟨T', tx, rfl⟩
    · go_wp2_with fail
      go_ret
      exact RetP.mk ⟨_, m, S, rfl, hMB, by omega, fun c => Hri.out.fin c⟩ (by (repeat (first | (with_reducible exact Grow.refl _) | assumption | refine Grow.ext ?_ _ | refine Grow.alloc ?_ _ | refine Grow.drew ?_ | refine Grow.setCell ?_ (by first | (simp; done) | (simp; omega)) _ | refine Grow.trans ?_ (by assumption))))
    · obtain ⟨k, rfl, hkn, _⟩ := Hri.out.todo tx (by simp)
      have hkn' : k < n := by rw [Hn.out]; exact hkn
      clear hkn
      obtain ⟨n1, hn1⟩ : ∃ n1, n1 = T'.length := ⟨_, rfl⟩
      have e1 : (T' ++ [(k : Int)]).length = n1 + 1 := by simp [hn1]
      rw [e1] at hown hTu ⊢
      have hown1 := hown.pop
      have hsl := hown.sl
      obtain ⟨b_t, off_t, t, rfl, ⟨Hg_t, hl_t, hw_t, c_t0⟩⟩ := hsl.int n1 (by omega)
      obtain rfl : t = (k : Int) := by
        have q := Hg_t.out; rw [hn1] at q; simp at q; exact q.symm
      have Hn1 := Lib.hid hn1
      clear hn1 e1
      have htc : n1 + 1 ≤ tcap ∧ tcap ≤ 9223372036854775807 := by obtain ⟨_, _, _, he, _, hq, h1, h2, _⟩ := hsl.open; injection he with _ e2 e3; omega
      obtain ⟨htc1, htc2⟩ := htc
      obtain ⟨b_f, off_f, f, f_locals_a, f_locals_n, f_locals_c, f_blocks_a, f_blocks_n, f_blocks_c, rfl, ⟨Hg_f, hl_f, hw_f, f_locals, f_blocks, c_f0, c_f1, c_f2, c_f3, r_f0⟩⟩ := hp.fn k hkn'
      have Hfm := Lib.hid (List.mem_of_getElem? Hg_f.out)
      have Hfe := Lib.hid (Hok.out.2.2.1 f Hfm.out)
      have Hrj := Lib.hid Hri.out.pop
      have Hgr : Hid (∀ c, gr p k c = callsTo f c) := Lib.hid (fun c => by unfold gr; rw [Hg_f.out])
      have HM0 : Hid (2 * (List.range 8).countP (fun c : Nat => !resB ((Instr.lookup 89 (.map (some (w.heap.size + 1))) (.int .i64 (c : Nat)) false).run Try.prog (ext (w.alloc (Obj.cells #[.slice (some ⟨b_f, off_f, none⟩) n cap] 43)) x))) = 2 * unseen S) := Lib.hid (by rw [unsW_eq hMB])
      have hrow : b_t < (ext (w.alloc (Obj.cells #[.slice (some ⟨b_f, off_f, none⟩) n cap] 43)) x).heap.size := (hown1.row_lt b_t rfl).2
      clear hown Hri hsl
      go_wp2_with (first
        | (go_at_call 18; go_must (with_reducible refine (fnshape_Calls f _ _ _ hw_f (f_locals.mono (by (repeat (first | (with_reducible exact Grow.refl _) | assumption | refine Grow.ext ?_ _ | refine Grow.alloc ?_ _ | refine Grow.drew ?_ | refine Grow.setCell ?_ (by first | (simp; done) | (simp; omega)) _ | refine Grow.trans ?_ (by assumption))))) (f_blocks.mono (by (repeat (first | (with_reducible exact Grow.refl _) | assumption | refine Grow.ext ?_ _ | refine Grow.alloc ?_ _ | refine Grow.drew ?_ | refine Grow.setCell ?_ (by first | (simp; done) | (simp; omega)) _ | refine Grow.trans ?_ (by assumption))))) Hfe.out).mono ?_); rintro e w5 ⟨v5, rfl, ⟨u5, rfl, hs5⟩, hb5⟩; obtain ⟨x5, rfl⟩ := ext_of_grow hb5; clear hb5; obtain ⟨a5, n5, cap5, rfl, Hn5, hm5, hcap5, hcm5, hs5⟩ := hs5.open))
      have hs6 : Sl (Rg7 (ext (w.alloc (Obj.cells #[.slice (some ⟨b_f, off_f, none⟩) n cap] 43)) x).heap.size (ext (ext (w.alloc (Obj.cells #[.slice (some ⟨b_f, off_f, none⟩) n cap] 43)) x) x5).heap.size) (ext (ext (w.alloc (Obj.cells #[.slice (some ⟨b_f, off_f, none⟩) n cap] 43)) x) x5) (.slice a5 n5 cap5) (callsL f) := hs5.wide (fun b hb hF => by rcases hF with hF | hF; exact hF.elim; exact ⟨hF, hb⟩)
      obtain ⟨lo, hlo⟩ : ∃ lo, lo = (ext (w.alloc (Obj.cells #[.slice (some ⟨b_f, off_f, none⟩) n cap] 43)) x).heap.size := ⟨_, rfl⟩
      obtain ⟨hi, hhi⟩ : ∃ hi, hi = (ext (ext (w.alloc (Obj.cells #[.slice (some ⟨b_f, off_f, none⟩) n cap] 43)) x) x5).heap.size := ⟨_, rfl⟩
      rw [← hlo, ← hhi] at hs6
      have hlo1 : w.heap.size + 1 + 1 ≤ lo := by have := hMB.lt; omega
      have hbt : b_t < lo := by rw [hlo]; exact hrow
      have hMB5 := hMB.mono (grow_ext (ext (w.alloc (Obj.cells #[.slice (some ⟨b_f, off_f, none⟩) n cap] 43)) x) x5)
      have hown5 := hown1.mono (grow_ext (ext (w.alloc (Obj.cells #[.slice (some ⟨b_f, off_f, none⟩) n cap] 43)) x) x5)
      rw [ext_ext] at hs6 hMB5 hown5 hhi
      have Hhi := Lib.hid hhi
      have Hlo := Lib.hid hlo
      clear hlo hhi hs5 hrow
      go_loopw [6, 40] (fun tv i wr => ∃ (q : Nat) (T2 : List Int) (S2 : Int → Bool) (m2 : Nat) (x2 : Ext), q ≤ n5 ∧ i = .int .i64 q ∧ wr = ext (w.alloc (Obj.cells #[.slice (some ⟨b_f, off_f, none⟩) n cap] 43)) x2 ∧ hi ≤ wr.heap.size ∧ MapB wr (w.heap.size + 1) m2 S2 ∧ Own (fun _ => False) (w.heap.size + 1 + 1) 3 wr tv T2 ∧
        Sl (Rg7 lo hi) wr (.slice a5 n5 cap5) (callsL f) ∧ (∀ g, tv.ownBlock = some g → g < lo ∨ hi ≤ g) ∧ m2 + unseen S2 ≤ 8 ∧ T2.length + unseen S2 ≤ 9 ∧ 2 * unseen S2 + T2.length + 1 ≤ 2 * unseen S + (n1 + 1) ∧ Hid (RJ p s k ((callsL f).take q) T2 S2)) (fun _ i _ => n5 - (intOf i).toNat)
      case atStart =>
        refine ⟨0, T', S, m, _, Nat.zero_le _, rfl, ext_ext _ _ _, ?_, ?_, ?_, ?_, ?_, hmu, ?_, ?_, Lib.hid (by simpa using Hrj.out)⟩
        · rw [ext_ext, Hhi.out]; exact Nat.le_refl _
        · rw [ext_ext]; exact hMB5
        · rw [ext_ext]; exact hown5
        · rw [ext_ext]; exact hs6
        · intro g hg; simp [Value.ownBlock] at hg; subst hg; exact Or.inl hbt
        · rw [← Hn1.out]; omega
        · rw [← Hn1.out]; omega
      case round =>
        obtain ⟨q, T2, S2, m2, x2, hq, rfl, rfl, hhs, hMB2, hown2, hs2, hob, hmu2, hTu2, hM2, Hj⟩ := hrel
        clear hs6 hMB5 hown5 hMB hown1
        by_cases hlt : q < n5
        · obtain ⟨b_c, off_c, c, rfl, ⟨Hg_c, hl_c, hw_c, c_c0⟩⟩ := hs2.int q hlt
          obtain ⟨cn, rfl, hc8, hct⟩ := callsL_mem (List.mem_of_getElem? Hg_c.out)
          have Hcl := Lib.hid (calls_lt Hok0.out Hfm.out hct)
          have Hct := Lib.hid (show gr p k cn = true by rw [Hgr.out cn]; exact hct)
          have Htk : Hid ((callsL f).take (q + 1) = (callsL f).take q ++ [(cn : Int)]) := Lib.hid (by rw [List.take_add_one, Hg_c.out]; rfl)
          clear hct
          have hlook := hMB2.look hw_c
          cases hS : S2 (cn : Int)
          · obtain ⟨w1, hput, hMB3, hgr1⟩ := hMB2.put (by omega) hw_c
            obtain ⟨x3, rfl⟩ := ext_of_grow (W := (w.alloc (Obj.cells #[.slice (some ⟨b_f, off_f, none⟩) n cap] 43))) (grown_grow (grow_ext _ _) hgr1 (fun k hk => by simp at hk; subst hk; simp))
            have hown3 := hown2.kept hgr1 (by omega)
            have Hun := Lib.hid (unseen_put (S := S2) hc8 hS)
            have hbs3 : w.heap.size + 1 + 1 ≤ (ext (w.alloc (Obj.cells #[.slice (some ⟨b_f, off_f, none⟩) n cap] 43)) x3).heap.size := by have := hMB3.lt; omega
            have hhs3 : hi ≤ (ext (w.alloc (Obj.cells #[.slice (some ⟨b_f, off_f, none⟩) n cap] 43)) x3).heap.size := Nat.le_trans hhs hgr1.size
            go_wp2_with (first | (at_builtin; go_must (refine wpList_app2 slT_int rfl rfl rfl hown3 (by (repeat (first | (with_reducible exact Grow.refl _) | assumption | refine Grow.ext ?_ _ | refine Grow.alloc ?_ _ | refine Grow.drew ?_ | refine Grow.setCell ?_ (by first | (simp; done) | (simp; omega)) _ | refine Grow.trans ?_ (by assumption)))) (by simp) (Nat.le_trans hbs3 (by rw [alloc_size]; omega)) rfl (y := (cn : Int)) hw_c (by (repeat (refine CellsAt.cons (by go_simp) ?_)); exact CellsAt.nil _ _ _) (by omega) (by omega) ?_); intro tv' x' hown' hgr' hob'))
            go_roundw
            case rel =>
              have hne : ∀ b, b < w.heap.size + 1 + 1 → some b ≠ Value.ownBlock _ := fun b hb e => by have := (hown3.row_lt b e.symm).1; omega
              refine ⟨q + 1, T2 ++ [(cn : Int)], _, m2 + 1, x', by omega, by go_num, rfl, Nat.le_trans hhs3 hgr'.size, hMB3.agr (hgr'.block _ hMB3.lt (hne _ (by omega))), hown', ?_, ?_, ?_, ?_, ?_, Lib.hid (by rw [Htk.out]; exact Hj.out.push hS Hct.out Hcl.out)⟩
              · have h1 := hs2.keep (w' := ext (w.alloc (Obj.cells #[.slice (some ⟨b_f, off_f, none⟩) n cap] 43)) x3) (fun b hb hlt => hgr1.block b hlt (by intro e; injection e with e; have := hb.1; omega))
                exact h1.keep (fun b hb hlt => hgr'.block b hlt (fun e => by have h2 := hob b e.symm; have h3 := hb.1; have h4 := hb.2; omega))
              · intro g hg
                rcases hob' with e | e
                · exact hob g (Eq.trans (Eq.symm e) hg)
                · rw [e] at hg; injection hg with hg; right; rw [← hg, alloc_size]; omega
              · have := Hun.out; omega
              · have := Hun.out; rw [List.length_append, List.length_singleton]; omega
              · have := Hun.out; rw [List.length_append, List.length_singleton]; omega
            case measure => simp [intOf]; omega
          · go_wp2_with fail
            go_roundw
            case rel => exact ⟨q + 1, T2, S2, m2, x2, by omega, by go_num, rfl, hhs, hMB2, hown2, hs2, hob, hmu2, hTu2, hM2, Lib.hid (by rw [Htk.out]; exact Hj.out.seen hS)⟩
            case measure => simp [intOf]; omega
        · obtain ⟨ta2, tc2, rfl, _⟩ := hown2.shape
          go_wp2_with fail
          go_roundw
          case rel =>
            refine ⟨T2, S2, m2, x2, rfl, hMB2, hown2, hmu2, hTu2, Lib.hid (Hj.out.done (fun c hc => ?_))⟩
            rw [List.take_of_length_le (by rw [← hs2.len]; omega)]
            rw [Hgr.out] at hc
            exact callsL_of (by have := calls_lt Hok0.out Hfm.out hc; have := Hok.out.2.1; omega) hc
          case measure => rw [HM0.out, unsW_eq hMB2]; simp only [lenOf]; omega
/-- c is 0, or reached from it. -/
def reachB (p : Pr) : Nat → Bool := rnds (gr p) p.funcs.length 8 (fun x => x == 0)
theorem reachB_iff {p : Pr} (h : prErr p = 0) (c : Nat) : reachB p c = true ↔ (c = 0 ∨ Rch (gr p) 0 c) := by
  unfold reachB
  rw [rnds_from (pr_ok h).2.1 (gr_lt h)]
  constructor
  · rintro (h | ⟨i, hi, hr⟩)
    · exact Or.inl (by simpa using h)
    · obtain rfl : i = 0 := by simpa using hi
      exact Or.inr hr
  · rintro (h | h)
    · exact Or.inl (by simp [h])
    · exact Or.inr ⟨0, by simp, h⟩
def reachUpto (p : Pr) (q : Nat) : List Int := ((List.range q).filter (reachB p)).map (fun c : Nat => (c : Int))
def reachL (p : Pr) : List Int := reachUpto p p.funcs.length
theorem reachUpto_succ (p : Pr) (q : Nat) : reachUpto p (q + 1) = reachUpto p q ++ (if reachB p q = true then [(q : Int)] else []) := by
  unfold reachUpto; rw [List.range_succ, List.filter_append, List.map_append]
  cases h : reachB p q <;> simp [h]
theorem reachUpto_len (p : Pr) (q : Nat) : (reachUpto p q).length ≤ q := by
  unfold reachUpto; rw [List.length_map]
  have := List.length_filter_le (reachB p) (List.range q); simpa using this
theorem reachUpto_one {p : Pr} (h : prErr p = 0) : reachUpto p 1 = [0] := by
  have : reachB p 0 = true := (reachB_iff h 0).2 (Or.inl rfl)
  rw [reachUpto_succ, this]; rfl
theorem program_from0 (p : Pr) (pv : Value) (w : World) {F : Nat → Prop} (hp : Sl F w pv p.funcs) (hok : prErr p = 0) (hs : 0 < p.funcs.length) :
    Calls Try.prog 44 #[p.v pv, .int .i64 0] w (RetP w fun v w' => ∃ B m S, v = .map (some B) ∧ MapB w' B m S ∧ w.heap.size ≤ B ∧ ∀ c : Nat, S (c : Int) = true ↔ Rch (gr p) 0 c) := program_from p pv 0 w hp hok hs
set_option maxRecDepth 100000 in
set_option maxHeartbeats 2000000 in
theorem program_Reached (p : Pr) (pv : Value) (w : World) {F : Nat → Prop} (hp : Sl F w pv p.funcs) (hok : prErr p = 0) :
    Calls Try.prog 20 #[p.v pv] w (RetP w fun v w' => ∃ u, v = .tuple #[u, .int .i64 0] ∧ Sl (Fresh w) w' u (reachL p)) := by
  obtain ⟨a, n, cap, rfl, Hn, hm, hcap, hcm, hp⟩ := hp.open
  have Hok := Lib.hid hok
  have hok' : (prErr p != 0) = false := by simp [hok]
  have H8 := Lib.hid (pr_ok hok)
  clear hok
  have hn8 : n ≤ 8 := by have := H8.out.2.1; rw [← Hn.out] at this; exact this
  have hn1 : 1 ≤ n := by have := H8.out.1; rw [← Hn.out] at this; exact this
  have H0 : Hid (0 < p.funcs.length) := Lib.hid (by have := H8.out.1; omega)
  go_enter Try.func20, Try.ntmps20
  go_wp2_with (first | (go_at_call 26; ((with_reducible refine (program_Check p _ _ (hp.mono (by (repeat (first | (with_reducible exact Grow.refl _) | assumption | refine Grow.ext ?_ _ | refine Grow.alloc ?_ _ | refine Grow.drew ?_ | refine Grow.setCell ?_ (by first | (simp; done) | (simp; omega)) _ | refine Grow.trans ?_ (by assumption)))))).mono ?_); rintro e w1 ⟨rfl, hb1⟩; obtain ⟨x1, rfl⟩ := ext_of_grow hb1; clear hb1)) | (go_at_call 44; go_must (with_reducible refine (program_from0 p _ _ (hp.mono (by (repeat (first | (with_reducible exact Grow.refl _) | assumption | refine Grow.ext ?_ _ | refine Grow.alloc ?_ _ | refine Grow.drew ?_ | refine Grow.setCell ?_ (by first | (simp; done) | (simp; omega)) _ | refine Grow.trans ?_ (by assumption))))) Hok.out H0.out).mono ?_); rintro e w2 ⟨v2, rfl, ⟨B, m, S, rfl, hMB, hB, hS⟩, hb2⟩; obtain ⟨x2, rfl⟩ := ext_of_grow hb2; clear hb2; have HS := Lib.hid hS; clear hS))
  obtain ⟨base, hbase⟩ : ∃ base, base = (ext (ext (w.alloc (Obj.cells #[.slice a n cap] 43)) x1) x2).heap.size := ⟨_, rfl⟩
  have hBb : B < base := by rw [hbase]; exact hMB.lt
  have hb0 : w.heap.size + 1 ≤ base := by rw [hbase]; simp; omega
  have Hbase := Lib.hid hbase
  go_loopw [6, 7] (fun tv i wr => ∃ (q : Nat) (x : Ext), 1 ≤ q ∧ q ≤ n ∧ i = .int .i64 q ∧ wr = ext (w.alloc (Obj.cells #[.slice a n cap] 43)) x ∧ base ≤ wr.heap.size ∧ MapB wr B m S ∧ Own (fun _ => False) base 3 wr tv (reachUpto p q)) (fun _ i _ => n - (intOf i).toNat)
  case atStart =>
    obtain ⟨y, hy⟩ := ext_of_grow (W := w.alloc (Obj.cells #[.slice a n cap] 43)) (w := (ext (ext (w.alloc (Obj.cells #[.slice a n cap] 43)) x1) x2).alloc (.cells #[.int .i64 0] 3)) (by (repeat (first | (with_reducible exact Grow.refl _) | assumption | refine Grow.ext ?_ _ | refine Grow.alloc ?_ _ | refine Grow.drew ?_ | refine Grow.setCell ?_ (by first | (simp; done) | (simp; omega)) _ | refine Grow.trans ?_ (by assumption))))
    refine ⟨1, y, Nat.le_refl _, hn1, rfl, hy, ?_, ?_, ?_⟩
    · rw [alloc_size, ← hbase]; omega
    · exact hMB.mono (by (repeat (first | (with_reducible exact Grow.refl _) | assumption | refine Grow.ext ?_ _ | refine Grow.alloc ?_ _ | refine Grow.drew ?_ | refine Grow.setCell ?_ (by first | (simp; done) | (simp; omega)) _ | refine Grow.trans ?_ (by assumption))))
    · rw [reachUpto_one Hok.out, show (⟨_, 0, none⟩ : Addr) = ⟨base, 0, none⟩ by rw [hbase]; simp]
      refine Own.lit1 ⟨by omega, by omega⟩ ?_ (Nat.le_refl _)
      rw [hbase]
      show (Array.push _ _)[_]? = _
      rw [Array.getElem?_push, if_pos rfl]
  case round =>
    obtain ⟨q, x, hq1, hq, rfl, rfl, hbs, hMB2, hown⟩ := hrel
    clear hMB hbase
    by_cases hlt : q < n
    · have hlook := hMB2.look (c := (q : Int)) ⟨by omega, by omega⟩
      have Hr : Hid (reachB p q = S (q : Int)) := Lib.hid (by
        rw [Bool.eq_iff_iff, reachB_iff Hok.out, HS.out q]
        constructor
        · rintro (h | h); omega; exact h
        · exact Or.inr)
      have hln := reachUpto_len p q
      cases hSq : S (q : Int)
      · go_wp2_with fail
        go_roundw
        case rel => exact ⟨q + 1, x, by omega, by omega, by go_num, rfl, hbs, hMB2, by rw [reachUpto_succ, Hr.out, hSq]; simpa using hown⟩
        case measure => simp [intOf]; omega
      · have hw64 : I64 (q : Int) := ⟨by omega, by omega⟩
        have hb1 : (w.alloc (Obj.cells #[.slice a n cap] 43)).heap.size ≤ base := by rw [alloc_size]; exact hb0
        go_wp2_with (first | (at_builtin; go_must (refine wpList_app2 slT_int rfl rfl rfl hown (by (repeat (first | (with_reducible exact Grow.refl _) | assumption | refine Grow.ext ?_ _ | refine Grow.alloc ?_ _ | refine Grow.drew ?_ | refine Grow.setCell ?_ (by first | (simp; done) | (simp; omega)) _ | refine Grow.trans ?_ (by assumption)))) hb1 (Nat.le_trans hbs (by rw [alloc_size]; omega)) rfl (y := (q : Int)) hw64 (by (repeat (refine CellsAt.cons (by go_simp) ?_)); exact CellsAt.nil _ _ _) (by omega) (by omega) ?_); intro tv' x' hown' hgr' hob'))
        go_roundw
        case rel =>
          refine ⟨q + 1, x', by omega, by omega, by go_num, rfl, Nat.le_trans hbs hgr'.size, hMB2.agr (hgr'.block _ hMB2.lt (fun e => by have := (hown.row_lt B e.symm).1; omega)), ?_⟩
          rw [reachUpto_succ, Hr.out, hSq]; exact hown'
        case measure => simp [intOf]; omega
    · obtain rfl : q = n := by omega
      go_wp2_with fail
      refine postP_of (by simp only [results, Try.results20]; go_simp <;> rfl) rfl (by (repeat (first | (with_reducible exact Grow.refl _) | assumption | refine Grow.ext ?_ _ | refine Grow.alloc ?_ _ | refine Grow.drew ?_ | refine Grow.setCell ?_ (by first | (simp; done) | (simp; omega)) _ | refine Grow.trans ?_ (by assumption)))) ⟨_, rfl, ?_⟩
      have e : reachL p = reachUpto p q := by unfold reachL; rw [← Hn.out]
      rw [e]
      exact hown.sl.wide (fun b hb hF => by rcases hF with hF | hF; exact hF.elim; exact Or.inr (by omega))
end Go.Proofs.Ythackfblfkpddaa
