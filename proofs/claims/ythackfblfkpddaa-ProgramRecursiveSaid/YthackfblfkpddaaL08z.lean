/- Layer 8: a call that is changed makes a program that is not valid. -/
import Derived.Test.YthackfblfkpddaaL08y
import Derived.Test.YthackfblfkpddaaL08e
import Derived.Test.YthackfblfkpddaaL07x
namespace Go.Proofs.Ythackfblfkpddaa
open Go.RowKit
set_option linter.unusedSimpArgs false
set_option linter.unusedVariables false

theorem flatMap_set {α β : Type} {g : α → List β} : ∀ {l : List α} {i : Nat} {b b' : α}, l[i]? = some b → g b' = g b → (l.set i b').flatMap g = l.flatMap g
  | [], i, b, b', h, _ => by simp at h
  | x :: l, 0, b, b', h, e => by simp at h; subst h; simp [e]
  | x :: l, i + 1, b, b', h, e => by simp only [List.set_cons_succ, List.flatMap_cons]; rw [flatMap_set (by simpa using h) e]
theorem flatMap_set_count {α : Type} {g : α → List Int} {t : Int} : ∀ {l : List α} {i : Nat} {b b' : α}, l[i]? = some b → ((l.set i b').flatMap g).count t + (g b).count t = (l.flatMap g).count t + (g b').count t
  | [], i, b, b', h => by simp at h
  | x :: l, 0, b, b', h => by simp at h; subst h; simp only [List.set_cons_zero, List.flatMap_cons, List.count_append]; omega
  | x :: l, i + 1, b, b', h => by
    have := flatMap_set_count (g := g) (t := t) (l := l) (i := i) (b := b) (b' := b') (by simpa using h)
    simp only [List.set_cons_succ, List.flatMap_cons, List.count_append]; omega
theorem flatMap_len {α β : Type} {g : α → List β} {m : Nat} : ∀ {l : List α}, (∀ x ∈ l, (g x).length ≤ m) → (l.flatMap g).length ≤ m * l.length
  | [], _ => by simp
  | x :: l, h => by
    have h1 := h x (by simp)
    have h2 := flatMap_len (l := l) (fun y hy => h y (by simp [hy]))
    rw [List.flatMap_cons, List.length_append, List.length_cons, Nat.mul_add]; omega
theorem flatMap_le {α : Type} {g g' : α → List Int} {t : Int} : ∀ {l : List α}, (∀ x ∈ l, (g x).count t ≤ (g' x).count t) → (l.flatMap g).count t ≤ (l.flatMap g').count t
  | [], _ => by simp
  | x :: l, h => by
    have h1 := h x (by simp)
    have h2 := flatMap_le (l := l) (fun y hy => h y (by simp [hy]))
    simp only [List.flatMap_cons, List.count_append]; omega
theorem pas_le (vs : List Vis) (t : Int) : (pasV vs).count t ≤ (locV vs).count t := by
  induction vs with
  | nil => simp [pasV, locV]
  | cons v vs ih =>
    have e1 : pasV (v :: vs) = (if pass v.1 v.2 = true then [v.1.loc] else []) ++ pasV vs := by simp [pasV]
    have e2 : locV (v :: vs) = [v.1.loc] ++ locV vs := by simp [locV]
    rw [e1, e2, List.count_append, List.count_append]
    split <;> simp <;> omega
theorem set_le (s : St) (t : Int) : (pasV (visS s)).count t + (setO s).count t ≤ (locV (visS s)).count t := by
  by_cases h : setS s = true
  · have hk : s.kind = 1 := by unfold setS two at h; simp only [Bool.and_eq_true, decide_eq_true_eq] at h; exact h.1.1.1.1.1
    have e : visS s = (s.pl, false) :: visR s.r := by unfold visS; rw [if_neg (by omega), if_neg (by omega), if_pos hk]
    have e0 : setO s = [s.pl.loc] := by unfold setO; rw [if_pos h]
    rw [e, pas_one, e0]
    have e2 : locV ((s.pl, false) :: visR s.r) = [s.pl.loc] ++ locV (visR s.r) := by simp [locV]
    rw [e2, List.count_append]
    have := pas_le (visR s.r) t; omega
  · have e0 : setO s = [] := by unfold setO; rw [if_neg h]
    rw [e0]; simpa using pas_le (visS s) t
abbrev locC (b : Bk) : List Int := b.stmts.flatMap (fun s => locV (visS s)) ++ locV (visJ b.jump)
abbrev pasC (b : Bk) : List Int := b.stmts.flatMap (fun s => pasV (visS s)) ++ pasV (visJ b.jump)
theorem sum_le3 {l : List St} (t : Int) : (l.flatMap (fun s => pasV (visS s))).count t + (l.flatMap setO).count t ≤ (l.flatMap (fun s => locV (visS s))).count t := by
  induction l with
  | nil => simp
  | cons s l ih => have := set_le s t; simp only [List.flatMap_cons, List.count_append]; omega
theorem sets_le {l : List Bk} (t : Int) : (l.flatMap pasC).count t + (l.flatMap setB).count t ≤ (l.flatMap locC).count t := by
  induction l with
  | nil => simp
  | cons b l ih =>
    have h1 := sum_le3 (l := b.stmts) t
    have h2 := pas_le (visJ b.jump) t
    have e : setB b = b.stmts.flatMap setO := rfl
    simp only [List.flatMap_cons, List.count_append, e]; omega
theorem loc_len {f : Fn} (hs : small f = true) (hj : ∀ b ∈ f.blocks, (∀ s ∈ b.stmts, stErr s = 0) ∧ juErr b.jump = 0) : (f.blocks.flatMap locC).length ≤ 1000000 := by
  unfold small at hs; simp only [Bool.and_eq_true, decide_eq_true_eq, List.all_eq_true] at hs
  have := flatMap_len (g := locC) (l := f.blocks) (m := 81) (fun b hb => by
    have h1 := hs.2 b hb; unfold smallBk at h1; simp only [decide_eq_true_eq] at h1
    have h2 := flatMap_len (g := fun s => locV (visS s)) (l := b.stmts) (m := 3) (fun s _ => by unfold locV; rw [List.length_map]; exact visS_len s)
    have h3 := visJ_len (hj b hb).2
    unfold locC; rw [List.length_append]
    have h4 : (locV (visJ b.jump)).length = (visJ b.jump).length := by unfold locV; simp
    omega)
  omega
theorem ju_args {j : Ju} (h : juErr j = 0) : j.args.length ≤ 8 := by
  have := (juErr_iff j).1 h; unfold juOk juPre at this; grind
theorem two_arith {A A' P S a a' : Nat} (hA : A ≤ 1000000) (e : A' + a = A + a') (ha : a' ≤ a) (hge : P + S ≤ A') (h1 : wrap64 (A : Int) = 2) (h2 : wrap64 (P : Int) = 1) (h3 : wrap64 (S : Int) = 1) : wrap64 (A' : Int) = 2 := by
  rw [wrap_nat A hA] at h1
  rw [wrap_nat P (by omega)] at h2
  rw [wrap_nat S (by omega)] at h3
  rw [wrap_nat A' (by omega)]
  omega
theorem twos_set {f : Fn} {i : Nat} {b : Bk} {j : Ju} (h : fnErr f = 0) (hb : f.blocks[i]? = some b) (hm : madeB (fnB f i (bkJ b j)) = true)
    (hp : pasV (visJ j) = pasV (visJ b.jump)) (hl : ∀ t : Int, (locV (visJ j)).count t ≤ (locV (visJ b.jump)).count t) : twosOk (fnB f i (bkJ b j)) = true := by
  obtain ⟨g1, g2, g3⟩ := fn_good h
  have e0 : (fnB f i (bkJ b j)).blocks = f.blocks.set i (bkJ b j) := rfl
  have s2 : small (fnB f i (bkJ b j)) = true := by
    unfold small at g1 ⊢; simp only [Bool.and_eq_true, decide_eq_true_eq, List.all_eq_true] at g1 ⊢
    refine ⟨⟨g1.1.1, by rw [e0]; simpa using g1.1.2⟩, fun c hc => ?_⟩
    rw [e0] at hc
    rcases List.mem_or_eq_of_mem_set hc with hc | rfl
    · exact g1.2 c hc
    · exact g1.2 b (List.mem_of_getElem? hb)
  have l1 := loc_len g1 (fun c hc => made_all g2 hc)
  have l2 := loc_len s2 (fun c hc => made_all hm hc)
  unfold twosOk at g3 ⊢
  rw [List.all_eq_true] at g3 ⊢
  intro t ht
  have q := g3 t ht
  rw [fn_ts] at q ⊢
  have eis : isF (fnB f i (bkJ b j)) = isF f := by unfold isF; rw [e0]; exact flatMap_set hb rfl
  have esets : (fnB f i (bkJ b j)).blocks.flatMap setB = f.blocks.flatMap setB := by rw [e0]; exact flatMap_set hb rfl
  have epas : (fnB f i (bkJ b j)).blocks.flatMap pasC = f.blocks.flatMap pasC := by rw [e0]; exact flatMap_set hb (by unfold pasC; show b.stmts.flatMap _ ++ pasV (visJ j) = _; rw [hp])
  have eloc := flatMap_set_count (g := locC) (t := (t : Int)) (b' := bkJ b j) hb
  have eb : (locC (bkJ b j)).count (t : Int) ≤ (locC b).count (t : Int) := by
    have := hl t
    unfold locC; rw [List.count_append, List.count_append]; show _ + (locV (visJ j)).count _ ≤ _; have e : (bkJ b j).stmts = b.stmts := rfl
    rw [e]; omega
  have hge := sets_le (l := (fnB f i (bkJ b j)).blocks) (t := (t : Int))
  rw [esets, epas, e0] at hge
  unfold twoAt at q ⊢
  simp only [Bool.or_eq_true, Bool.not_eq_true', decide_eq_false_iff_not, Bool.and_eq_true, decide_eq_true_eq] at q ⊢
  rw [eis]
  rcases q with q | q
  · exact Or.inl q
  · right
    obtain ⟨⟨⟨q1, q2⟩, q3⟩, q4⟩ := q
    have z2 : wrap64 (((f.blocks.flatMap locC).count (t : Int) : Nat) : Int) = 2 := q2
    have z3 : wrap64 (((f.blocks.flatMap pasC).count (t : Int) : Nat) : Int) = 1 := q3
    have z4 : wrap64 (((f.blocks.flatMap setB).count (t : Int) : Nat) : Int) = 1 := q4
    have hA : (f.blocks.flatMap locC).count (t : Int) ≤ 1000000 := Nat.le_trans List.count_le_length l1
    have fin := two_arith hA eloc eb hge z2 z3 z4
    refine ⟨⟨⟨q1, ?_⟩, ?_⟩, ?_⟩
    · exact fin
    · show cw ((fnB f i (bkJ b j)).blocks.flatMap pasC) t = 1
      rw [epas]; exact q3
    · show cw ((fnB f i (bkJ b j)).blocks.flatMap setB) t = 1
      rw [esets]; exact q4
theorem fnErr_set {f : Fn} {i : Nat} {b : Bk} {j : Ju} (h : fnErr f = 0) (hb : f.blocks[i]? = some b)
    (hp : pasV (visJ j) = pasV (visJ b.jump)) (hl : ∀ t : Int, (locV (visJ j)).count t ≤ (locV (visJ b.jump)).count t) : fnErr (fnB f i (bkJ b j)) = 0 ∨ fnErr (fnB f i (bkJ b j)) = 8 := by
  have g1 := (fn_good h).1
  have s2 : small (fnB f i (bkJ b j)) = true := by
    have e0 : (fnB f i (bkJ b j)).blocks = f.blocks.set i (bkJ b j) := rfl
    unfold small at g1 ⊢; simp only [Bool.and_eq_true, decide_eq_true_eq, List.all_eq_true] at g1 ⊢
    refine ⟨⟨g1.1.1, by rw [e0]; simpa using g1.1.2⟩, fun c hc => ?_⟩
    rw [e0] at hc
    rcases List.mem_or_eq_of_mem_set hc with hc | rfl
    · exact g1.2 c hc
    · exact g1.2 b (List.mem_of_getElem? hb)
  by_cases hm : madeB (fnB f i (bkJ b j)) = true
  · left; unfold fnErr; rw [s2, hm, twos_set h hb hm hp hl]; rfl
  · right; unfold fnErr; rw [s2]; simp only [Bool.not_eq_true] at hm; rw [hm]; rfl
def prB (p : Pr) (fi : Nat) (f : Fn) : Pr := ⟨p.funcs.set fi f⟩
theorem fnsErr_set {l : List Fn} {i : Nat} {f : Fn} (h : ∀ g ∈ l, fnErr g = 0) (hi : i < l.length) : fnsErr (l.set i f) = fnErr f := by
  induction l generalizing i with
  | nil => simp at hi
  | cons g l ih =>
    cases i with
    | zero =>
      rw [List.set_cons_zero]; unfold fnsErr
      by_cases hf : fnErr f = 0
      · rw [if_neg (by simpa using hf), hf]
        have : ∀ l : List Fn, (∀ g ∈ l, fnErr g = 0) → fnsErr l = 0 := by
          intro l hl; induction l with
          | nil => rfl
          | cons x l ih => unfold fnsErr; rw [if_neg (by simpa using hl x (by simp))]; exact ih (fun y hy => hl y (by simp [hy]))
        exact this l (fun x hx => h x (by simp [hx]))
      · rw [if_pos hf]
    | succ i =>
      rw [List.set_cons_succ]; unfold fnsErr
      rw [if_neg (by simpa using h g (by simp))]
      exact ih (fun x hx => h x (by simp [hx])) (by simpa using hi)
theorem arity_bad {p : Pr} {fi bi : Nat} {f : Fn} {b : Bk} {j : Ju} (h : prErr p = 0) (hf : p.funcs[fi]? = some f) (hb : f.blocks[bi]? = some b)
    (hp : pasV (visJ j) = pasV (visJ b.jump)) (hl : ∀ t : Int, (locV (visJ j)).count t ≤ (locV (visJ b.jump)).count t) (hc : callB (p.funcs.set fi (fnB f bi (bkJ b j))) (bkJ b j) = false) : prErr (prB p fi (fnB f bi (bkJ b j))) = 8 := by
  obtain ⟨h1, h2, h3, h4, h5⟩ := pr_ok h
  have hfi := (List.getElem?_eq_some_iff.1 hf).1
  have hbi := (List.getElem?_eq_some_iff.1 hb).1
  have hfe := h3 f (List.mem_of_getElem? hf)
  have e := fnsErr_set (f := fnB f bi (bkJ b j)) h3 hfi
  unfold prErr prB
  simp only [List.length_set]
  rw [if_neg (by omega), if_neg (by omega), e]
  rcases fnErr_set (j := j) hfe hb hp hl with q | q
  · rw [q, if_neg (by simp), if_neg]
    intro ha
    simp only [Bool.and_eq_true] at ha
    have ha := ha.2
    unfold callsB at ha
    have h6 := List.all_eq_true.1 ha (fnB f bi (bkJ b j)) (List.mem_set hfi _)
    have h7 := List.all_eq_true.1 h6 (bkJ b j) (List.mem_set hbi _)
    rw [hc] at h7; cases h7
  · rw [q, if_pos (by decide)]
theorem visO_const (m : Bool) {o : Opd} (h : o.kind = 1) : visO m o = [] := by unfold visO; rw [if_pos h]
theorem call_of {p : Pr} (h : prErr p = 0) {f : Fn} (hf : f ∈ p.funcs) {b : Bk} (hb : b ∈ f.blocks) (h4 : b.jump.kind = 4) : 0 ≤ b.jump.fn ∧ b.jump.fn < (p.funcs.length : Int) ∧ (b.jump.args.length : Int) = (p.funcs.getD b.jump.fn.toNat fnz).params := by
  have h5 := (pr_ok h).2.2.2.2
  unfold callsB at h5
  have := List.all_eq_true.1 (List.all_eq_true.1 h5 f hf) b hb
  unfold callB at this
  simp only [h4, decide_true, Bool.not_true, Bool.false_or, Bool.and_eq_true, decide_eq_true_eq] at this
  exact ⟨ju_fn0 (made_all (fn_good ((pr_ok h).2.2.1 f hf)).2.1 hb).2 h4, this⟩
theorem getD_set {l : List Fn} {i k : Nat} {f f' : Fn} (h : l[i]? = some f) (hp : f'.params = f.params) : ((l.set i f').getD k fnz).params = (l.getD k fnz).params := by
  rw [List.getD_eq_getElem?_getD, List.getD_eq_getElem?_getD, List.getElem?_set]
  by_cases e : i = k
  · subst e; rw [if_pos rfl, h, if_pos (List.getElem?_eq_some_iff.1 h).1]; exact hp
  · rw [if_neg e]
/-- One argument more. -/
theorem arity_more {p : Pr} {fi bi : Nat} {f : Fn} {b : Bk} (h : prErr p = 0) (hf : p.funcs[fi]? = some f) (hb : f.blocks[bi]? = some b) (h4 : b.jump.kind = 4) {o : Opd} (ho : o.kind = 1) :
    prErr (prB p fi (fnB f bi (bkJ b (juArgs b.jump (b.jump.args ++ [o]))))) = 8 := by
  have hc := call_of h (List.mem_of_getElem? hf) (List.mem_of_getElem? hb) h4
  have ev : visJ (juArgs b.jump (b.jump.args ++ [o])) = visJ b.jump := by
    unfold visJ; show (if b.jump.kind = 2 then _ else if b.jump.kind = 4 then _ else _) = _
    rw [if_neg (by omega), if_pos h4, if_neg (by omega), if_pos h4]
    show (b.jump.dest, false) :: visOs true (b.jump.args ++ [o]) = _
    unfold visOs; rw [List.flatMap_append]; simp [visO_const true ho]
  refine arity_bad h hf hb (by rw [ev]) (fun t => by rw [ev]; exact Nat.le_refl _) ?_
  unfold callB
  show (!decide (b.jump.kind = 4) || (decide (b.jump.fn < _) && decide (((b.jump.args ++ [o]).length : Int) = _))) = false
  rw [getD_set (f' := fnB f bi _) hf rfl]; show (_ || (_ && decide (_ = (p.funcs.getD b.jump.fn.toNat fnz).params))) = false; rw [← hc.2.2]; simp [h4]; omega
/-- One argument less. -/
theorem arity_less {p : Pr} {fi bi : Nat} {f : Fn} {b : Bk} (h : prErr p = 0) (hf : p.funcs[fi]? = some f) (hb : f.blocks[bi]? = some b) (h4 : b.jump.kind = 4) {o : Opd} {l : List Opd} (hl : b.jump.args = o :: l) (ho : o.kind ≠ 3) :
    prErr (prB p fi (fnB f bi (bkJ b (juArgs b.jump l)))) = 8 := by
  have hc := call_of h (List.mem_of_getElem? hf) (List.mem_of_getElem? hb) h4
  have e1 : visJ (juArgs b.jump l) = (b.jump.dest, false) :: visOs true l := by
    unfold visJ; show (if b.jump.kind = 2 then _ else if b.jump.kind = 4 then _ else _) = _
    rw [if_neg (by omega), if_pos h4]; rfl
  have e2 : visJ b.jump = (b.jump.dest, false) :: (visO true o ++ visOs true l) := by
    unfold visJ; rw [if_neg (by omega), if_pos h4, hl]; rfl
  have e3 : pasV (visO true o) = [] := by
    unfold visO; split
    · rfl
    · simp [pasV, pass, ho]
  refine arity_bad h hf hb ?_ (fun t => ?_) ?_
  · rw [e1, e2, pas_one, pas_one]
    have : pasV (visO true o ++ visOs true l) = pasV (visO true o) ++ pasV (visOs true l) := by simp [pasV]
    rw [this, e3]; rfl
  · rw [e1, e2]
    have : locV ((b.jump.dest, false) :: (visO true o ++ visOs true l)) = [b.jump.dest.loc] ++ (locV (visO true o) ++ locV (visOs true l)) := by simp [locV]
    rw [this]
    have : locV ((b.jump.dest, false) :: visOs true l) = [b.jump.dest.loc] ++ locV (visOs true l) := by simp [locV]
    rw [this]; simp only [List.count_append]; omega
  · unfold callB
    show (!decide (b.jump.kind = 4) || (decide (b.jump.fn < _) && decide ((l.length : Int) = _))) = false
    rw [getD_set (f' := fnB f bi _) hf rfl]; show (_ || (_ && decide (_ = (p.funcs.getD b.jump.fn.toNat fnz).params))) = false; rw [← hc.2.2, hl]; simp [h4]; omega
/-- A function that there is not. -/
theorem arity_none {p : Pr} {fi bi : Nat} {f : Fn} {b : Bk} (h : prErr p = 0) (hf : p.funcs[fi]? = some f) (hb : f.blocks[bi]? = some b) (h4 : b.jump.kind = 4) :
    prErr (prB p fi (fnB f bi (bkJ b (juFn b.jump (p.funcs.length : Nat))))) = 8 := by
  have ev : visJ (juFn b.jump (p.funcs.length : Nat)) = visJ b.jump := by unfold visJ; rfl
  refine arity_bad h hf hb (by rw [ev]) (fun t => by rw [ev]; exact Nat.le_refl _) ?_
  unfold callB
  show (!decide (b.jump.kind = 4) || (decide ((p.funcs.length : Int) < _) && _)) = false
  simp [h4]
end Go.Proofs.Ythackfblfkpddaa
