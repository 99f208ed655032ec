/- Layer 45, plain: the text of a verdict; reading it. -/
import Derived.Test.YtjllaogechckoaaDoorL45a
import Derived.Test.YtjllaogechckoaaDoorTypes
namespace Go.Proofs.YtjllaogechckoaaDoor
open Go.Lib

structure Ve where
  kind : Int
  err : Int
  fn : Int
  at_ : Int
  loan : Int
  pl : Pl
  write : Bool
  deep : Bool
  out : Int
  steps : Int
  prints : List Int
  result : List Int
deriving DecidableEq
def ve0 : Ve := ⟨0, 0, 0, 0, 0, ⟨0, false, 0⟩, false, false, 0, 0, [], []⟩
abbrev t_form : Bs := [102, 111, 114, 109]
abbrev t_type : Bs := [116, 121, 112, 101]
abbrev t_inputs : Bs := [105, 110, 112, 117, 116, 115]
abbrev t_borrow : Bs := [98, 111, 114, 114, 111, 119]
abbrev t_ran : Bs := [114, 97, 110]
abbrev t_write : Bs := [119, 114, 105, 116, 101]
abbrev t_read : Bs := [114, 101, 97, 100]
abbrev t_deep : Bs := [100, 101, 101, 112]
abbrev t_shallow : Bs := [115, 104, 97, 108, 108, 111, 119]
abbrev t_at : Bs := [97, 116]
abbrev t_loan : Bs := [108, 111, 97, 110]
abbrev t_prints : Bs := [112, 114, 105, 110, 116, 115]
abbrev t_result : Bs := [114, 101, 115, 117, 108, 116]
def words : List Bs := [[102, 105, 110, 105, 115, 104, 101, 100], [102, 117, 101, 108], [108, 105, 109, 105, 116], [97, 98, 111, 114, 116, 101, 100], [118, 105, 111, 108, 97, 116, 105, 111, 110], [102, 114, 101, 101, 100], [117, 110, 115, 101, 116], [115, 116, 117, 99, 107]]
def outW (o : Int) : Option Bs := if 1 ≤ o ∧ o ≤ 8 then words[(o - 1).toNat]? else none
def outOf (s : Bs) : Option Int := if words.idxOf s < 8 then some (words.idxOf s + 1 : Nat) else none
theorem words_ok : ∀ i : Fin 8, outOf (words[i.val]'(by have := i.isLt; simp [words])) = some (i.val + 1 : Nat) := by decide +kernel
theorem outW_of {o : Int} (h : 1 ≤ o ∧ o ≤ 8) : ∃ w, outW o = some w ∧ outOf w = some o ∧ w ∈ words := by
  have hl : (o - 1).toNat < 8 := by omega
  have hl2 : (o - 1).toNat < words.length := by simp [words]; omega
  have e := words_ok ⟨(o - 1).toNat, hl⟩
  refine ⟨words[(o - 1).toNat], ?_, ?_, List.getElem_mem _⟩
  · unfold outW; rw [if_pos h, List.getElem?_eq_getElem hl2]
  · rw [e]; congr 1; simp; omega
theorem outOf_some {s : Bs} {o : Int} (h : outOf s = some o) : (1 ≤ o ∧ o ≤ 8) ∧ outW o = some s := by
  unfold outOf at h
  split at h
  · rename_i hi
    injection h with h
    have hr : 1 ≤ o ∧ o ≤ 8 := by omega
    refine ⟨hr, ?_⟩
    unfold outW
    rw [if_pos hr, show (o - 1).toNat = words.idxOf s by omega]
    have hl : words.idxOf s < words.length := hi
    rw [List.getElem?_eq_getElem hl, List.getElem_idxOf hl]
  · cases h
theorem words_alpha : ∀ w ∈ words, ∀ c ∈ w, 97 ≤ c.toNat ∧ c.toNat ≤ 122 := by decide +kernel
theorem words_no32 {w : Bs} (h : w ∈ words) : ∀ c ∈ w, c ≠ 32 := fun c hc e => by
  have := words_alpha w h c hc; subst e; exact absurd this.1 (by decide)

/-! ### Places -/
def plOk (p : Pl) : Bool := decide (0 ≤ p.loc ∧ p.loc < 16 ∧ 0 ≤ p.field ∧ p.field ≤ 2)
def plText (p : Pl) : Bs := (if p.deref then [42] else []) ++ (120 :: itoa p.loc) ++ (if 0 < p.field then 46 :: itoa p.field else [])
def allPl : List Pl := (List.range 16).flatMap fun (l : Nat) => (List.range 3).flatMap fun (f : Nat) => [⟨l, false, f⟩, ⟨l, true, f⟩]
theorem allPl_ok : ∀ p ∈ allPl, plOk p = true := by decide +kernel
theorem mem_allPl {p : Pl} (h : plOk p = true) : p ∈ allPl := by
  unfold plOk at h
  have h := of_decide_eq_true h
  obtain ⟨l, d, f⟩ := p
  dsimp only at h
  unfold allPl
  refine List.mem_flatMap.2 ⟨l.toNat, List.mem_range.2 (by omega), List.mem_flatMap.2 ⟨f.toNat, List.mem_range.2 (by omega), ?_⟩⟩
  have e1 : ((l.toNat : Nat) : Int) = l := by omega
  have e2 : ((f.toNat : Nat) : Int) = f := by omega
  rw [e1, e2]
  cases d <;> simp
/-- The first valid place that has a text. -/
def plFind (s : Bs) : Option Pl := allPl.find? (fun p => plText p == s)
theorem plFind_text' : ∀ p ∈ allPl, plFind (plText p) = some p := by decide +kernel
theorem plFind_text {p : Pl} (h : plOk p = true) : plFind (plText p) = some p := plFind_text' p (mem_allPl h)
theorem plFind_some {s : Bs} {p : Pl} (h : plFind s = some p) : plOk p = true ∧ plText p = s := by
  unfold plFind at h
  exact ⟨allPl_ok p (List.mem_of_find?_eq_some h), by simpa using List.find?_some h⟩
theorem plText_no32' : ∀ p ∈ allPl, ∀ c ∈ plText p, c ≠ 32 ∧ c ≠ 10 := by decide +kernel
theorem plText_no32 {p : Pl} (h : plOk p = true) : ∀ c ∈ plText p, c ≠ 32 := fun c hc => (plText_no32' p (mem_allPl h) c hc).1
theorem plText_len' : ∀ p ∈ allPl, (plText p).length ≤ 6 := by decide +kernel
theorem plText_len {p : Pl} (h : plOk p = true) : (plText p).length ≤ 6 := plText_len' p (mem_allPl h)

/-! ### Verdicts -/
def Ve.ran (v : Ve) : Bool := v.out != 0 || v.steps != 0 || decide (0 < v.prints.length + v.result.length)
def Ve.found (v : Ve) : Bool := v.fn != 0 || !(v.at_ == 0 && v.loan == 0 && v.pl == ⟨0, false, 0⟩ && v.write == false && v.deep == false)
def veOk (v : Ve) : Bool :=
  if v.kind = 1 ∨ v.kind = 2 then decide (1 ≤ v.err ∧ v.err ≤ 99) && !v.ran && !v.found
  else if v.kind = 3 then decide (v.err = 48) && !v.ran && decide (0 ≤ v.fn ∧ v.fn < 8 ∧ 0 ≤ v.at_ ∧ 0 ≤ v.loan) && plOk v.pl
  else if v.kind = 4 then decide (v.err = 2) && !v.ran && !v.found
  else if v.kind = 5 then decide (v.err = 0) && !v.found && decide (1 ≤ v.out ∧ v.out ≤ 8 ∧ 0 ≤ v.steps ∧ v.steps ≤ 500 ∧ v.prints.length ≤ 200) && (if v.out = 1 then decide (v.result.length = 1 ∨ v.result.length = 2) else decide (v.result.length = 0))
  else false
structure Ve.wf (v : Ve) : Prop where
  at_ : i64 v.at_
  loan : i64 v.loan
  prints : ∀ n ∈ v.prints, i64 n
  result : ∀ n ∈ v.result, i64 n
def listT (l : List Int) : Bs := l.flatMap fun n => 32 :: itoa n
def written (v : Ve) : Bs :=
  if v.kind = 1 then t_form ++ 32 :: itoa v.err
  else if v.kind = 2 then t_type ++ 32 :: itoa v.err
  else if v.kind = 4 then t_inputs
  else if v.kind = 3 then t_borrow ++ 32 :: (102 :: itoa v.fn) ++ 32 :: t_at ++ 32 :: itoa v.at_ ++ 32 :: t_loan ++ 32 :: itoa v.loan ++ 32 :: (if v.write then t_write else t_read) ++ 32 :: (if v.deep then t_deep else t_shallow) ++ 32 :: plText v.pl
  else t_ran ++ 32 :: (outW v.out).getD [] ++ 32 :: itoa v.steps ++ 32 :: t_prints ++ listT v.prints ++ 32 :: t_result ++ listT v.result

/-! ### As the code reads it -/
def numsP (part : Bs) : Option (List Int) := match part with
  | [] => some []
  | c :: r => if c = 32 then (parts r).mapM numP else none
def borrowP (l : List Bs) : Option Ve := match l with
  | [a, b, c, d, e, f, g, h] =>
    if hasPrefix a [102] = true ∧ b = t_at ∧ d = t_loan then
      match numP (a.drop 1), numP c, numP e, plFind h with
      | some n0, some n1, some n2, some x => if (f = t_write ∨ f = t_read) ∧ (g = t_deep ∨ g = t_shallow) then some ⟨3, 48, n0, n1, n2, x, f == t_write, g == t_deep, 0, 0, [], []⟩ else none
      | _, _, _, _ => none
    else none
  | _ => none
def ranP (s : Bs) : Option Ve :=
  if (cut s (32 :: t_prints)).2.2 then
    if (cut (cut s (32 :: t_prints)).2.1 (32 :: t_result)).2.2 then
      if (cut (cut s (32 :: t_prints)).1 [32]).2.2 then
        match numP (cut (cut s (32 :: t_prints)).1 [32]).2.1, outOf (cut (cut s (32 :: t_prints)).1 [32]).1, numsP (cut (cut s (32 :: t_prints)).2.1 (32 :: t_result)).1, numsP (cut (cut s (32 :: t_prints)).2.1 (32 :: t_result)).2.1 with
        | some n, some o, some a, some b => some ⟨5, 0, 0, 0, 0, ⟨0, false, 0⟩, false, false, o, n, a, b⟩
        | _, _, _, _ => none
      else none
    else none
  else none
def readP (s : Bs) : Option Ve :=
  if s = t_inputs then some ⟨4, 2, 0, 0, 0, ⟨0, false, 0⟩, false, false, 0, 0, [], []⟩
  else if (cut s [32]).2.2 = true ∧ ((cut s [32]).1 = t_form ∨ (cut s [32]).1 = t_type) then
    (numP (cut s [32]).2.1).map fun n => ⟨if (cut s [32]).1 = t_type then 2 else 1, n, 0, 0, 0, ⟨0, false, 0⟩, false, false, 0, 0, [], []⟩
  else if (cut s [32]).2.2 = true ∧ (cut s [32]).1 = t_borrow then borrowP (parts (cut s [32]).2.1)
  else if (cut s [32]).2.2 = true ∧ (cut s [32]).1 = t_ran then ranP (cut s [32]).2.1
  else none

/-! ### What was written is read -/
theorem listT_parts : ∀ (n : Int) (l : List Int), parts (itoa n ++ listT l) = itoa n :: l.map itoa
  | n, [] => by simp [listT, parts_last _ (itoa_no32 n)]
  | n, m :: l => by
    rw [show itoa n ++ listT (m :: l) = itoa n ++ 32 :: (itoa m ++ listT l) by simp [listT], parts_word _ _ (itoa_no32 n), listT_parts m l]; rfl
theorem mapM_itoa : ∀ (l : List Int), (∀ n ∈ l, i64 n) → (l.map itoa).mapM numP = some l
  | [], _ => rfl
  | n :: l, h => by
    rw [List.map_cons, List.mapM_cons, numP_itoa (h n (List.mem_cons_self ..)), mapM_itoa l (fun m hm => h m (List.mem_cons_of_mem _ hm))]; rfl
theorem numsP_list {l : List Int} (h : ∀ n ∈ l, i64 n) : numsP (listT l) = some l := by
  cases l with
  | nil => rfl
  | cons n l =>
    rw [show listT (n :: l) = 32 :: (itoa n ++ listT l) by simp [listT]]
    unfold numsP
    simp only [if_true]
    rw [listT_parts]
    exact mapM_itoa (n :: l) h
theorem mapM_back : ∀ (l : List Bs) (ns : List Int), l.mapM numP = some ns → l = ns.map itoa
  | [], ns, h => by simp at h; subst h; rfl
  | a :: l, ns, h => by
    rw [List.mapM_cons] at h
    cases ha : numP a with
    | none => rw [ha] at h; simp at h
    | some n =>
      rw [ha] at h
      cases hl : l.mapM numP with
      | none => rw [hl] at h; simp at h
      | some m =>
        rw [hl] at h
        simp at h
        subst h
        rw [List.map_cons, ← mapM_back l m hl, ← (numP_some ha).1]
theorem join_itoa : ∀ (n : Int) (l : List Int), joinS ((n :: l).map itoa) = itoa n ++ listT l
  | n, [] => by simp [joinS, listT]
  | n, m :: l => by
    have := join_itoa m l
    rw [List.map_cons, joinS_cons _ (by simp), this]; simp [listT]
theorem numsP_back {s : Bs} {l : List Int} (h : numsP s = some l) : s = listT l := by
  unfold numsP at h
  cases s with
  | nil => simp at h; subst h; rfl
  | cons c r =>
    simp only at h
    split at h
    · rename_i hc
      have e := mapM_back _ _ h
      cases l with
      | nil => exact absurd e (parts_ne r)
      | cons n l =>
        have e2 := join_parts r
        rw [e, join_itoa] at e2
        rw [hc, ← e2]; simp [listT]
    · cases h
/-- A list is followed by a word that is no number: it is cut there. -/
theorem cut_list (u : Bs) (c0 : UInt8) (t : Bs) (hc : 58 ≤ c0.toNat) : ∀ (l : List Int), cut (listT l ++ 32 :: ((c0 :: t) ++ u)) (32 :: c0 :: t) = (listT l, u, true)
  | [] => cut_here (c0 :: t) u
  | n :: l => by
    obtain ⟨d, r, hd, hle⟩ := itoa_head n
    have hp : (c0 :: t).isPrefixOf (itoa n ++ (listT l ++ 32 :: ((c0 :: t) ++ u))) = false := by
      rw [hd, List.cons_append, List.isPrefixOf]
      have : (c0 == d) = false := by rw [beq_eq_false_iff_ne]; intro e; subst e; omega
      rw [this]; rfl
    rw [show listT (n :: l) ++ 32 :: ((c0 :: t) ++ u) = 32 :: (itoa n ++ (listT l ++ 32 :: ((c0 :: t) ++ u))) by simp [listT]]
    rw [cut_other hp, cut_word _ _ (itoa_no32 n), cut_list u c0 t hc l]
    simp [listT]
end Go.Proofs.YtjllaogechckoaaDoor
