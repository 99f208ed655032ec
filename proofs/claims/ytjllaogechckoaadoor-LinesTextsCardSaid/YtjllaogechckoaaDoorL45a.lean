/- Layer 45, plain: numbers as text, a text cut at a word, a text split at spaces. -/
import Derived.Lib.ParseIntB
import Derived.Lib.ItoaNum
import Derived.Lib.Split
import Derived.Lib.CutLaws
namespace Go.Proofs.YtjllaogechckoaaDoor
open Go.Lib

abbrev Bs := List UInt8
/-- What digits spell, behind acc. -/
def dval : Nat → Bs → Nat
  | acc, [] => acc
  | acc, c :: r => dval (acc * 10 + (c.toNat - 48)) r
def isDig (c : UInt8) : Prop := 48 ≤ c.toNat ∧ c.toNat ≤ 57
theorem dval_app : ∀ (l r : Bs) (acc : Nat), dval acc (l ++ r) = dval (dval acc l) r
  | [], _, _ => rfl
  | _ :: l, r, _ => dval_app l r _
theorem dval_ge : ∀ (l : Bs) (acc : Nat), acc ≤ dval acc l
  | [], _ => Nat.le_refl _
  | c :: r, acc => Nat.le_trans (by omega) (dval_ge r (acc * 10 + (c.toNat - 48)))
theorem dig_nat {d : Nat} (h : d < 10) : (UInt8.ofNat (48 + d)).toNat = 48 + d := by
  rw [UInt8.toNat_ofNat']; omega
theorem decDigits_dig (u : Nat) : ∀ c ∈ decDigits u, isDig c := by
  induction u using Nat.strongRecOn with
  | _ u ih =>
    rw [decDigits]
    split
    · intro c hc; rw [List.mem_singleton] at hc; subst hc; unfold isDig; rw [dig_nat (by omega)]; omega
    · intro c hc
      rcases List.mem_append.1 hc with h | h
      · exact ih (u / 10) (by omega) c h
      · rw [List.mem_singleton] at h; subst h; unfold isDig; rw [dig_nat (by omega)]; omega
theorem decDigits_val (u : Nat) : dval 0 (decDigits u) = u := by
  induction u using Nat.strongRecOn with
  | _ u ih =>
    rw [decDigits]
    split
    · show 0 * 10 + ((UInt8.ofNat (48 + u)).toNat - 48) = u
      rw [dig_nat (by omega)]; omega
    · rw [dval_app, ih (u / 10) (by omega)]
      show u / 10 * 10 + ((UInt8.ofNat (48 + u % 10)).toNat - 48) = u
      rw [dig_nat (by omega)]; omega
theorem decDigits_ne (u : Nat) : decDigits u ≠ [] := by
  rw [decDigits]; split <;> simp
theorem parseM_dig : ∀ (l : Bs) (acc : Nat), (∀ c ∈ l, isDig c) → dval acc l < 18446744073709551616 → parseUintM (2 ^ 64 - 1) acc l = .ok (dval acc l)
  | [], _, _, _ => rfl
  | c :: r, acc, h, hv => by
    have hc := h c (List.mem_cons_self ..)
    have h1 := dval_ge r (acc * 10 + (c.toNat - 48))
    have h2 : dval acc (c :: r) = dval (acc * 10 + (c.toNat - 48)) r := rfl
    rw [h2] at hv
    rw [parseUintM, if_pos (show 48 ≤ c.toNat ∧ c.toNat ≤ 57 from hc), if_neg (by omega), if_neg (by omega), parseM_dig r _ (fun d hd => h d (List.mem_cons_of_mem _ hd)) hv]
    rfl
theorem parseB_dec {u : Nat} (h : u < 18446744073709551616) : parseUintB 64 (decDigits u) = .ok u := by
  unfold parseUintB
  rw [if_neg (decDigits_ne u), parseM_dig _ _ (decDigits_dig u) (by rw [decDigits_val]; exact h), decDigits_val]
def i64 (n : Int) : Prop := -9223372036854775808 ≤ n ∧ n ≤ 9223372036854775807
theorem itoa_pos {n : Int} (h : 0 ≤ n) : itoa n = decDigits n.toNat := by unfold itoa; rw [if_neg (by omega)]
theorem itoa_minus {n : Int} (h : n < 0) : itoa n = 45 :: decDigits n.natAbs := by unfold itoa; rw [if_pos h]
theorem parse_itoa {n : Int} (h : i64 n) : parseIntB 64 (itoa n) = .ok n := by
  unfold i64 at h
  by_cases hn : n < 0
  · rw [itoa_minus hn]
    unfold parseIntB
    simp only [show ((45 : UInt8).toNat = 43 ∨ (45 : UInt8).toNat = 45) = True from by simp, if_true, parseB_dec (u := n.natAbs) (by omega)]
    rw [if_neg (by simp), if_neg (by simp; omega)]
    simp; omega
  · rw [itoa_pos (by omega)]
    have hd := decDigits_dig n.toNat
    have hb := parseB_dec (u := n.toNat) (by omega)
    cases hl : decDigits n.toNat with
    | nil => exact absurd hl (decDigits_ne _)
    | cons c r =>
      rw [hl] at hd hb
      have hc := hd c (List.mem_cons_self ..)
      unfold isDig at hc
      unfold parseIntB
      simp only [if_neg (show ¬ (c.toNat = 43 ∨ c.toNat = 45) by omega), hb]
      rw [if_neg (by simp; omega), if_neg (by simp; omega)]
      simp [show ¬ c.toNat = 45 by omega]; omega
theorem parse_i64 {l : Bs} {n : Int} (h : parseIntB 64 l = .ok n) : i64 n := by
  unfold parseIntB at h
  cases l with
  | nil => cases h
  | cons c r =>
    simp only at h
    split at h
    · cases h
    · cases h
    · split at h
      · cases h
      · split at h
        · cases h
        · rename_i u _ h1 h2
          injection h with h
          unfold i64
          by_cases hc : c.toNat = 45
          · simp [hc] at h h2; omega
          · simp [hc] at h h1; omega
/-- A number that is written as its own text. -/
def numP (s : Bs) : Option Int := match parseIntB 64 s with
  | .ok n => if itoa n = s then some n else none
  | _ => none
theorem numP_itoa {n : Int} (h : i64 n) : numP (itoa n) = some n := by
  unfold numP; rw [parse_itoa h]; simp
theorem numP_some {s : Bs} {n : Int} (h : numP s = some n) : s = itoa n ∧ i64 n := by
  unfold numP at h
  split at h
  · rename_i m hm
    split at h
    · rename_i he; injection h with h; subst h; exact ⟨he.symm, parse_i64 hm⟩
    · cases h
  · cases h
theorem itoa_inj {n m : Int} (hn : i64 n) (hm : i64 m) (h : itoa n = itoa m) : n = m := by
  have h1 := numP_itoa hn; rw [h, numP_itoa hm] at h1; injection h1 with h1; exact h1.symm
/-- Each byte of a number is a digit or '-'. -/
theorem itoa_bytes (n : Int) : ∀ c ∈ itoa n, c = 45 ∨ isDig c := by
  intro c hc
  by_cases hn : n < 0
  · rw [itoa_minus hn] at hc
    rcases List.mem_cons.1 hc with h | h
    · exact Or.inl h
    · exact Or.inr (decDigits_dig _ c h)
  · rw [itoa_pos (by omega)] at hc; exact Or.inr (decDigits_dig _ c hc)
theorem itoa_ne (n : Int) : itoa n ≠ [] := by
  unfold itoa; split
  · simp
  · exact decDigits_ne _
theorem itoa_no32 (n : Int) : ∀ c ∈ itoa n, c ≠ 32 := by
  intro c hc; rcases itoa_bytes n c hc with h | h
  · subst h; decide
  · intro e; subst e; exact absurd h.1 (by decide)
/-- A number's first byte is no letter. -/
theorem itoa_head (n : Int) : ∃ c r, itoa n = c :: r ∧ c.toNat ≤ 57 := by
  cases h : itoa n with
  | nil => exact absurd h (itoa_ne n)
  | cons c r =>
    refine ⟨c, r, rfl, ?_⟩
    rcases itoa_bytes n c (by rw [h]; exact List.mem_cons_self ..) with e | e
    · subst e; decide
    · exact e.2

/-! ### A text cut at a word -/
theorem cut_cons {c : UInt8} {l sep : Bs} (h : sep.isPrefixOf (c :: l) = false) : cut (c :: l) sep = (c :: (cut l sep).1, (cut l sep).2.1, (cut l sep).2.2) := by
  have hg := index_ge l sep
  unfold cut
  rw [index, h]
  simp only [Bool.false_eq_true, if_false]
  by_cases hi : index l sep = -1
  · simp [hi]
  · have e : (index l sep == -1) = false := by rw [beq_eq_false_iff_ne]; exact hi
    rw [e]; simp only [Bool.false_eq_true, if_false]
    rw [if_pos (by omega), if_pos (by omega)]
    have e2 : (index l sep + 1).toNat = (index l sep).toNat + 1 := by omega
    rw [e2, List.take_succ_cons, show (index l sep).toNat + 1 + sep.length = ((index l sep).toNat + sep.length) + 1 by omega, List.drop_succ_cons]
theorem cut_at {l sep : Bs} (h : sep.isPrefixOf l = true) : cut l sep = ([], l.drop sep.length, true) := by
  have hi : index l sep = 0 := by
    cases l with
    | nil => cases sep with
      | nil => rfl
      | cons a t => simp at h
    | cons c l => rw [index, if_pos h]
  unfold cut
  rw [hi, if_pos (by decide)]
  simp
/-- Ahead of the cut: bytes that are no space. -/
theorem cut_word {t : Bs} : ∀ (w r : Bs), (∀ c ∈ w, c ≠ 32) → cut (w ++ r) (32 :: t) = (w ++ (cut r (32 :: t)).1, (cut r (32 :: t)).2.1, (cut r (32 :: t)).2.2)
  | [], _, _ => rfl
  | c :: w, r, h => by
    have hc := h c (List.mem_cons_self ..)
    rw [List.cons_append, cut_cons (by simp [List.isPrefixOf, hc.symm]), cut_word w r (fun d hd => h d (List.mem_cons_of_mem _ hd))]
    rfl
theorem cut_here (t r : Bs) : cut (32 :: (t ++ r)) (32 :: t) = ([], r, true) := by
  rw [cut_at (by simp [List.isPrefixOf])]
  simp
theorem cut_other {u t : Bs} (h : t.isPrefixOf u = false) : cut (32 :: u) (32 :: t) = (32 :: (cut u (32 :: t)).1, (cut u (32 :: t)).2.1, (cut u (32 :: t)).2.2) :=
  cut_cons (by simp [List.isPrefixOf, h])
theorem cut_end (w t : Bs) (h : ∀ c ∈ w, c ≠ 32) : cut w (32 :: t) = (w, [], false) := by
  have := cut_word (t := t) w [] h
  rw [List.append_nil] at this
  rw [this]
  have e : cut [] (32 :: t) = ([], [], false) := by unfold cut index; simp
  rw [e]; simp
/-- What is cut, put together. -/
theorem cut_back {s sep a b : Bs} (h : cut s sep = (a, b, true)) : s = a ++ sep ++ b := by
  unfold cut at h
  split at h
  · rename_i hi
    rcases index_spec s sep with ⟨h1, _⟩ | ⟨i, h1, h2, h3, _⟩
    · omega
    · rw [h1] at h
      simp only [Int.toNat_natCast, Prod.mk.injEq, and_true] at h
      obtain ⟨rfl, rfl⟩ := h
      unfold occAt at h3
      obtain ⟨r, hr⟩ := List.isPrefixOf_iff_prefix.1 h3
      have e : s.drop (i + sep.length) = r := by rw [← List.drop_drop, ← hr]; simp
      rw [e, List.append_assoc, hr, List.take_append_drop]
  · simp at h

/-! ### A text split at spaces -/
def parts : Bs → List Bs
  | [] => [[]]
  | c :: l => if c = 32 then [] :: parts l else match parts l with
    | [] => [[c]]
    | h :: t => (c :: h) :: t
theorem parts_ne (l : Bs) : parts l ≠ [] := by
  cases l with
  | nil => simp [parts]
  | cons c l => unfold parts; split; · simp
                split <;> simp
theorem parts_word : ∀ (w r : Bs), (∀ c ∈ w, c ≠ 32) → parts (w ++ 32 :: r) = w :: parts r
  | [], r, _ => by simp [parts]
  | c :: w, r, h => by
    rw [List.cons_append, parts, if_neg (h c (List.mem_cons_self ..)), parts_word w r (fun d hd => h d (List.mem_cons_of_mem _ hd))]
theorem parts_last : ∀ (w : Bs), (∀ c ∈ w, c ≠ 32) → parts w = [w]
  | [], _ => rfl
  | c :: w, h => by
    rw [parts, if_neg (h c (List.mem_cons_self ..)), parts_last w (fun d hd => h d (List.mem_cons_of_mem _ hd))]
/-- The parts, put together with spaces. -/
def joinS : List Bs → Bs
  | [] => []
  | [a] => a
  | a :: l => a ++ 32 :: joinS l
theorem joinS_cons (a : Bs) {l : List Bs} (h : l ≠ []) : joinS (a :: l) = a ++ 32 :: joinS l := by
  cases l with
  | nil => exact absurd rfl h
  | cons b l => rfl
theorem join_parts : ∀ (s : Bs), joinS (parts s) = s
  | [] => rfl
  | c :: l => by
    have ih := join_parts l
    rw [parts]
    split
    · rename_i e; rw [joinS_cons _ (parts_ne l), ih, e]; rfl
    · cases hp : parts l with
      | nil => exact absurd hp (parts_ne l)
      | cons a t =>
        rw [hp] at ih
        cases t with
        | nil => simp only [joinS] at ih ⊢; rw [ih]
        | cons b t => rw [joinS_cons _ (by simp)] at ih ⊢; rw [List.cons_append, ih]
theorem parts_no32 : ∀ (s : Bs), ∀ p ∈ parts s, ∀ c ∈ p, c ≠ 32
  | [], p, hp, c, hc => by rw [parts, List.mem_singleton] at hp; subst hp; cases hc
  | d :: l, p, hp, c, hc => by
    have ih := parts_no32 l
    rw [parts] at hp
    split at hp
    · rcases List.mem_cons.1 hp with h | h
      · subst h; cases hc
      · exact ih p h c hc
    · rename_i hd
      cases hq : parts l with
      | nil => exact absurd hq (parts_ne l)
      | cons a t =>
        rw [hq] at hp ih
        rcases List.mem_cons.1 hp with h | h
        · subst h
          rcases List.mem_cons.1 hc with h | h
          · subst h; exact hd
          · exact ih a (List.mem_cons_self ..) c h
        · exact ih p (List.mem_cons_of_mem _ h) c hc
theorem joinS_parts : ∀ (l : List Bs), l ≠ [] → (∀ p ∈ l, ∀ c ∈ p, c ≠ 32) → parts (joinS l) = l
  | [], h, _ => absurd rfl h
  | [a], _, h => parts_last a (h a (List.mem_cons_self ..))
  | a :: b :: l, _, h => by
    rw [joinS_cons _ (by simp), parts_word _ _ (h a (List.mem_cons_self ..)), joinS_parts (b :: l) (by simp) (fun p hp => h p (List.mem_cons_of_mem _ hp))]
theorem index_word : ∀ (w r : Bs), (∀ c ∈ w, c ≠ 32) → index (w ++ 32 :: r) [32] = w.length
  | [], r, _ => by simp [index, List.isPrefixOf]
  | c :: w, r, h => by
    have hc := h c (List.mem_cons_self ..)
    rw [List.cons_append, index, if_neg (by simp [List.isPrefixOf, hc.symm]), index_word w r (fun d hd => h d (List.mem_cons_of_mem _ hd))]
    rw [if_neg (by simp)]; simp
theorem index_no : ∀ (w : Bs), (∀ c ∈ w, c ≠ 32) → index w [32] = -1
  | [], _ => rfl
  | c :: w, h => by
    have hc := h c (List.mem_cons_self ..)
    rw [index, if_neg (by simp [List.isPrefixOf, hc.symm]), index_no w (fun d hd => h d (List.mem_cons_of_mem _ hd))]; rfl
theorem word_or : ∀ (s : Bs), (∀ c ∈ s, c ≠ 32) ∨ ∃ w r, s = w ++ 32 :: r ∧ ∀ c ∈ w, c ≠ 32
  | [] => Or.inl (fun c hc => by cases hc)
  | c :: s => by
    by_cases hc : c = 32
    · exact Or.inr ⟨[], s, by rw [hc]; rfl, fun c hc => by cases hc⟩
    · rcases word_or s with h | ⟨w, r, rfl, h⟩
      · exact Or.inl (fun d hd => by rcases List.mem_cons.1 hd with e | e; · rw [e]; exact hc
                                     exact h d e)
      · exact Or.inr ⟨c :: w, r, rfl, fun d hd => by
          rcases List.mem_cons.1 hd with e | e
          · rw [e]; exact hc
          · exact h d e⟩
theorem splitK_parts : ∀ (n : Nat) (s : Bs), s.length ≤ n → splitK [32] 0 (count s [32]) s = parts s
  | 0, s, hn => by
    obtain rfl : s = [] := List.eq_nil_of_length_eq_zero (by omega)
    rw [count_miss (index_no [] (fun c hc => by cases hc))]; rfl
  | n + 1, s, hn => by
    rcases word_or s with h | ⟨w, r, rfl, h⟩
    · rw [count_miss (index_no s h), parts_last s h]; rfl
    · have hi := index_word w r h
      have hd : (w ++ 32 :: r).drop (w.length + 1) = r := by
        rw [show w ++ 32 :: r = (w ++ [32]) ++ r by simp, List.drop_left' (by simp)]
      rw [count_hit (by simp) hi, Nat.add_comm 1, splitK, hi, if_neg (by simp)]
      simp only [Int.toNat_natCast, List.length_singleton, Nat.add_zero]
      rw [hd, splitK_parts n r (by simp at hn; omega), parts_word w r h]
      simp
theorem split_parts (s : Bs) : split s [32] = parts s := splitK_parts _ s (Nat.le_refl _)
theorem count_parts (s : Bs) : count s [32] + 1 = (parts s).length := by
  have h : ∀ (n : Nat) (s : Bs), s.length ≤ n → count s [32] + 1 = (parts s).length := by
    intro n
    induction n with
    | zero => intro s hn; obtain rfl : s = [] := List.eq_nil_of_length_eq_zero (by omega); rfl
    | succ n ih =>
      intro s hn
      rcases word_or s with h | ⟨w, r, rfl, h⟩
      · rw [count_miss (index_no s h), parts_last s h]; rfl
      · have hd : (w ++ 32 :: r).drop (w.length + 1) = r := by
          rw [show w ++ 32 :: r = (w ++ [32]) ++ r by simp, List.drop_left' (by simp)]
        rw [count_hit (by simp) (index_word w r h), parts_word w r h, List.length_singleton, hd, List.length_cons, ← ih r (by simp at hn; omega)]; omega
  exact h _ s (Nat.le_refl _)
end Go.Proofs.YtjllaogechckoaaDoor
