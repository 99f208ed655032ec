/- Layer 45, plain: what was written is read, what is read is what was written; the reference's guess. -/
import Derived.Test.YtjllaogechckoaaDoorL45b
import Derived.RowKit
import Derived.Lib.ItoaLen
namespace Go.Proofs.YtjllaogechckoaaDoor
open Go.Lib Go.RowKit

theorem veOk12 {v : Ve} (h : veOk v = true) (hk : v.kind = 1 ∨ v.kind = 2) : v = ⟨v.kind, v.err, 0, 0, 0, ⟨0, false, 0⟩, false, false, 0, 0, [], []⟩ ∧ 1 ≤ v.err ∧ v.err ≤ 99 := by
  unfold veOk at h
  rw [if_pos hk] at h
  obtain ⟨k, e, fn, at_, loan, ⟨l, d, f⟩, w, dp, o, s, p, r⟩ := v
  simp only [Ve.ran, Ve.found, Bool.and_eq_true, decide_eq_true_eq, Bool.not_eq_true', Bool.or_eq_false_iff, bne_eq_false_iff_eq, decide_eq_false_iff_not, Bool.not_eq_false', beq_iff_eq, Pl.mk.injEq] at h
  obtain ⟨⟨h1, ⟨h2, h3⟩, h4⟩, h5, ⟨⟨⟨h6, h7⟩, h8, h9, h10⟩, h11⟩, h12⟩ := h
  have hp : p = [] := List.eq_nil_of_length_eq_zero (by omega)
  have hr : r = [] := List.eq_nil_of_length_eq_zero (by omega)
  subst h2 h3 h5 h6 h7 h8 h9 h10 h11 h12 hp hr
  exact ⟨rfl, h1⟩
theorem veOk1 {v : Ve} (h : veOk v = true) (hk : v.kind = 1) : v = ⟨1, v.err, 0, 0, 0, ⟨0, false, 0⟩, false, false, 0, 0, [], []⟩ ∧ 1 ≤ v.err ∧ v.err ≤ 99 := by
  have h := veOk12 h (Or.inl hk); rw [hk] at h; exact h
theorem veOk2 {v : Ve} (h : veOk v = true) (hk : v.kind = 2) : v = ⟨2, v.err, 0, 0, 0, ⟨0, false, 0⟩, false, false, 0, 0, [], []⟩ ∧ 1 ≤ v.err ∧ v.err ≤ 99 := by
  have h := veOk12 h (Or.inr hk); rw [hk] at h; exact h
theorem written_1 (e : Int) : written ⟨1, e, 0, 0, 0, ⟨0, false, 0⟩, false, false, 0, 0, [], []⟩ = t_form ++ 32 :: itoa e := if_pos rfl
theorem written_2 (e : Int) : written ⟨2, e, 0, 0, 0, ⟨0, false, 0⟩, false, false, 0, 0, [], []⟩ = t_type ++ 32 :: itoa e := (if_neg (by dsimp only; decide)).trans (if_pos rfl)
def partsB (fn at_ loan : Int) (pl : Pl) (w d : Bool) : List Bs := [102 :: itoa fn, t_at, itoa at_, t_loan, itoa loan, (if w = true then t_write else t_read), (if d = true then t_deep else t_shallow), plText pl]
theorem written_3 (fn at_ loan : Int) (pl : Pl) (w d : Bool) : written ⟨3, 48, fn, at_, loan, pl, w, d, 0, 0, [], []⟩ = t_borrow ++ 32 :: joinS (partsB fn at_ loan pl w d) := by
  unfold written
  rw [if_neg (by dsimp only; decide), if_neg (by dsimp only; decide), if_neg (by dsimp only; decide), if_pos rfl]
  simp only [partsB, joinS, List.append_assoc, List.cons_append]
theorem written_5 {o : Int} {w : Bs} (ho : outW o = some w) (st : Int) (p r : List Int) : written ⟨5, 0, 0, 0, 0, ⟨0, false, 0⟩, false, false, o, st, p, r⟩ = t_ran ++ 32 :: ((w ++ 32 :: itoa st) ++ 32 :: (t_prints ++ (listT p ++ 32 :: (t_result ++ listT r)))) := by
  unfold written
  rw [if_neg (by dsimp only; decide), if_neg (by dsimp only; decide), if_neg (by dsimp only; decide), if_neg (by dsimp only; decide)]
  dsimp only
  rw [ho]
  simp only [Option.getD, List.append_assoc, List.cons_append]
theorem partsB_no32 {fn at_ loan : Int} {pl : Pl} {w d : Bool} (h5 : plOk pl = true) : ∀ p ∈ partsB fn at_ loan pl w d, p.all (· != 32) = true := by
  intro p hp
  simp only [partsB, List.mem_cons, List.not_mem_nil, or_false] at hp
  have hi : ∀ n : Int, (itoa n).all (· != 32) = true := fun n => List.all_eq_true.2 (fun c hc => by simpa using itoa_no32 n c hc)
  rcases hp with rfl | rfl | rfl | rfl | rfl | rfl | rfl | rfl
  · rw [List.all_cons, hi]; decide
  · decide
  · exact hi _
  · decide
  · exact hi _
  · cases w <;> decide
  · cases d <;> decide
  · exact List.all_eq_true.2 (fun c hc => by simpa using plText_no32 h5 c hc)
theorem veOk3 {v : Ve} (h : veOk v = true) (hk : v.kind = 3) : v = ⟨3, 48, v.fn, v.at_, v.loan, v.pl, v.write, v.deep, 0, 0, [], []⟩ ∧ 0 ≤ v.fn ∧ v.fn < 8 ∧ 0 ≤ v.at_ ∧ 0 ≤ v.loan ∧ plOk v.pl = true := by
  unfold veOk at h
  rw [if_neg (by omega), if_pos hk] at h
  obtain ⟨k, e, fn, at_, loan, pl, w, dp, o, s, p, r⟩ := v
  simp only [Ve.ran, Bool.and_eq_true, decide_eq_true_eq, Bool.not_eq_true', Bool.or_eq_false_iff, bne_eq_false_iff_eq, decide_eq_false_iff_not] at h hk
  obtain ⟨⟨⟨h1, ⟨h2, h3⟩, h4⟩, h5⟩, h6⟩ := h
  have hp : p = [] := List.eq_nil_of_length_eq_zero (by omega)
  have hr : r = [] := List.eq_nil_of_length_eq_zero (by omega)
  subst h1 h2 h3 hp hr hk
  exact ⟨rfl, h5.1, h5.2.1, h5.2.2.1, h5.2.2.2, h6⟩
theorem veOk4 {v : Ve} (h : veOk v = true) (hk : v.kind = 4) : v = ⟨4, 2, 0, 0, 0, ⟨0, false, 0⟩, false, false, 0, 0, [], []⟩ := by
  unfold veOk at h
  rw [if_neg (by omega), if_neg (by omega), if_pos hk] at h
  obtain ⟨k, e, fn, at_, loan, ⟨l, d, f⟩, w, dp, o, s, p, r⟩ := v
  simp only [Ve.ran, Ve.found, Bool.and_eq_true, decide_eq_true_eq, Bool.not_eq_true', Bool.or_eq_false_iff, bne_eq_false_iff_eq, decide_eq_false_iff_not, Bool.not_eq_false', beq_iff_eq, Pl.mk.injEq] at h hk
  obtain ⟨⟨h1, ⟨h2, h3⟩, h4⟩, h5, ⟨⟨⟨h6, h7⟩, h8, h9, h10⟩, h11⟩, h12⟩ := h
  have hp : p = [] := List.eq_nil_of_length_eq_zero (by omega)
  have hr : r = [] := List.eq_nil_of_length_eq_zero (by omega)
  subst h1 h2 h3 h5 h6 h7 h8 h9 h10 h11 h12 hp hr hk
  rfl
theorem veOk5 {v : Ve} (h : veOk v = true) (hk : v.kind = 5) : v = ⟨5, 0, 0, 0, 0, ⟨0, false, 0⟩, false, false, v.out, v.steps, v.prints, v.result⟩ ∧ (1 ≤ v.out ∧ v.out ≤ 8) ∧ 0 ≤ v.steps ∧ v.steps ≤ 500 ∧ v.prints.length ≤ 200 ∧ v.result.length ≤ 2 := by
  unfold veOk at h
  rw [if_neg (by omega), if_neg (by omega), if_neg (by omega), if_pos hk] at h
  obtain ⟨k, e, fn, at_, loan, ⟨l, d, f⟩, w, dp, o, s, p, r⟩ := v
  simp only [Ve.found, Bool.and_eq_true, decide_eq_true_eq, Bool.not_eq_true', Bool.or_eq_false_iff, bne_eq_false_iff_eq, Bool.not_eq_false', beq_iff_eq, Pl.mk.injEq] at h hk
  obtain ⟨⟨⟨h1, h5, ⟨⟨⟨h6, h7⟩, h8, h9, h10⟩, h11⟩, h12⟩, h13⟩, h14⟩ := h
  subst h1 h5 h6 h7 h8 h9 h10 h11 h12 hk
  refine ⟨rfl, ⟨h13.1, h13.2.1⟩, h13.2.2.1, h13.2.2.2.1, h13.2.2.2.2, ?_⟩
  dsimp only
  split at h14
  · have := of_decide_eq_true h14; omega
  · have := of_decide_eq_true h14; omega
theorem veOk_kind {v : Ve} (h : veOk v = true) : v.kind = 1 ∨ v.kind = 2 ∨ v.kind = 3 ∨ v.kind = 4 ∨ v.kind = 5 := by
  unfold veOk at h
  split at h; · omega
  split at h; · omega
  split at h; · omega
  split at h; · omega
  cases h

theorem no32 {l : Bs} (h : l.all (· != 32) = true) : ∀ c ∈ l, c ≠ 32 := fun c hc => by simpa using List.all_eq_true.1 h c hc
theorem cut_sp {w : Bs} (r : Bs) (h : ∀ c ∈ w, c ≠ 32) : cut (w ++ 32 :: r) [32] = (w, r, true) := by
  rw [cut_word w (32 :: r) h, show cut (32 :: r) [32] = ([], r, true) from cut_here [] r]; simp
/-- What was written is read. -/
theorem readP_written {v : Ve} (h : veOk v = true) (hw : v.wf) : readP (written v) = some v := by
  rcases veOk_kind h with hk | hk | hk | hk | hk
  · obtain ⟨e, h1, h2⟩ := veOk1 h hk
    rw [e, written_1]
    unfold readP
    rw [cut_sp (itoa v.err) (no32 (l := t_form) (by decide)), if_neg (by simp), if_pos ⟨rfl, Or.inl rfl⟩]
    dsimp only
    rw [numP_itoa ⟨by omega, by omega⟩, if_neg (by decide)]; rfl
  · obtain ⟨e, h1, h2⟩ := veOk2 h hk
    rw [e, written_2]
    unfold readP
    rw [cut_sp (itoa v.err) (no32 (l := t_type) (by decide)), if_neg (by simp), if_pos ⟨rfl, Or.inr rfl⟩]
    dsimp only
    rw [numP_itoa ⟨by omega, by omega⟩, if_pos rfl]; rfl
  · obtain ⟨e, h1, h2, h3, h4, h5⟩ := veOk3 h hk
    rw [e, written_3]
    unfold readP
    rw [cut_sp _ (no32 (l := t_borrow) (by decide)), if_neg (by simp), if_neg (by intro h; rcases h.2 with h | h; exact (show t_borrow ≠ t_form by decide) h; exact (show t_borrow ≠ t_type by decide) h), if_pos ⟨rfl, rfl⟩]
    dsimp only
    rw [joinS_parts _ (by simp [partsB]) (fun p hp => no32 (partsB_no32 h5 p hp))]
    unfold borrowP partsB
    dsimp only
    rw [if_pos ⟨by simp [hasPrefix, List.isPrefixOf], rfl, rfl⟩]
    simp only [List.drop_succ_cons, List.drop_zero]
    rw [numP_itoa ⟨by omega, by omega⟩, numP_itoa hw.at_, numP_itoa hw.loan, plFind_text h5]
    dsimp only
    cases v.write <;> cases v.deep <;> rfl
  · rw [veOk4 h hk]; decide +kernel
  · obtain ⟨e, ho, h1, h2, h3, h4⟩ := veOk5 h hk
    obtain ⟨w, hw1, hw2, hw3⟩ := outW_of ho
    rw [e, written_5 hw1]
    unfold readP
    rw [cut_sp _ (no32 (l := t_ran) (by decide)), if_neg (by simp), if_neg (by intro h; rcases h.2 with h | h; exact (show t_ran ≠ t_form by decide) h; exact (show t_ran ≠ t_type by decide) h), if_neg (by intro h; exact (show t_ran ≠ t_borrow by decide) h.2), if_pos ⟨rfl, rfl⟩]
    dsimp only
    have hc1 : cut ((w ++ 32 :: itoa v.steps) ++ 32 :: (t_prints ++ (listT v.prints ++ 32 :: (t_result ++ listT v.result)))) (32 :: t_prints) = (w ++ 32 :: itoa v.steps, listT v.prints ++ 32 :: (t_result ++ listT v.result), true) := by
      obtain ⟨d, r, hd, hle⟩ := itoa_head v.steps
      have hp : t_prints.isPrefixOf (itoa v.steps ++ 32 :: (t_prints ++ (listT v.prints ++ 32 :: (t_result ++ listT v.result)))) = false := by
        rw [hd, List.cons_append, List.isPrefixOf]
        have : ((112 : UInt8) == d) = false := by rw [beq_eq_false_iff_ne]; intro e; subst e; exact absurd hle (by decide)
        rw [this]; rfl
      rw [List.append_assoc, cut_word w _ (words_no32 hw3), List.cons_append, cut_other hp, cut_word _ _ (itoa_no32 v.steps), cut_here t_prints]
      simp
    have hc2 : cut (listT v.prints ++ 32 :: (t_result ++ listT v.result)) (32 :: t_result) = (listT v.prints, listT v.result, true) := cut_list (listT v.result) 114 [101, 115, 117, 108, 116] (by decide) v.prints
    have hc3 := cut_sp (itoa v.steps) (words_no32 hw3)
    unfold ranP
    rw [hc1]
    dsimp only
    rw [hc2, hc3]
    dsimp only
    rw [if_pos rfl, if_pos rfl, if_pos rfl, numP_itoa ⟨by omega, by omega⟩, hw2, numsP_list hw.prints, numsP_list hw.result]
/-- What is read is what was written. -/
theorem written_readP {s : Bs} {v : Ve} (h : readP s = some v) : written v = s := by
  unfold readP at h
  split at h
  · rename_i e; injection h with h; subst h; rw [e]; decide +kernel
  split at h
  · rename_i e
    obtain ⟨e1, e2⟩ := e
    cases hn : numP (cut s [32]).2.1 with
    | none => rw [hn] at h; cases h
    | some n =>
      rw [hn] at h
      injection h with h; subst h
      have hb := cut_back (s := s) (sep := [32]) (a := (cut s [32]).1) (b := (cut s [32]).2.1) (by rw [← e1])
      have hnn := (numP_some hn).1
      rw [hnn] at hb
      rcases e2 with e2 | e2
      · rw [e2] at hb ⊢
        show written ⟨if t_form = t_type then 2 else 1, n, _, _, _, _, _, _, _, _, _, _⟩ = s
        rw [if_neg (show t_form ≠ t_type by decide), written_1, hb]; simp
      · rw [e2] at hb ⊢
        show written ⟨if t_type = t_type then 2 else 1, n, _, _, _, _, _, _, _, _, _, _⟩ = s
        rw [if_pos rfl, written_2, hb]; simp
  split at h
  · rename_i e
    obtain ⟨e1, e2⟩ := e
    have hb := cut_back (s := s) (sep := [32]) (a := (cut s [32]).1) (b := (cut s [32]).2.1) (by rw [← e1])
    rw [e2, ← join_parts (cut s [32]).2.1] at hb
    unfold borrowP at h
    split at h
    · rename_i l a b c d e f g i hp
      rw [hp] at hb
      split at h
      · rename_i hh
        obtain ⟨ha, rfl, rfl⟩ := hh
        split at h
        · rename_i n0 n1 n2 x q0 q1 q2 q3
          split at h
          · rename_i hfg
            injection h with h; subst h
            have k0 := (numP_some q0).1
            have k1 := (numP_some q1).1
            have k2 := (numP_some q2).1
            have k3 := (plFind_some q3).2
            obtain ⟨r, hr⟩ := List.isPrefixOf_iff_prefix.1 (show ([102] : Bs).isPrefixOf a = true from ha)
            rw [← hr] at k0
            simp only [List.cons_append, List.nil_append, List.drop_succ_cons, List.drop_zero] at k0
            rw [hb, ← hr, k0, k1, k2, ← k3]
            obtain ⟨hf, hg⟩ := hfg
            rcases hf with rfl | rfl <;> rcases hg with rfl | rfl <;> simp [written, joinS]
          · cases h
        · cases h
      · cases h
    · cases h
  split at h
  · rename_i e
    obtain ⟨e1, e2⟩ := e
    have hb := cut_back (s := s) (sep := [32]) (a := (cut s [32]).1) (b := (cut s [32]).2.1) (by rw [← e1])
    rw [e2] at hb
    generalize (cut s [32]).2.1 = u at h hb
    unfold ranP at h
    split at h
    · rename_i c1
      have b1 := cut_back (s := u) (sep := 32 :: t_prints) (a := (cut u (32 :: t_prints)).1) (b := (cut u (32 :: t_prints)).2.1) (by rw [← c1])
      generalize (cut u (32 :: t_prints)).1 = hd at h b1
      generalize (cut u (32 :: t_prints)).2.1 = rs at h b1
      split at h
      · rename_i c2
        have b2 := cut_back (s := rs) (sep := 32 :: t_result) (a := (cut rs (32 :: t_result)).1) (b := (cut rs (32 :: t_result)).2.1) (by rw [← c2])
        split at h
        · rename_i c3
          have b3 := cut_back (s := hd) (sep := [32]) (a := (cut hd [32]).1) (b := (cut hd [32]).2.1) (by rw [← c3])
          split at h
          · rename_i n o a b q1 q2 q3 q4
            injection h with h; subst h
            have k1 := (numP_some q1).1
            have k2 := (outOf_some q2).2
            have k3 := numsP_back q3
            have k4 := numsP_back q4
            rw [k1] at b3
            rw [k3, k4] at b2
            rw [hb, b1, b3, b2]
            simp [written, k2]
          · cases h
        · cases h
      · cases h
    · cases h
  · cases h

/-! ### The reference's guess -/
def refStep (n : Int) (c : UInt8) : Int := wrap64 (10 * n - (IntKind.u8.wrap ((c.toNat : Int) - 48)))
def refFold : Int → Bs → Int
  | n, [] => n
  | n, c :: r => refFold (refStep n c) r
def refNum (s : Bs) : Int := if s.head? = some 45 then refFold 0 ((s.take 21).drop 1) else wrap64 (-(refFold 0 (s.take 21)))
theorem refFold_dig : ∀ (l : Bs) (acc : Nat), (∀ c ∈ l, isDig c) → dval acc l ≤ 9223372036854775808 → refFold (-(acc : Int)) l = -(dval acc l : Int)
  | [], _, _, _ => rfl
  | c :: r, acc, h, hv => by
    have hc : 48 ≤ c.toNat ∧ c.toNat ≤ 57 := h c (List.mem_cons_self ..)
    have h1 := dval_ge r (acc * 10 + (c.toNat - 48))
    have h2 : dval acc (c :: r) = dval (acc * 10 + (c.toNat - 48)) r := rfl
    rw [h2] at hv
    have e : refStep (-(acc : Int)) c = -((acc * 10 + (c.toNat - 48) : Nat) : Int) := by
      unfold refStep; simp only [IntKind.wrap_u8, wrap64]; omega
    rw [refFold, e, refFold_dig r _ (fun d hd => h d (List.mem_cons_of_mem _ hd)) hv, h2]
theorem itoa_len {n : Int} (h : i64 n) : (itoa n).length ≤ 21 := itoa_length_le n h.1 h.2
theorem refNum_itoa {n : Int} (h : i64 n) : refNum (itoa n) = n := by
  have hl := itoa_len h
  unfold refNum
  rw [List.take_of_length_le hl]
  unfold i64 at h
  by_cases hn : n < 0
  · rw [itoa_minus hn, List.head?_cons, if_pos rfl, List.drop_succ_cons, List.drop_zero]
    have := refFold_dig (decDigits n.natAbs) 0 (decDigits_dig _) (by rw [decDigits_val]; omega)
    rw [decDigits_val] at this
    rw [show (-((0 : Nat) : Int)) = 0 from rfl] at this
    rw [this]; omega
  · rw [itoa_pos (by omega)]
    have hne : (decDigits n.toNat).head? ≠ some 45 := by
      cases hd : decDigits n.toNat with
      | nil => exact absurd hd (decDigits_ne _)
      | cons c r =>
        have hc : 48 ≤ c.toNat ∧ c.toNat ≤ 57 := decDigits_dig n.toNat c (by rw [hd]; exact List.mem_cons_self ..)
        intro e; simp at e; subst e; exact absurd hc.1 (by decide)
    rw [if_neg hne]
    have := refFold_dig (decDigits n.toNat) 0 (decDigits_dig _) (by rw [decDigits_val]; omega)
    rw [decDigits_val] at this
    rw [show (-((0 : Nat) : Int)) = 0 from rfl] at this
    rw [this]; unfold wrap64; omega
/-- The lists behind the fourth word: prints, and behind the word 'result' the result. -/
def sorts : Bool → List Int → List Int → List Bs → List Int × List Int
  | _, p, r, [] => (p, r)
  | b, p, r, a :: l => if a = t_result then sorts true p r l else if b then sorts b p (r ++ [refNum a]) l else sorts b (p ++ [refNum a]) r l
def nth (l : List Bs) (i : Nat) : Bs := (l[i]?).getD []
theorem nth_0 (a : Bs) (l : List Bs) : nth (a :: l) 0 = a := rfl
def guessP (s : Bs) : Ve :=
  if nth (parts s) 0 = t_inputs then ⟨4, 2, 0, 0, 0, ⟨0, false, 0⟩, false, false, 0, 0, [], []⟩
  else if (parts s).length = 2 ∧ nth (parts s) 0 = t_form then ⟨1, refNum (nth (parts s) 1), 0, 0, 0, ⟨0, false, 0⟩, false, false, 0, 0, [], []⟩
  else if (parts s).length = 2 ∧ nth (parts s) 0 = t_type then ⟨2, refNum (nth (parts s) 1), 0, 0, 0, ⟨0, false, 0⟩, false, false, 0, 0, [], []⟩
  else if (parts s).length = 9 ∧ nth (parts s) 0 = t_borrow ∧ 1 < (nth (parts s) 1).length then
    ⟨3, 48, refNum ((nth (parts s) 1).drop 1), refNum (nth (parts s) 3), refNum (nth (parts s) 5), (plFind (nth (parts s) 8)).getD ⟨0, false, 0⟩, nth (parts s) 6 == t_write, nth (parts s) 7 == t_deep, 0, 0, [], []⟩
  else if 5 ≤ (parts s).length ∧ nth (parts s) 0 = t_ran then
    ⟨5, 0, 0, 0, 0, ⟨0, false, 0⟩, false, false, (outOf (nth (parts s) 1)).getD 0, refNum (nth (parts s) 2), (sorts false [] [] ((parts s).drop 4)).1, (sorts false [] [] ((parts s).drop 4)).2⟩
  else ve0
theorem itoa_not (n : Int) {c : UInt8} {r : Bs} (h : 58 ≤ c.toNat) : itoa n ≠ c :: r := by
  obtain ⟨d, q, hd, hle⟩ := itoa_head n
  rw [hd]; intro e; injection e with e _; subst e; omega
theorem sorts_result : ∀ (l : List Int) (p r : List Int), (∀ n ∈ l, i64 n) → sorts true p r (l.map itoa) = (p, r ++ l)
  | [], p, r, _ => by simp [sorts]
  | n :: l, p, r, h => by
    rw [List.map_cons, sorts, if_neg (itoa_not n (by decide)), if_pos rfl, sorts_result l _ _ (fun m hm => h m (List.mem_cons_of_mem _ hm)), refNum_itoa (h n (List.mem_cons_self ..))]; simp
theorem sorts_prints : ∀ (l : List Int) (p : List Int) (q : List Bs), (∀ n ∈ l, i64 n) → sorts false p [] (l.map itoa ++ t_result :: q) = sorts true (p ++ l) [] q
  | [], p, q, _ => by simp [sorts]
  | n :: l, p, q, h => by
    rw [List.map_cons, List.cons_append, sorts, if_neg (itoa_not n (by decide)), if_neg (by decide), sorts_prints l _ q (fun m hm => h m (List.mem_cons_of_mem _ hm)), refNum_itoa (h n (List.mem_cons_self ..))]; simp
theorem parts_list (u : Bs) : ∀ (w : Bs) (l : List Int), (∀ c ∈ w, c ≠ 32) → parts (w ++ listT l ++ 32 :: u) = w :: (l.map itoa ++ parts u)
  | w, [], h => by simp [listT, parts_word _ _ h]
  | w, n :: l, h => by
    rw [show w ++ listT (n :: l) ++ 32 :: u = w ++ 32 :: (itoa n ++ listT l ++ 32 :: u) by simp [listT], parts_word _ _ h, parts_list u (itoa n) l (itoa_no32 n)]; simp
theorem parts_list0 : ∀ (w : Bs) (l : List Int), (∀ c ∈ w, c ≠ 32) → parts (w ++ listT l) = w :: l.map itoa
  | w, [], h => by simp [listT, parts_last _ h]
  | w, n :: l, h => by
    rw [show w ++ listT (n :: l) = w ++ 32 :: (itoa n ++ listT l) by simp [listT], parts_word _ _ h, parts_list0 (itoa n) l (itoa_no32 n)]; simp
theorem guessP_written {v : Ve} (h : veOk v = true) (hw : v.wf) : guessP (written v) = v := by
  rcases veOk_kind h with hk | hk | hk | hk | hk
  · obtain ⟨e, h1, h2⟩ := veOk1 h hk
    rw [e, written_1]
    unfold guessP
    rw [parts_word _ _ (no32 (l := t_form) (by decide)), parts_last _ (itoa_no32 _)]
    simp only [nth_0]
    rw [if_neg (show t_form ≠ t_inputs by decide), if_pos ⟨rfl, trivial⟩]
    show Ve.mk 1 (refNum (itoa v.err)) _ _ _ _ _ _ _ _ _ _ = _
    rw [refNum_itoa ⟨by omega, by omega⟩]
  · obtain ⟨e, h1, h2⟩ := veOk2 h hk
    rw [e, written_2]
    unfold guessP
    rw [parts_word _ _ (no32 (l := t_type) (by decide)), parts_last _ (itoa_no32 _)]
    simp only [nth_0]
    rw [if_neg (show t_type ≠ t_inputs by decide), if_neg (by intro h; exact absurd h.2 (show t_type ≠ t_form by decide)), if_pos ⟨rfl, trivial⟩]
    show Ve.mk 2 (refNum (itoa v.err)) _ _ _ _ _ _ _ _ _ _ = _
    rw [refNum_itoa ⟨by omega, by omega⟩]
  · obtain ⟨e, h1, h2, h3, h4, h5⟩ := veOk3 h hk
    rw [e, written_3]
    unfold guessP
    have hl : 1 < (102 :: itoa v.fn).length := by
      cases hi : itoa v.fn with
      | nil => exact absurd hi (itoa_ne v.fn)
      | cons a l => simp
    rw [parts_word _ _ (no32 (l := t_borrow) (by decide)), joinS_parts _ (by simp [partsB]) (fun p hp => no32 (partsB_no32 h5 p hp))]
    unfold partsB
    simp only [nth_0]
    rw [if_neg (show t_borrow ≠ t_inputs by decide), if_neg (by intro h; exact absurd h.1 (by simp)), if_neg (by intro h; exact absurd h.1 (by simp)), if_pos ⟨rfl, trivial, hl⟩]
    show Ve.mk 3 48 (refNum (itoa v.fn)) (refNum (itoa v.at_)) (refNum (itoa v.loan)) ((plFind (plText v.pl)).getD ⟨0, false, 0⟩) ((if v.write = true then t_write else t_read) == t_write) ((if v.deep = true then t_deep else t_shallow) == t_deep) _ _ _ _ = _
    rw [refNum_itoa ⟨by omega, by omega⟩, refNum_itoa hw.at_, refNum_itoa hw.loan, plFind_text h5]
    cases v.write <;> cases v.deep <;> rfl
  · rw [veOk4 h hk]; decide +kernel
  · obtain ⟨e, ho, h1, h2, h3, h4⟩ := veOk5 h hk
    obtain ⟨w, hw1, hw2, hw3⟩ := outW_of ho
    have hp : parts (t_ran ++ 32 :: ((w ++ 32 :: itoa v.steps) ++ 32 :: (t_prints ++ (listT v.prints ++ 32 :: (t_result ++ listT v.result))))) = t_ran :: w :: itoa v.steps :: t_prints :: (v.prints.map itoa ++ t_result :: v.result.map itoa) := by
      have hx : (w ++ 32 :: itoa v.steps) ++ 32 :: (t_prints ++ (listT v.prints ++ 32 :: (t_result ++ listT v.result))) = w ++ 32 :: (itoa v.steps ++ 32 :: (t_prints ++ listT v.prints ++ 32 :: (t_result ++ listT v.result))) := by
        simp only [List.append_assoc, List.cons_append]
      rw [hx, parts_word _ _ (no32 (l := t_ran) (by decide)), parts_word _ _ (words_no32 hw3), parts_word _ _ (itoa_no32 _), parts_list _ _ _ (no32 (l := t_prints) (by decide)), parts_list0 _ _ (no32 (l := t_result) (by decide))]
    rw [e, written_5 hw1]
    unfold guessP
    rw [hp]
    simp only [nth_0]
    rw [if_neg (show t_ran ≠ t_inputs by decide), if_neg (by intro h; exact absurd h.2 (show t_ran ≠ t_form by decide)), if_neg (by intro h; exact absurd h.2 (show t_ran ≠ t_type by decide)), if_neg (by intro h; exact absurd h.2.1 (show t_ran ≠ t_borrow by decide)), if_pos ⟨by simp; omega, trivial⟩]
    show Ve.mk 5 0 0 0 0 _ _ _ ((outOf w).getD 0) (refNum (itoa v.steps)) (sorts false [] [] (v.prints.map itoa ++ t_result :: v.result.map itoa)).1 (sorts false [] [] (v.prints.map itoa ++ t_result :: v.result.map itoa)).2 = _
    rw [hw2, refNum_itoa ⟨by omega, by omega⟩, sorts_prints _ _ _ hw.prints, sorts_result _ _ _ hw.result]
    simp
/-- The text of at most one verdict. -/
theorem written_inj {v x : Ve} (h1 : veOk v = true) (w1 : v.wf) (h2 : veOk x = true) (w2 : x.wf) (h : written v = written x) : v = x := by
  have a := readP_written h1 w1
  rw [h, readP_written h2 w2] at a
  injection a with a; exact a.symm
end Go.Proofs.YtjllaogechckoaaDoor
