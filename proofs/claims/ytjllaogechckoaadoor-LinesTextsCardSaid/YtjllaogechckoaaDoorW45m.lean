/- Layer 45, plain: what the laws say of texts and verdicts. -/
import Derived.Test.YtjllaogechckoaaDoorW45k
namespace Go.Proofs.YtjllaogechckoaaDoor
open Go.RowKit
set_option linter.unusedSimpArgs false
set_option linter.unusedVariables false

def N10 (l : Bs) : Prop := ∀ c ∈ l, c ≠ 10
theorem N10.nil : N10 [] := fun c h => by cases h
theorem N10.cons {c : UInt8} {l : Bs} (hc : c ≠ 10) (h : N10 l) : N10 (c :: l) := fun d hd => by
  rcases List.mem_cons.1 hd with rfl | hd
  · exact hc
  · exact h d hd
theorem N10.app {a b : Bs} (ha : N10 a) (hb : N10 b) : N10 (a ++ b) := fun d hd => by
  rcases List.mem_append.1 hd with hd | hd
  · exact ha d hd
  · exact hb d hd
theorem N10.itoa (n : Int) : N10 (Lib.itoa n) := fun c hc e => by
  subst e
  rcases itoa_bytes n _ hc with h | h
  · exact absurd h (by decide)
  · revert h; unfold isDig; decide
theorem N10.list : ∀ (l : List Int), N10 (listT l)
  | [] => N10.nil
  | n :: l => by
    have e : listT (n :: l) = 32 :: Lib.itoa n ++ listT l := by simp [listT]
    rw [e]
    exact N10.app (N10.cons (by decide) (N10.itoa n)) (N10.list l)
theorem N10.word {w : Bs} (h : w ∈ words) : N10 w := fun c hc e => by
  subst e; exact absurd (words_alpha w h _ hc).1 (by decide)
theorem N10.pl {p : Pl} (h : plOk p = true) : N10 (plText p) := fun c hc => (plText_no32' p (mem_allPl h) c hc).2
theorem N10.ite {b : Bool} {x y : Bs} (hx : N10 x) (hy : N10 y) : N10 (if b = true then x else y) := by
  cases b
  · exact hy
  · exact hx
theorem N10.all {l : Bs} (h : l.all (· != 10) = true) : N10 l := fun c hc => by simpa using List.all_eq_true.1 h c hc
theorem written_3' {v : Ve} (hk : v.kind = 3) : written v = t_borrow ++ 32 :: (102 :: Lib.itoa v.fn) ++ 32 :: t_at ++ 32 :: Lib.itoa v.at_ ++ 32 :: t_loan ++ 32 :: Lib.itoa v.loan ++ 32 :: (if v.write then t_write else t_read) ++ 32 :: (if v.deep then t_deep else t_shallow) ++ 32 :: plText v.pl := by
  unfold written
  rw [if_neg (by omega), if_neg (by omega), if_neg (by omega), if_pos hk]
theorem written_no10 {v : Ve} (h : veOk v = true) : N10 (written v) := by
  rcases veOk_kind h with hk | hk | hk | hk | hk
  · rw [wr1 h hk]
    exact N10.app (N10.all (by decide)) (N10.cons (by decide) (N10.itoa _))
  · rw [wr2 h hk]
    exact N10.app (N10.all (by decide)) (N10.cons (by decide) (N10.itoa _))
  · obtain ⟨-, f1, f2, f3, f4, f5⟩ := veOk3 h hk
    rw [written_3' hk]
    exact ((((((((N10.all (by decide)).app (N10.cons (by decide) (N10.cons (by decide) (N10.itoa _)))).app (N10.cons (by decide) (N10.all (by decide)))).app (N10.cons (by decide) (N10.itoa _))).app (N10.cons (by decide) (N10.all (by decide)))).app (N10.cons (by decide) (N10.itoa _))).app (N10.cons (by decide) (N10.ite (N10.all (by decide)) (N10.all (by decide))))).app (N10.cons (by decide) (N10.ite (N10.all (by decide)) (N10.all (by decide))))).app (N10.cons (by decide) (N10.pl f5))
  · rw [wr4 h hk]; exact N10.all (by decide)
  · obtain ⟨-, ho, f1, f2, f3, f4⟩ := veOk5 h hk
    obtain ⟨ow, ho1, ho2, ho3⟩ := outW_of ho
    rw [wr5 h hk ho1]
    exact (N10.all (by decide)).app (N10.cons (by decide) (((N10.word ho3).app (N10.cons (by decide) (N10.itoa _))).app (N10.cons (by decide) ((N10.all (by decide)).app ((N10.list _).app (N10.cons (by decide) ((N10.all (by decide)).app (N10.list _))))))))
theorem written_len {v : Ve} (h : veOk v = true) (hv : v.ok) : (written v).length ≤ 10000 := by
  rcases veOk_kind h with hk | hk | hk | hk | hk
  · rw [wr1 h hk]
    have := itoa_len hv.err
    simp only [List.length_append, List.length_cons, List.length_nil]; omega
  · rw [wr2 h hk]
    have := itoa_len hv.err
    simp only [List.length_append, List.length_cons, List.length_nil]; omega
  · obtain ⟨-, f1, f2, f3, f4, f5⟩ := veOk3 h hk
    rw [written_3' hk]
    have h1 := itoa_len hv.fn
    have h2 := itoa_len hv.at_
    have h3 := itoa_len hv.loan
    have h4 := plText_len f5
    have h5 : (if v.write = true then t_write else t_read).length ≤ 10 := by split <;> decide
    have h6 : (if v.deep = true then t_deep else t_shallow).length ≤ 10 := by split <;> decide
    simp only [List.length_append, List.length_cons, List.length_nil]; omega
  · rw [wr4 h hk]; decide
  · obtain ⟨-, ho, f1, f2, f3, f4⟩ := veOk5 h hk
    obtain ⟨ow, ho1, ho2, ho3⟩ := outW_of ho
    have h0 : ow.length ≤ 20 := by
      have hh : ∀ w ∈ words, w.length ≤ 20 := by decide +kernel
      exact hh ow ho3
    have h1 := itoa_len hv.steps
    have h2 := listT_len v.prints hv.prints
    have h3 := listT_len v.result hv.result
    rw [wr5 h hk ho1]
    simp only [List.length_append, List.length_cons, List.length_nil]; omega
theorem written_ne {v : Ve} (h : veOk v = true) : written v ≠ [] := by
  rcases veOk_kind h with hk | hk | hk | hk | hk
  · rw [wr1 h hk]; simp
  · rw [wr2 h hk]; simp
  · obtain ⟨-, f1, f2, f3, f4, f5⟩ := veOk3 h hk
    rw [wr3 h hk]; simp
  · rw [wr4 h hk]; simp
  · obtain ⟨-, ho, f1, f2, f3, f4⟩ := veOk5 h hk
    obtain ⟨ow, ho1, ho2, ho3⟩ := outW_of ho
    rw [wr5 h hk ho1]; simp
/-! What was written is read. -/
theorem rd_written {v : Ve} (h : veOk v = true) (hv : v.ok) : rdV (written v) = v ∧ rdE (written v) = 0 := by
  unfold rdV rdE; rw [readP_written h hv.wf']; dsimp only; rw [if_pos h, if_pos h]; exact ⟨rfl, rfl⟩
theorem rd_ok {s : Bs} (h : rdE s = 0) : veOk (rdV s) = true ∧ written (rdV s) = s := by
  unfold rdE at h
  unfold rdV
  cases hr : readP s with
  | none => rw [hr] at h; cases h
  | some x =>
    rw [hr] at h
    dsimp only at h ⊢
    split at h
    · rename_i hx
      rw [if_pos hx]
      exact ⟨hx, written_readP hr⟩
    · cases h
theorem rdE_or (s : Bs) : rdE s = 0 ∨ rdE s = 12 := by
  unfold rdE
  split
  · split
    · exact Or.inl rfl
    · exact Or.inr rfl
  · exact Or.inr rfl
/-- Whether a verdict has a text, which is read back. -/
def readsB (v : Ve) (want : Bs) : Bool := (opOk (veOk v) == 0) && ((txS v == want) && ((rdE want == 0) && decide (v = rdV want)))
theorem readsB_of {v : Ve} (h : veOk v = true) (hv : v.ok) {want : Bs} (e : written v = want) : readsB v want = true := by
  subst e
  obtain ⟨h1, h2⟩ := rd_written h hv
  unfold readsB txS opOk
  rw [h1, h2, h]; simp
def noneB (s : Bs) : Bool := (rdE s == 12) && decide (rdV s = ve0)
theorem words_none : ∀ w ∈ words, noneB w = true := by decide +kernel
abbrev vRan0 : Ve := ⟨5, 0, 0, 0, 0, ⟨0, false, 0⟩, false, false, 1, 5, [8], [8, 1]⟩
abbrev vBor0 : Ve := ⟨3, 48, 0, 1, 0, ⟨1, false, 0⟩, false, true, 0, 0, [], []⟩
/-- "ran finished 5 prints 8 result 8 1" -/
abbrev tRan0 : Bs := [114, 97, 110, 32, 102, 105, 110, 105, 115, 104, 101, 100, 32, 53, 32, 112, 114, 105, 110, 116, 115, 32, 56, 32, 114, 101, 115, 117, 108, 116, 32, 56, 32, 49]
/-- "borrow f0 at 1 loan 0 read deep x1" -/
abbrev tBor0 : Bs := [98, 111, 114, 114, 111, 119, 32, 102, 48, 32, 97, 116, 32, 49, 32, 108, 111, 97, 110, 32, 48, 32, 114, 101, 97, 100, 32, 100, 101, 101, 112, 32, 120, 49]
theorem readsRan0 : readsB vRan0 tRan0 = true := by decide +kernel
theorem readsBor0 : readsB vBor0 tBor0 = true := by decide +kernel
end Go.Proofs.YtjllaogechckoaaDoor
