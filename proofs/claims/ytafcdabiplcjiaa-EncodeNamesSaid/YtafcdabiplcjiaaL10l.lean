/- Layer 10, plain: what was written is read (numbers, places, operands). Layer 10, plain: what was written is read (operands, rvalues, statements). Layer 10, plain: what was written is read (statements, jumps, blocks, functions). Layer 10, plain: what was written is read (jumps, blocks, functions, programs). Layer 10, plain: what is read without an error was written (numbers, places, operands, rvalues). Layer 10, plain: what is read without an error was written (rvalues, statements, jumps, blocks, functions). Layer 10, plain: a valid program's bytes are read as it. Layer 10, plain: functions: written and read, read and written. -/
import Derived.Test.YtafcdabiplcjiaaL10j
import Derived.Test.YtafcdabiplcjiaaL09a
import Derived.Test.YtafcdabiplcjiaaL09l
namespace Go.Proofs.Ytafcdabiplcjiaa
open Go.RowKit
set_option linter.unusedSimpArgs false
set_option linter.unusedVariables false

/-- No error so far, and the bytes l begin at the state's place. -/
def At (b : List Nat) (s : RS) (l : List Nat) : Prop := s.e = 0 ∧ ∃ r, b.drop s.at' = l ++ r
def fwd (s : RS) (l : List Nat) : RS := ⟨s.at' + l.length, 0⟩
theorem At.left {b : List Nat} {s : RS} {l m : List Nat} (h : At b s (l ++ m)) : At b s l := by
  obtain ⟨h0, r, h⟩ := h
  exact ⟨h0, m ++ r, by rw [h, List.append_assoc]⟩
theorem At.right {b : List Nat} {s : RS} {l m : List Nat} (h : At b s (l ++ m)) : At b (fwd s l) m := by
  obtain ⟨h0, r, h⟩ := h
  refine ⟨rfl, r, ?_⟩
  unfold fwd
  dsimp only
  rw [← List.drop_drop, h, List.append_assoc, List.drop_left]
theorem fwd_fwd (s : RS) (l m : List Nat) : fwd (fwd s l) m = fwd s (l ++ m) := by
  unfold fwd; simp [Nat.add_assoc]
theorem At.zero {b : List Nat} {s : RS} (h : At b s []) : fwd s [] = s := by
  obtain ⟨h0, _⟩ := h
  cases s; unfold fwd; simp at h0 ⊢; exact h0.symm
theorem rdNum_put {b : List Nat} {s : RS} {lo hi n : Nat} (h : At b s (vput n)) (h1 : lo ≤ n) (h2 : n ≤ hi) (h3 : n < 18446744073709551616) : rdNum b lo hi s = (n, fwd s (vput n)) := by
  obtain ⟨h0, r, h⟩ := h
  unfold rdNum
  rw [if_neg (by simpa using h0), h, vget_put h3, if_neg (by simp), if_neg (by dsimp only; omega)]
  rfl
theorem rdSg_put {b : List Nat} {s : RS} {n : Int} (h : At b s (vput (foldS n))) (h3 : foldS n < 18446744073709551616) : rdSg b s = (n, fwd s (vput (foldS n))) := by
  obtain ⟨h0, r, h⟩ := h
  unfold rdSg
  rw [if_neg (by simpa using h0), h, vget_put h3, if_neg (by simp)]
  dsimp only
  rw [foldB_foldS]
  rfl
theorem rdPl_put {b : List Nat} {s : RS} {p : Pl} (h : At b s (encPl p)) (h1 : 0 ≤ p.loc ∧ p.loc < 16) (h2 : 0 ≤ p.field ∧ p.field ≤ 2) : rdPl b s = (p, fwd s (encPl p)) := by
  obtain ⟨l, d, f⟩ := p
  dsimp only at h1 h2
  unfold encPl at h ⊢
  dsimp only at h ⊢
  obtain ⟨n, hn⟩ : ∃ n, (6 * l + f + (if d then 3 else 0)).toNat = n := ⟨_, rfl⟩
  rw [hn] at h ⊢
  unfold rdPl
  rw [rdNum_put h (by omega) (by cases d <;> simp at hn <;> omega) (by cases d <;> simp at hn <;> omega)]
  dsimp only
  cases d
  · simp at hn
    have e1 : ((n / 6 : Nat) : Int) = l := by omega
    have e2 : decide (3 ≤ n % 6) = false := by simp; omega
    have e3 : ((n % 3 : Nat) : Int) = f := by omega
    rw [e1, e2, e3]
  · simp at hn
    have e1 : ((n / 6 : Nat) : Int) = l := by omega
    have e2 : decide (3 ≤ n % 6) = true := by simp; omega
    have e3 : ((n % 3 : Nat) : Int) = f := by omega
    rw [e1, e2, e3]
/-- A list of elements whose bytes are read one by one. -/
theorem rdL_put {α : Type} {b : List Nat} {rd : RS → α × RS} {enc : α → List Nat} : ∀ (l : List α) (s : RS), (∀ x ∈ l, ∀ s, At b s (enc x) → rd s = (x, fwd s (enc x))) → At b s (l.flatMap enc) → rdL rd l.length s = (l, fwd s (l.flatMap enc))
  | [], s, _, h => by
    have e := At.zero h
    simp only [List.length_nil, rdL, List.flatMap_nil, e]
  | x :: l, s, hx, h => by
    rw [List.flatMap_cons] at h ⊢
    have h1 := hx x (by simp) s h.left
    have h2 := rdL_put l (fwd s (enc x)) (fun y hy => hx y (by simp [hy])) h.right
    simp only [List.length_cons, rdL]
    rw [h1, if_neg (by simp [fwd])]
    dsimp only
    rw [h2, fwd_fwd]
theorem rdOpd_put {b : List Nat} {s : RS} {o : Opd} (h : At b s (encOpd o)) (hk : opdErr o = 0) (hw : o.wf) : rdOpd b s = (o, fwd s (encOpd o)) := by
  have hk := (opdErr_iff o).1 hk
  have hn := foldS_lt hw.n
  have hf := hw.pl.field.1
  obtain ⟨k, n, p⟩ := o
  dsimp only at hn hf
  rcases hk with ⟨h1, hz⟩ | ⟨h1, h2, hp⟩
  · dsimp only at h1
    subst h1
    obtain ⟨pl, pd, pf⟩ := p
    obtain ⟨e1, e2, e3⟩ := hz
    dsimp only at e1 e2 e3
    subst e1 e2 e3
    have e : encOpd ⟨1, n, ⟨0, false, 0⟩⟩ = vput 1 ++ vput (foldS n) := by simp [encOpd]
    rw [e] at h ⊢
    unfold rdOpd
    rw [rdNum_put h.left (by omega) (by omega) (by omega)]
    dsimp only
    rw [if_pos rfl, rdSg_put h.right hn, fwd_fwd]
  · dsimp only at h1 h2 hp
    subst h2
    rcases h1 with rfl | rfl
    · have e : encOpd ⟨2, 0, p⟩ = vput 2 ++ encPl p := by simp [encOpd]
      rw [e] at h ⊢
      unfold rdOpd
      rw [rdNum_put h.left (by omega) (by omega) (by omega)]
      dsimp only
      rw [if_neg (by omega), rdPl_put h.right ⟨hp.1, hp.2.1⟩ ⟨hf, hp.2.2⟩, fwd_fwd]
      rfl
    · have e : encOpd ⟨3, 0, p⟩ = vput 3 ++ encPl p := by simp [encOpd]
      rw [e] at h ⊢
      unfold rdOpd
      rw [rdNum_put h.left (by omega) (by omega) (by omega)]
      dsimp only
      rw [if_neg (by omega), rdPl_put h.right ⟨hp.1, hp.2.1⟩ ⟨hf, hp.2.2⟩, fwd_fwd]
      rfl
theorem opdZ_eq {o : Opd} (h : opdZ o = true) : o = ⟨0, 0, ⟨0, false, 0⟩⟩ := by
  obtain ⟨k, n, ⟨l, d, f⟩⟩ := o
  have h := of_decide_eq_true h
  obtain ⟨h1, h2, h3, h4, h5⟩ := h
  dsimp only at h1 h2 h3 h4 h5
  subst h1 h2 h3 h4 h5; rfl
theorem plZ_eq {p : Pl} (h : plZ p = true) : p = ⟨0, false, 0⟩ := by
  obtain ⟨l, d, f⟩ := p
  have h := of_decide_eq_true h
  obtain ⟨h3, h4, h5⟩ := h
  dsimp only at h3 h4 h5
  subst h3 h4 h5; rfl
theorem rdRv_put {b : List Nat} {s : RS} {r : Rv} (h : At b s (encRv r)) (hk : rvOk r = true) (hw : r.wf) : rdRv b s = (r, fwd s (encRv r)) := by
  have ha := hw.a; have hc := hw.b; have hf := hw.pl.field.1
  obtain ⟨k, op, bo, a, c, p⟩ := r
  dsimp only at ha hc hf
  unfold rvOk at hk
  dsimp only at hk
  by_cases h1 : k = 1
  · subst h1
    rw [if_pos rfl] at hk
    simp only [Bool.and_eq_true, decide_eq_true_eq] at hk
    obtain ⟨⟨⟨⟨q1, q2⟩, q3⟩, rfl⟩, rfl⟩ := hk
    obtain rfl := opdZ_eq q2
    obtain rfl := plZ_eq q3
    have e : encRv ⟨1, 0, 0, a, ⟨0, 0, ⟨0, false, 0⟩⟩, ⟨0, false, 0⟩⟩ = vput 1 ++ encOpd a := by simp [encRv]
    rw [e] at h ⊢
    unfold rdRv
    rw [rdNum_put h.left (by omega) (by omega) (by omega)]
    dsimp only
    rw [if_pos rfl, rdOpd_put h.right q1 ha, fwd_fwd]
  rw [if_neg h1] at hk
  by_cases h2 : k = 2
  · subst h2
    rw [if_pos rfl] at hk
    simp only [Bool.and_eq_true, decide_eq_true_eq] at hk
    obtain ⟨⟨⟨⟨⟨q1, q2⟩, q3⟩, q4⟩, q5⟩, rfl⟩ := hk
    obtain rfl := plZ_eq q3
    obtain ⟨m, rfl⟩ : ∃ m : Nat, op = m := ⟨op.toNat, by omega⟩
    have e : encRv ⟨2, m, 0, a, c, ⟨0, false, 0⟩⟩ = vput 2 ++ (vput m ++ (encOpd a ++ encOpd c)) := by simp [encRv]
    rw [e] at h ⊢
    unfold rdRv
    rw [rdNum_put h.left (by omega) (by omega) (by omega)]
    dsimp only
    rw [if_neg (by omega), if_pos rfl, rdNum_put h.right.left (by omega) (by omega) (by omega)]
    dsimp only
    rw [rdOpd_put h.right.right.left q1 ha]
    dsimp only
    rw [rdOpd_put h.right.right.right q2 hc, fwd_fwd, fwd_fwd, fwd_fwd]
  rw [if_neg h2] at hk
  by_cases h3 : k = 3
  · subst h3
    rw [if_pos rfl] at hk
    simp only [Bool.and_eq_true, decide_eq_true_eq] at hk
    obtain ⟨⟨⟨⟨q1, q2⟩, q3⟩, rfl⟩, rfl⟩ := hk
    obtain rfl := plZ_eq q3
    have e : encRv ⟨3, 0, 0, a, c, ⟨0, false, 0⟩⟩ = vput 3 ++ (encOpd a ++ encOpd c) := by simp [encRv]
    rw [e] at h ⊢
    unfold rdRv
    rw [rdNum_put h.left (by omega) (by omega) (by omega)]
    dsimp only
    rw [if_neg (by omega), if_neg (by omega), if_pos rfl, rdOpd_put h.right.left q1 ha]
    dsimp only
    rw [rdOpd_put h.right.right q2 hc, fwd_fwd, fwd_fwd]
  rw [if_neg h3] at hk
  by_cases h4 : k = 4
  · subst h4
    rw [if_pos rfl] at hk
    simp only [Bool.and_eq_true, decide_eq_true_eq] at hk
    obtain ⟨⟨⟨⟨⟨q1, q2⟩, q3⟩, rfl⟩, q4⟩, q5⟩ := hk
    obtain rfl := opdZ_eq q1
    obtain rfl := opdZ_eq q2
    have hp := (plErr_iff p).1 q3
    obtain ⟨m, rfl⟩ : ∃ m : Nat, bo = m := ⟨bo.toNat, by omega⟩
    have e : encRv ⟨4, 0, m, ⟨0, 0, ⟨0, false, 0⟩⟩, ⟨0, 0, ⟨0, false, 0⟩⟩, p⟩ = vput 4 ++ (vput m ++ encPl p) := by simp [encRv]
    rw [e] at h ⊢
    unfold rdRv
    rw [rdNum_put h.left (by omega) (by omega) (by omega)]
    dsimp only
    rw [if_neg (by omega), if_neg (by omega), if_neg (by omega), if_pos rfl, rdNum_put h.right.left (by omega) (by omega) (by omega)]
    dsimp only
    rw [rdPl_put h.right.right ⟨hp.1, hp.2.1⟩ ⟨hf, hp.2.2⟩, fwd_fwd, fwd_fwd]
  rw [if_neg h4] at hk
  by_cases h5 : k = 5
  · subst h5
    rw [if_pos rfl] at hk
    simp only [Bool.and_eq_true, decide_eq_true_eq] at hk
    obtain ⟨⟨⟨⟨q1, q2⟩, q3⟩, rfl⟩, rfl⟩ := hk
    obtain rfl := opdZ_eq q1
    obtain rfl := opdZ_eq q2
    have hp := (plErr_iff p).1 q3
    have e : encRv ⟨5, 0, 0, ⟨0, 0, ⟨0, false, 0⟩⟩, ⟨0, 0, ⟨0, false, 0⟩⟩, p⟩ = vput 5 ++ encPl p := by simp [encRv]
    rw [e] at h ⊢
    unfold rdRv
    rw [rdNum_put h.left (by omega) (by omega) (by omega)]
    dsimp only
    rw [if_neg (by omega), if_neg (by omega), if_neg (by omega), if_neg (by omega), rdPl_put h.right ⟨hp.1, hp.2.1⟩ ⟨hf, hp.2.2⟩, fwd_fwd]
    rfl
  rw [if_neg h5] at hk
  cases hk
theorem rvZ_eq {r : Rv} (h : rvZ r = true) : r = ⟨0, 0, 0, ⟨0, 0, ⟨0, false, 0⟩⟩, ⟨0, 0, ⟨0, false, 0⟩⟩, ⟨0, false, 0⟩⟩ := by
  obtain ⟨k, op, bo, a, c, p⟩ := r
  obtain ⟨h1, h2, h3, h4, h5, h6⟩ := of_decide_eq_true h
  dsimp only at h1 h2 h3 h4 h5 h6
  obtain rfl := opdZ_eq (decide_eq_true h4)
  obtain rfl := opdZ_eq (decide_eq_true h5)
  obtain rfl := plZ_eq (decide_eq_true h6)
  subst h1 h2 h3; rfl
theorem rdSt_put {b : List Nat} {s : RS} {x : St} (h : At b s (encSt x)) (hk : stErr x = 0) (hw : x.wf) : rdSt b s = (x, fwd s (encSt x)) := by
  have hk := (stErr_iff x).1 hk
  have ha := hw.a; have hr := hw.r; have hf := hw.pl.field.1
  obtain ⟨k, p, r, a, l⟩ := x
  dsimp only at ha hr hf
  unfold stOk at hk
  dsimp only at hk
  by_cases h1 : k = 1
  · subst h1
    rw [if_pos rfl] at hk
    simp only [Bool.and_eq_true, decide_eq_true_eq] at hk
    obtain ⟨⟨⟨q1, q2⟩, q3⟩, rfl⟩ := hk
    obtain rfl := opdZ_eq q3
    have hp := (plErr_iff p).1 q1
    have e : encSt ⟨1, p, r, ⟨0, 0, ⟨0, false, 0⟩⟩, 0⟩ = vput 1 ++ (encPl p ++ encRv r) := by simp [encSt]
    rw [e] at h ⊢
    unfold rdSt
    rw [rdNum_put h.left (by omega) (by omega) (by omega)]
    dsimp only
    rw [if_pos rfl, rdPl_put h.right.left ⟨hp.1, hp.2.1⟩ ⟨hf, hp.2.2⟩]
    dsimp only
    rw [rdRv_put h.right.right q2 hr, fwd_fwd, fwd_fwd]
  rw [if_neg h1] at hk
  by_cases h2 : k = 2 ∨ k = 4
  · rw [if_pos h2] at hk
    simp only [Bool.and_eq_true, decide_eq_true_eq] at hk
    obtain ⟨⟨⟨q1, q2⟩, q3⟩, rfl⟩ := hk
    obtain rfl := plZ_eq q1
    obtain rfl := rvZ_eq q2
    rcases h2 with rfl | rfl
    · have e : encSt ⟨2, ⟨0, false, 0⟩, ⟨0, 0, 0, ⟨0, 0, ⟨0, false, 0⟩⟩, ⟨0, 0, ⟨0, false, 0⟩⟩, ⟨0, false, 0⟩⟩, a, 0⟩ = vput 2 ++ encOpd a := by simp [encSt]
      rw [e] at h ⊢
      unfold rdSt
      rw [rdNum_put h.left (by omega) (by omega) (by omega)]
      dsimp only
      rw [if_neg (by omega), if_neg (by omega), rdOpd_put h.right q3 ha, fwd_fwd]
      rfl
    · have e : encSt ⟨4, ⟨0, false, 0⟩, ⟨0, 0, 0, ⟨0, 0, ⟨0, false, 0⟩⟩, ⟨0, 0, ⟨0, false, 0⟩⟩, ⟨0, false, 0⟩⟩, a, 0⟩ = vput 4 ++ encOpd a := by simp [encSt]
      rw [e] at h ⊢
      unfold rdSt
      rw [rdNum_put h.left (by omega) (by omega) (by omega)]
      dsimp only
      rw [if_neg (by omega), if_neg (by omega), rdOpd_put h.right q3 ha, fwd_fwd]
      rfl
  rw [if_neg h2] at hk
  by_cases h3 : k = 3
  · subst h3
    rw [if_pos rfl] at hk
    simp only [Bool.and_eq_true, decide_eq_true_eq] at hk
    obtain ⟨⟨⟨⟨q1, q2⟩, q3⟩, q4⟩, q5⟩ := hk
    obtain rfl := plZ_eq q1
    obtain rfl := rvZ_eq q2
    obtain rfl := opdZ_eq q3
    obtain ⟨m, rfl⟩ : ∃ m : Nat, l = m := ⟨l.toNat, by omega⟩
    have e : encSt ⟨3, ⟨0, false, 0⟩, ⟨0, 0, 0, ⟨0, 0, ⟨0, false, 0⟩⟩, ⟨0, 0, ⟨0, false, 0⟩⟩, ⟨0, false, 0⟩⟩, ⟨0, 0, ⟨0, false, 0⟩⟩, m⟩ = vput 3 ++ vput m := by simp [encSt]
    rw [e] at h ⊢
    unfold rdSt
    rw [rdNum_put h.left (by omega) (by omega) (by omega)]
    dsimp only
    rw [if_neg (by omega), if_pos rfl, rdNum_put h.right (by omega) (by omega) (by omega), fwd_fwd]
  rw [if_neg h3] at hk
  cases hk
theorem rdTy_put {b : List Nat} {s : RS} {t : Ty} (h : At b s (encTy t)) (ht : TyOk t) : rdTy b s = (t, fwd s (encTy t)) := by
  unfold encTy at h ⊢
  have h8 := tyNum_lt t
  have hnn : ¬ tyNum t < 0 := fun e => (tyNum_iff t).1 e ht
  obtain ⟨k, hk⟩ : ∃ k : Nat, tyNum t = k := ⟨(tyNum t).toNat, by omega⟩
  have hk2 : (tyNum t).toNat = k := by omega
  rw [hk2] at h h8 ⊢
  unfold rdTy
  rw [rdNum_put h (by omega) (by omega) (by omega)]
  dsimp only
  have e : tyWith (k : Int) = t := Classical.byContradiction fun hne => by
    have hall : ∀ j : Nat, j < 8 → tyWith j ≠ t := fun j hj e => by
      have := tyNum_with hj e
      rw [hk] at this
      have : k = j := by omega
      subst this; exact hne e
    have := tyNum_none hall
    omega
  rw [e]
theorem blk_of {n : Int} (h : blk n = true) : 0 ≤ n ∧ n < 24 := by
  unfold blk at h; simpa using h
theorem nil_of_len {α : Type} {l : List α} (h : (l.length : Int) = 0) : l = [] := by
  cases l with
  | nil => rfl
  | cons x l => simp at h; omega
theorem rdJu_put {b : List Nat} {s : RS} {j : Ju} (h : At b s (encJu j)) (hk : okJu j) : rdJu b s = (j, fwd s (encJu j)) := by
  obtain ⟨hk, hw, har⟩ := hk
  have hk := (juErr_iff j).1 hk
  have ha := hw.a; have hf := hw.dest.field.1
  obtain ⟨k, a, fn, nx, el, ar, p⟩ := j
  dsimp only at ha hf har
  unfold juOk at hk
  rw [Bool.and_eq_true] at hk
  obtain ⟨hk, hargs⟩ := hk
  dsimp only at hargs
  have hargs : ∀ o ∈ ar, opdErr o = 0 := by unfold argsOk at hargs; simpa using hargs
  unfold juPre at hk
  dsimp only at hk
  by_cases h1 : k = 1
  · subst h1
    rw [if_pos rfl] at hk
    simp only [Bool.and_eq_true, decide_eq_true_eq] at hk
    obtain ⟨⟨⟨⟨⟨rfl, q2⟩, q3⟩, q4⟩, q5⟩, rfl⟩ := hk
    have q2 : ar = [] := by cases ar with
      | nil => rfl
      | cons x l => simp at q2
    obtain rfl := plZ_eq q3
    obtain rfl := opdZ_eq q4
    subst q2
    have q5 := blk_of q5
    obtain ⟨m, rfl⟩ : ∃ m : Nat, nx = m := ⟨nx.toNat, by omega⟩
    have e : encJu ⟨1, ⟨0, 0, ⟨0, false, 0⟩⟩, 0, m, 0, [], ⟨0, false, 0⟩⟩ = vput 1 ++ vput m := by simp [encJu]
    rw [e] at h ⊢
    unfold rdJu
    rw [rdNum_put h.left (by omega) (by omega) (by omega)]
    dsimp only
    rw [if_pos rfl, rdNum_put h.right (by omega) (by omega) (by omega), fwd_fwd]
  rw [if_neg h1] at hk
  by_cases h2 : k = 2
  · subst h2
    rw [if_pos rfl] at hk
    simp only [Bool.and_eq_true, decide_eq_true_eq] at hk
    obtain ⟨⟨⟨⟨⟨rfl, q2⟩, q3⟩, q4⟩, q5⟩, q6⟩ := hk
    have q2 : ar = [] := by cases ar with
      | nil => rfl
      | cons x l => simp at q2
    obtain rfl := plZ_eq q3
    subst q2
    have q5 := blk_of q5
    have q6 := blk_of q6
    obtain ⟨m, rfl⟩ : ∃ m : Nat, nx = m := ⟨nx.toNat, by omega⟩
    obtain ⟨n, rfl⟩ : ∃ m : Nat, el = m := ⟨el.toNat, by omega⟩
    have e : encJu ⟨2, a, 0, m, n, [], ⟨0, false, 0⟩⟩ = vput 2 ++ (encOpd a ++ (vput m ++ vput n)) := by simp [encJu]
    rw [e] at h ⊢
    unfold rdJu
    rw [rdNum_put h.left (by omega) (by omega) (by omega)]
    dsimp only
    rw [if_neg (by omega), if_pos rfl, rdOpd_put h.right.left q4 ha]
    dsimp only
    rw [rdNum_put h.right.right.left (by omega) (by omega) (by omega)]
    dsimp only
    rw [rdNum_put h.right.right.right (by omega) (by omega) (by omega), fwd_fwd, fwd_fwd, fwd_fwd]
  rw [if_neg h2] at hk
  by_cases h3 : k = 3 ∨ k = 5
  · rw [if_pos h3] at hk
    simp only [Bool.and_eq_true, decide_eq_true_eq] at hk
    obtain ⟨⟨⟨⟨⟨rfl, q2⟩, q3⟩, q4⟩, rfl⟩, rfl⟩ := hk
    have q2 : ar = [] := by cases ar with
      | nil => rfl
      | cons x l => simp at q2
    obtain rfl := plZ_eq q3
    obtain rfl := opdZ_eq q4
    subst q2
    rcases h3 with rfl | rfl
    · have e : encJu ⟨3, ⟨0, 0, ⟨0, false, 0⟩⟩, 0, 0, 0, [], ⟨0, false, 0⟩⟩ = vput 3 := by simp [encJu]
      rw [e] at h ⊢
      unfold rdJu
      rw [rdNum_put h (by omega) (by omega) (by omega)]
      dsimp only
      rw [if_neg (by omega), if_neg (by omega), if_neg (by omega)]
      rfl
    · have e : encJu ⟨5, ⟨0, 0, ⟨0, false, 0⟩⟩, 0, 0, 0, [], ⟨0, false, 0⟩⟩ = vput 5 := by simp [encJu]
      rw [e] at h ⊢
      unfold rdJu
      rw [rdNum_put h (by omega) (by omega) (by omega)]
      dsimp only
      rw [if_neg (by omega), if_neg (by omega), if_neg (by omega)]
      rfl
  rw [if_neg h3] at hk
  by_cases h4 : k = 4
  · subst h4
    rw [if_pos rfl] at hk
    simp only [Bool.and_eq_true, decide_eq_true_eq] at hk
    obtain ⟨⟨⟨⟨⟨⟨q1, q2⟩, q3⟩, q4⟩, q5⟩, q6⟩, rfl⟩ := hk
    obtain rfl := opdZ_eq q1
    have hp := (plErr_iff p).1 q5
    have q6 := blk_of q6
    obtain ⟨m, rfl⟩ : ∃ m : Nat, nx = m := ⟨nx.toNat, by omega⟩
    obtain ⟨n, rfl⟩ : ∃ m : Nat, fn = m := ⟨fn.toNat, by omega⟩
    have e : encJu ⟨4, ⟨0, 0, ⟨0, false, 0⟩⟩, n, m, 0, ar, p⟩ = vput 4 ++ (vput n ++ (vput ar.length ++ (ar.flatMap encOpd ++ (encPl p ++ vput m)))) := by simp [encJu, encOps]
    rw [e] at h ⊢
    unfold rdJu
    rw [rdNum_put h.left (by omega) (by omega) (by omega)]
    dsimp only
    rw [if_neg (by omega), if_neg (by omega), if_pos rfl, rdNum_put h.right.left (by omega) (by omega) (by omega)]
    dsimp only
    rw [rdNum_put h.right.right.left (by omega) (by omega) (by omega)]
    dsimp only
    rw [rdL_put ar _ (fun x hx s hs => rdOpd_put hs (hargs x hx) (har x hx)) h.right.right.right.left]
    dsimp only
    rw [rdPl_put h.right.right.right.right.left ⟨hp.1, hp.2.1⟩ ⟨hf, hp.2.2⟩]
    dsimp only
    rw [rdNum_put h.right.right.right.right.right (by omega) (by omega) (by omega)]
    simp only [fwd_fwd, List.append_assoc]
  rw [if_neg h4] at hk
  cases hk
theorem rdBk_put {b : List Nat} {s : RS} {x : Bk} (h : At b s (encBk x)) (hk : okBk x) : rdBk b s = (x, fwd s (encBk x)) := by
  obtain ⟨h1, h2, h3⟩ := hk
  obtain ⟨l, j⟩ := x
  dsimp only at h1 h2 h3
  have e : encBk ⟨l, j⟩ = vput l.length ++ (l.flatMap encSt ++ encJu j) := rfl
  rw [e] at h ⊢
  unfold rdBk
  rw [rdNum_put h.left (by omega) (by omega) (by omega)]
  dsimp only
  rw [rdL_put l _ (fun x hx s hs => rdSt_put hs (h1 x hx).1 (h1 x hx).2) h.right.left]
  dsimp only
  rw [rdJu_put h.right.right h2, fwd_fwd, fwd_fwd]
theorem rdFn_put {b : List Nat} {s : RS} {f : Fn} (h : At b s (encFn f)) (hk : okFn f) (hl : 1 ≤ f.locals.length) (hb : 1 ≤ f.blocks.length) : rdFn b s = (f, fwd s (encFn f)) := by
  obtain ⟨h1, h2, h3, h4, h5⟩ := hk
  obtain ⟨p, u, l, k⟩ := f
  dsimp only at h1 h2 h3 h4 h5 hl hb
  obtain ⟨m, rfl⟩ : ∃ m : Nat, p = m := ⟨p.toNat, by omega⟩
  have e : encFn ⟨m, u, l, k⟩ = vput m ++ (vput (if u then 1 else 0) ++ (vput l.length ++ (l.flatMap encTy ++ (vput k.length ++ k.flatMap encBk)))) := by simp [encFn]
  rw [e] at h ⊢
  unfold rdFn
  rw [rdNum_put h.left (by omega) (by omega) (by omega)]
  dsimp only
  rw [rdNum_put h.right.left (by omega) (by split <;> omega) (by split <;> omega)]
  dsimp only
  rw [rdNum_put h.right.right.left (by omega) (by omega) (by omega)]
  dsimp only
  rw [rdL_put l _ (fun x hx s hs => rdTy_put hs (h2 x hx)) h.right.right.right.left]
  dsimp only
  rw [rdNum_put h.right.right.right.right.left (by omega) (by omega) (by omega)]
  dsimp only
  rw [rdL_put k _ (fun x hx s hs => rdBk_put hs (h5 x hx)) h.right.right.right.right.right]
  have e2 : decide ((if u = true then 1 else 0) = 1) = u := by cases u <;> rfl
  dsimp only
  rw [e2]
  simp only [fwd_fwd, List.append_assoc]
theorem rdPr_put {p : Pr} {r : List Nat} (hn : 1 ≤ p.funcs.length ∧ p.funcs.length ≤ 8) (hk : ∀ f ∈ p.funcs, okFn f ∧ 1 ≤ f.locals.length ∧ 1 ≤ f.blocks.length) : rdPr (encPr p ++ r) = (p.funcs, ⟨(encPr p).length, 0⟩) := by
  have h : At (encPr p ++ r) ⟨0, 0⟩ (vput p.funcs.length ++ p.funcs.flatMap encFn) := ⟨rfl, r, rfl⟩
  unfold rdPr
  rw [rdNum_put h.left (by omega) (by omega) (by omega)]
  dsimp only
  rw [rdL_put p.funcs _ (fun x hx s hs => rdFn_put hs (hk x hx).1 (hk x hx).2.1 (hk x hx).2.2) h.right, fwd_fwd]
  simp [fwd, encPr]
/-- From s to s' the bytes are l, and there was no error. -/
def Was (b : List Nat) (s s' : RS) (l : List Nat) : Prop := s.e = 0 ∧ b.drop s.at' = l ++ b.drop s'.at'
theorem Was.trans {b : List Nat} {s s' s'' : RS} {l m : List Nat} (h : Was b s s' l) (g : Was b s' s'' m) : Was b s s'' (l ++ m) :=
  ⟨h.1, by rw [h.2, g.2, List.append_assoc]⟩
theorem rdNum_back {b : List Nat} {s : RS} {lo hi : Nat} (hb : ∀ x ∈ b, x < 256) (h : (rdNum b lo hi s).2.e = 0) : Was b s (rdNum b lo hi s).2 (vput (rdNum b lo hi s).1) := by
  unfold rdNum at h ⊢
  split at h
  · rename_i h1; exact absurd h h1
  · rename_i h1
    rw [if_neg h1]
    split at h
    · rename_i h2; exact absurd h h2
    · rename_i h2
      rw [if_neg h2]
      split at h
      · simp at h
      · rename_i h3
        rw [if_neg h3]
        dsimp only
        have hz := vget_back (l := b.drop s.at') (fun x hx => hb x (List.mem_of_mem_drop hx)) (n := (vget (b.drop s.at')).1) (k := (vget (b.drop s.at')).2.1) (Prod.ext rfl (Prod.ext rfl (show (vget (b.drop s.at')).2.2 = 0 by omega)))
        refine ⟨by omega, ?_⟩
        dsimp only
        rw [← hz.1, ← List.drop_drop, List.take_append_drop]
theorem rdSg_back {b : List Nat} {s : RS} (hb : ∀ x ∈ b, x < 256) (h : (rdSg b s).2.e = 0) : Was b s (rdSg b s).2 (vput (foldS (rdSg b s).1)) := by
  unfold rdSg at h ⊢
  split at h
  · rename_i h1; exact absurd h h1
  · rename_i h1
    rw [if_neg h1]
    split at h
    · rename_i h2; exact absurd h h2
    · rename_i h2
      rw [if_neg h2]
      dsimp only
      have hz := vget_back (l := b.drop s.at') (fun x hx => hb x (List.mem_of_mem_drop hx)) (n := (vget (b.drop s.at')).1) (k := (vget (b.drop s.at')).2.1) (Prod.ext rfl (Prod.ext rfl (show (vget (b.drop s.at')).2.2 = 0 by omega)))
      refine ⟨by omega, ?_⟩
      dsimp only
      rw [foldS_foldB, ← hz.1, ← List.drop_drop, List.take_append_drop]
theorem rdPl_back {b : List Nat} {s : RS} (hb : ∀ x ∈ b, x < 256) (h : (rdPl b s).2.e = 0) : Was b s (rdPl b s).2 (encPl (rdPl b s).1) := by
  have q := rdNum_back (lo := 0) (hi := 95) hb h
  have hl := (rdNum_le (b := b) (lo := 0) (hi := 95) (s := s) (by omega)).2
  have e : encPl (rdPl b s).1 = vput (rdNum b 0 95 s).1 := by
    unfold rdPl encPl
    generalize (rdNum b 0 95 s).1 = n at hl
    dsimp only
    congr 1
    by_cases h3 : 3 ≤ n % 6
    · rw [decide_eq_true h3, if_pos rfl]; omega
    · rw [decide_eq_false h3, if_neg (by simp)]; omega
  rw [e]
  exact q
theorem rdL_back {α : Type} {b : List Nat} {rd : RS → α × RS} {enc : α → List Nat} (hrd : ∀ s, (rd s).2.e = 0 → Was b s (rd s).2 (enc (rd s).1)) : ∀ (n : Nat) (s : RS), (rdL rd n s).2.e = 0 → Was b s (rdL rd n s).2 ((rdL rd n s).1.flatMap enc) ∧ (rdL rd n s).1.length = n
  | 0, s, h => ⟨⟨h, by simp [rdL]⟩, rfl⟩
  | n + 1, s, h => by
    unfold rdL at h ⊢
    split at h
    · rename_i h1; exact absurd h h1
    · rename_i h1
      rw [if_neg h1]
      dsimp only at h ⊢
      have e1 : (rd s).2.e = 0 := by omega
      have q := rdL_back hrd n (rd s).2 h
      rw [List.flatMap_cons, List.length_cons, q.2]
      exact ⟨(hrd s e1).trans q.1, rfl⟩
theorem rdOpd_back {b : List Nat} {s : RS} (hb : ∀ x ∈ b, x < 256) (h : (rdOpd b s).2.e = 0) : Was b s (rdOpd b s).2 (encOpd (rdOpd b s).1) := by
  have hl := rdNum_le (b := b) (lo := 1) (hi := 3) (s := s) (by omega)
  have hn := rdNum_back (s := s) (lo := 1) (hi := 3) hb
  unfold rdOpd at h ⊢
  generalize rdNum b 1 3 s = q at h hl hn ⊢
  obtain ⟨u, s1⟩ := q
  dsimp only at h hl hn ⊢
  split at h
  · rename_i h1
    subst h1
    have q := rdSg_back hb h
    rw [if_pos rfl]
    have e : encOpd ⟨1, (rdSg b s1).1, ⟨0, false, 0⟩⟩ = vput 1 ++ vput (foldS (rdSg b s1).1) := by simp [encOpd]
    dsimp only
    rw [e]
    exact (hn q.1).trans q
  · rename_i h1
    have q := rdPl_back hb h
    rw [if_neg h1]
    have e : encOpd ⟨(u : Int), 0, (rdPl b s1).1⟩ = vput u ++ encPl (rdPl b s1).1 := by
      unfold encOpd; rw [if_neg (by dsimp only; omega)]; simp
    dsimp only
    rw [e]
    exact (hn q.1).trans q
theorem rdRv_back {b : List Nat} {s : RS} (hb : ∀ x ∈ b, x < 256) (h : (rdRv b s).2.e = 0) : Was b s (rdRv b s).2 (encRv (rdRv b s).1) := by
  have hl := rdNum_le (b := b) (lo := 1) (hi := 5) (s := s) (by omega)
  have hn := rdNum_back (s := s) (lo := 1) (hi := 5) hb
  unfold rdRv at h ⊢
  generalize rdNum b 1 5 s = q at h hl hn ⊢
  obtain ⟨u, s1⟩ := q
  dsimp only at h hl hn ⊢
  by_cases h1 : u = 1
  · subst h1
    rw [if_pos rfl] at h ⊢
    dsimp only at h ⊢
    have q := rdOpd_back hb h
    have := (hn q.1).trans q
    simpa [encRv] using this
  rw [if_neg h1] at h ⊢
  by_cases h2 : u = 2
  · subst h2
    rw [if_pos rfl] at h ⊢
    dsimp only at h ⊢
    have q3 := rdOpd_back hb h
    have q2 := rdOpd_back hb q3.1
    have q1 := rdNum_back hb q2.1
    have := (hn q1.1).trans (q1.trans (q2.trans q3))
    simpa [encRv] using this
  rw [if_neg h2] at h ⊢
  by_cases h3 : u = 3
  · subst h3
    rw [if_pos rfl] at h ⊢
    dsimp only at h ⊢
    have q3 := rdOpd_back hb h
    have q2 := rdOpd_back hb q3.1
    have := (hn q2.1).trans (q2.trans q3)
    simpa [encRv] using this
  rw [if_neg h3] at h ⊢
  by_cases h4 : u = 4
  · subst h4
    rw [if_pos rfl] at h ⊢
    dsimp only at h ⊢
    have q3 := rdPl_back hb h
    have q2 := rdNum_back hb q3.1
    have := (hn q2.1).trans (q2.trans q3)
    simpa [encRv] using this
  rw [if_neg h4] at h ⊢
  obtain rfl : u = 5 := by omega
  dsimp only at h ⊢
  have q := rdPl_back hb h
  have := (hn q.1).trans q
  simpa [encRv] using this
theorem rdSt_back {b : List Nat} {s : RS} (hb : ∀ x ∈ b, x < 256) (h : (rdSt b s).2.e = 0) : Was b s (rdSt b s).2 (encSt (rdSt b s).1) := by
  have hl := rdNum_le (b := b) (lo := 1) (hi := 4) (s := s) (by omega)
  have hn := rdNum_back (s := s) (lo := 1) (hi := 4) hb
  unfold rdSt at h ⊢
  generalize rdNum b 1 4 s = q at h hl hn ⊢
  obtain ⟨u, s1⟩ := q
  dsimp only at h hl hn ⊢
  by_cases h1 : u = 1
  · subst h1
    rw [if_pos rfl] at h ⊢
    dsimp only at h ⊢
    have q3 := rdRv_back hb h
    have q2 := rdPl_back hb q3.1
    have := (hn q2.1).trans (q2.trans q3)
    simpa [encSt] using this
  rw [if_neg h1] at h ⊢
  by_cases h3 : u = 3
  · subst h3
    rw [if_pos rfl] at h ⊢
    dsimp only at h ⊢
    have q := rdNum_back hb h
    have := (hn q.1).trans q
    simpa [encSt] using this
  rw [if_neg h3] at h ⊢
  dsimp only at h ⊢
  have q := rdOpd_back hb h
  have := (hn q.1).trans q
  have e : ∀ p r a l, encSt ⟨(u : Int), p, r, a, l⟩ = vput u ++ encOpd a := fun p r a l => by
    unfold encSt; rw [if_neg (by dsimp only; omega), if_neg (by dsimp only; omega)]; simp
  rw [e]
  exact this
theorem rdTy_back {b : List Nat} {s : RS} (hb : ∀ x ∈ b, x < 256) (h : (rdTy b s).2.e = 0) : Was b s (rdTy b s).2 (encTy (rdTy b s).1) := by
  have hl := rdNum_le (b := b) (lo := 0) (hi := 7) (s := s) (by omega)
  have q := rdNum_back (lo := 0) (hi := 7) hb h
  have e : encTy (rdTy b s).1 = vput (rdNum b 0 7 s).1 := by
    unfold rdTy encTy
    rw [tyNum_with (k := (rdNum b 0 7 s).1) (by omega) rfl]; simp
  rw [e]
  exact q
theorem rdJu_back {b : List Nat} {s : RS} (hb : ∀ x ∈ b, x < 256) (h : (rdJu b s).2.e = 0) : Was b s (rdJu b s).2 (encJu (rdJu b s).1) := by
  have hl := rdNum_le (b := b) (lo := 1) (hi := 5) (s := s) (by omega)
  have hn := rdNum_back (s := s) (lo := 1) (hi := 5) hb
  unfold rdJu at h ⊢
  generalize rdNum b 1 5 s = q at h hl hn ⊢
  obtain ⟨u, s1⟩ := q
  dsimp only at h hl hn ⊢
  by_cases h1 : u = 1
  · subst h1
    rw [if_pos rfl] at h ⊢
    dsimp only at h ⊢
    have q := rdNum_back hb h
    have := (hn q.1).trans q
    simpa [encJu] using this
  rw [if_neg h1] at h ⊢
  by_cases h2 : u = 2
  · subst h2
    rw [if_pos rfl] at h ⊢
    dsimp only at h ⊢
    have q3 := rdNum_back hb h
    have q2 := rdNum_back hb q3.1
    have q1 := rdOpd_back hb q2.1
    have := (hn q1.1).trans (q1.trans (q2.trans q3))
    simpa [encJu] using this
  rw [if_neg h2] at h ⊢
  by_cases h4 : u = 4
  · subst h4
    rw [if_pos rfl] at h ⊢
    dsimp only at h ⊢
    have q5 := rdNum_back hb h
    have q4 := rdPl_back hb q5.1
    have q3 := rdL_back (fun s hs => rdOpd_back hb hs) _ _ q4.1
    have q2 := rdNum_back hb q3.1.1
    have q1 := rdNum_back hb q2.1
    have := (hn q1.1).trans (q1.trans (q2.trans (q3.1.trans (q4.trans q5))))
    have e := q3.2
    generalize rdL (rdOpd b) (rdNum b 0 8 (rdNum b 0 7 s1).2).1 (rdNum b 0 8 (rdNum b 0 7 s1).2).2 = ql at *
    rw [← e] at this
    simpa [encJu, encOps] using this
  rw [if_neg h4] at h ⊢
  dsimp only at h ⊢
  have e : ∀ a f x y r p, encJu ⟨(u : Int), a, f, x, y, r, p⟩ = vput u := fun a f x y r p => by
    unfold encJu; rw [if_neg (by dsimp only; omega), if_neg (by dsimp only; omega), if_neg (by dsimp only; omega)]; simp
  rw [e]
  exact hn h
theorem rdBk_back {b : List Nat} {s : RS} (hb : ∀ x ∈ b, x < 256) (h : (rdBk b s).2.e = 0) : Was b s (rdBk b s).2 (encBk (rdBk b s).1) := by
  unfold rdBk at h ⊢
  dsimp only at h ⊢
  have q3 := rdJu_back hb h
  have q2 := rdL_back (fun s hs => rdSt_back hb hs) _ _ q3.1
  have q1 := rdNum_back hb q2.1.1
  have := q1.trans (q2.1.trans q3)
  have e := q2.2
  unfold encBk
  dsimp only
  rw [e]
  exact this
theorem rdFn_back {b : List Nat} {s : RS} (hb : ∀ x ∈ b, x < 256) (h : (rdFn b s).2.e = 0) : Was b s (rdFn b s).2 (encFn (rdFn b s).1) := by
  unfold rdFn at h ⊢
  dsimp only at h ⊢
  have q6 := rdL_back (fun s hs => rdBk_back hb hs) _ _ h
  have q5 := rdNum_back hb q6.1.1
  have q4 := rdL_back (fun s hs => rdTy_back hb hs) _ _ q5.1
  have q3 := rdNum_back hb q4.1.1
  have q2 := rdNum_back hb q3.1
  have q1 := rdNum_back hb q2.1
  have hu := (rdNum_le (b := b) (lo := 0) (hi := 1) (s := (rdNum b 0 8 s).2) (by omega)).2
  have this := q1.trans (q2.trans (q3.trans (q4.1.trans (q5.trans q6.1))))
  have e4 := q4.2
  have e6 := q6.2
  unfold encFn
  dsimp only
  rw [e4, e6]
  have e1 : (if decide ((rdNum b 0 1 (rdNum b 0 8 s).2).1 = 1) = true then 1 else 0) = (rdNum b 0 1 (rdNum b 0 8 s).2).1 := by
    by_cases hq : (rdNum b 0 1 (rdNum b 0 8 s).2).1 = 1
    · rw [decide_eq_true hq, if_pos rfl, hq]
    · rw [decide_eq_false hq, if_neg (by simp)]; omega
  rw [e1]
  exact this
theorem rdPr_back {b : List Nat} (hb : ∀ x ∈ b, x < 256) (h : (rdPr b).2.e = 0) : b = encPr ⟨(rdPr b).1⟩ ++ b.drop (rdPr b).2.at' := by
  unfold rdPr at h ⊢
  have q2 := rdL_back (fun s hs => rdFn_back hb hs) _ _ h
  have q1 := rdNum_back hb q2.1.1
  have this := (q1.trans q2.1).2
  have e := q2.2
  unfold encPr
  dsimp only at this ⊢
  rw [e]
  exact this
/-- A program that is read has just these bytes. -/
theorem decPr_back {b : List Nat} (hb : ∀ x ∈ b, x < 256) (h : (decPr b).2 = 0) : b = encPr (decPr b).1 ∧ prErr (decPr b).1 = 0 := by
  have hb2 := rdPr_back hb
  unfold decPr at h ⊢
  split at h
  · simp at h
  rename_i h0
  rw [if_neg h0]
  split at h
  · rename_i h1; exact absurd h h1
  rename_i h1
  rw [if_neg h1]
  split at h
  · simp at h
  rename_i h2
  rw [if_neg h2]
  split at h
  · rename_i h3; exact absurd h h3
  rename_i h3
  rw [if_neg h3]
  have q := hb2 (by omega)
  rw [List.drop_of_length_le (by omega), List.append_nil] at q
  exact ⟨q, by dsimp only; omega⟩
theorem fn_some {f : Fn} (h : fnErr f = 0) : 1 ≤ f.locals.length ∧ 1 ≤ f.blocks.length := by
  obtain ⟨h1, h2, _⟩ := fn_good h
  unfold madeB fnHead at h2
  simp only [Bool.and_eq_true, decide_eq_true_eq] at h2
  exact ⟨h2.1.1.1.1.1.1.1, h2.1.2⟩
theorem pr_some {p : Pr} (h : prErr p = 0) : (1 ≤ p.funcs.length ∧ p.funcs.length ≤ 8) ∧ ∀ f ∈ p.funcs, fnErr f = 0 := by
  unfold prErr at h
  split at h
  · simp at h
  split at h
  · simp at h
  split at h
  · rename_i h3; exact absurd h h3
  rename_i h1 h2 h3
  exact ⟨by omega, fnsErr_all (by omega)⟩
theorem decPr_put {p : Pr} (h : prErr p = 0) (hk : ∀ f ∈ p.funcs, okFn f) (hl : (encPr p).length ≤ 4000) : decPr (encPr p) = (p, 0) := by
  obtain ⟨h1, h2⟩ := pr_some h
  have q := rdPr_put (p := p) (r := []) h1 (fun f hf => ⟨hk f hf, fn_some (h2 f hf)⟩)
  rw [List.append_nil] at q
  unfold decPr
  rw [if_neg (by omega), q]
  dsimp only
  rw [if_neg (by simp), if_neg (by omega), if_neg (by simpa using h)]
/-- Another list of bytes is another program, or none. -/
theorem decPr_other {p : Pr} {b : List Nat} (hb : ∀ x ∈ b, x < 256) (hne : b ≠ encPr p) (h : (decPr b).2 = 0) : (decPr b).1 ≠ p := by
  intro e
  have := (decPr_back hb h).1
  rw [e] at this
  exact hne this
/-- With more bytes behind them: ErrMore. -/
theorem decPr_more {p : Pr} {r : List Nat} (h : prErr p = 0) (hk : ∀ f ∈ p.funcs, okFn f) (hl : (encPr p ++ r).length ≤ 4000) (hr : r ≠ []) : decPr (encPr p ++ r) = (⟨[]⟩, 38) := by
  obtain ⟨h1, h2⟩ := pr_some h
  have q := rdPr_put (p := p) (r := r) h1 (fun f hf => ⟨hk f hf, fn_some (h2 f hf)⟩)
  have hr2 : 0 < r.length := List.length_pos_iff.2 hr
  unfold decPr
  rw [if_neg (by omega), q]
  dsimp only
  rw [if_neg (by simp), if_pos (by rw [List.length_append]; omega)]
theorem decFn_put {f : Fn} {r : List Nat} (h : fnErr f = 0) (hk : okFn f) (hl : (encFn f ++ r).length ≤ 4000) : decFn (encFn f ++ r) = (f, (encFn f).length, 0) := by
  have h1 := fn_some h
  have q := rdFn_put (b := encFn f ++ r) (s := ⟨0, 0⟩) ⟨rfl, r, rfl⟩ hk h1.1 h1.2
  unfold decFn
  rw [if_neg (by omega), q]
  simp [fwd, h]
theorem decFn_back {b : List Nat} (hb : ∀ x ∈ b, x < 256) (h : (decFn b).2.2 = 0) : b = encFn (decFn b).1 ++ b.drop (decFn b).2.1 ∧ fnErr (decFn b).1 = 0 ∧ (decFn b).2.1 ≤ b.length := by
  have hb2 := rdFn_back (s := ⟨0, 0⟩) hb
  have hat := rdFn_at (s := ⟨0, 0⟩) hb (Nat.zero_le _)
  unfold decFn at h ⊢
  split at h
  · simp at h
  rename_i h0
  rw [if_neg h0]
  split at h
  · rename_i h1; exact absurd h h1
  rename_i h1
  rw [if_neg h1]
  split at h
  · rename_i h3; exact absurd h h3
  rename_i h3
  rw [if_neg h3]
  have q := (hb2 (by omega)).2
  rw [List.drop_zero] at q
  exact ⟨q, by dsimp only; omega, hat⟩
end Go.Proofs.Ytafcdabiplcjiaa
