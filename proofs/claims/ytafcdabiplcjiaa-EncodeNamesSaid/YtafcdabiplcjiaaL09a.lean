/- Layer 9, plain: the bytes of functions and programs; none begin others. -/
import Derived.Test.YtafcdabiplcjiaaL06
import Derived.Test.YtafcdabiplcjiaaL01
namespace Go.Proofs.Ytafcdabiplcjiaa
open Go.RowKit
set_option linter.unusedSimpArgs false
set_option linter.unusedVariables false

def encPl (p : Pl) : List Nat := vput (6 * p.loc + p.field + (if p.deref then 3 else 0)).toNat
def encOpd (o : Opd) : List Nat := vput o.kind.toNat ++ (if o.kind = 1 then vput (foldS o.n) else encPl o.pl)
def encOps (l : List Opd) : List Nat := l.flatMap encOpd
def encRv (r : Rv) : List Nat := vput r.kind.toNat ++ (if r.kind = 1 then encOpd r.a else if r.kind = 2 then vput r.op.toNat ++ (encOpd r.a ++ encOpd r.b) else if r.kind = 3 then encOpd r.a ++ encOpd r.b else if r.kind = 4 then vput r.bo.toNat ++ encPl r.pl else encPl r.pl)
def encSt (s : St) : List Nat := vput s.kind.toNat ++ (if s.kind = 1 then encPl s.pl ++ encRv s.r else if s.kind = 3 then vput s.loc.toNat else encOpd s.a)
def encJu (j : Ju) : List Nat := vput j.kind.toNat ++ (if j.kind = 1 then vput j.next.toNat else if j.kind = 2 then encOpd j.a ++ (vput j.next.toNat ++ vput j.els.toNat) else if j.kind = 4 then vput j.fn.toNat ++ (vput j.args.length ++ (encOps j.args ++ (encPl j.dest ++ vput j.next.toNat))) else [])
def encBk (b : Bk) : List Nat := vput b.stmts.length ++ (b.stmts.flatMap encSt ++ encJu b.jump)
def encTy (t : Ty) : List Nat := vput (tyNum t).toNat
def encFn (f : Fn) : List Nat := vput f.params.toNat ++ (vput (if f.uns then 1 else 0) ++ (vput f.locals.length ++ (f.locals.flatMap encTy ++ (vput f.blocks.length ++ f.blocks.flatMap encBk))))
def encPr (p : Pr) : List Nat := vput p.funcs.length ++ p.funcs.flatMap encFn

theorem flatMap_le {α : Type} {f : α → List Nat} {m : Nat} {l : List α} (h : ∀ x ∈ l, (f x).length ≤ m) : (l.flatMap f).length ≤ m * l.length := by
  induction l with
  | nil => simp
  | cons x l ih =>
    have h1 := h x (by simp)
    have h2 := ih (fun y hy => h y (by simp [hy]))
    simp only [List.flatMap_cons, List.length_append, List.length_cons, Nat.mul_add]; omega
theorem flatMap_ge {α : Type} {f : α → List Nat} {l : List α} (h : ∀ x ∈ l, 1 ≤ (f x).length) : l.length ≤ (l.flatMap f).length := by
  induction l with
  | nil => simp
  | cons x l ih =>
    have h1 := h x (by simp)
    have h2 := ih (fun y hy => h y (by simp [hy]))
    simp only [List.flatMap_cons, List.length_append, List.length_cons]; omega
theorem encPl_le (p : Pl) : (encPl p).length ≤ 10 := vput_le _
theorem encOpd_le (o : Opd) : (encOpd o).length ≤ 20 := by
  unfold encOpd
  have h1 := vput_le o.kind.toNat
  have h2 := vput_le (foldS o.n)
  have h3 := encPl_le o.pl
  rw [List.length_append]; split <;> omega
theorem encRv_le (r : Rv) : (encRv r).length ≤ 60 := by
  unfold encRv
  have h1 := vput_le r.kind.toNat
  have h2 := vput_le r.op.toNat
  have h3 := vput_le r.bo.toNat
  have h4 := encPl_le r.pl
  have h5 := encOpd_le r.a
  have h6 := encOpd_le r.b
  rw [List.length_append]; (repeat' split) <;> (try simp only [List.length_append]) <;> omega
theorem encSt_le (s : St) : (encSt s).length ≤ 80 := by
  unfold encSt
  have h1 := vput_le s.kind.toNat
  have h2 := vput_le s.loc.toNat
  have h4 := encPl_le s.pl
  have h5 := encOpd_le s.a
  have h6 := encRv_le s.r
  rw [List.length_append]; (repeat' split) <;> (try simp only [List.length_append]) <;> omega
theorem encOps_le (l : List Opd) : (encOps l).length ≤ 20 * l.length := flatMap_le (fun x _ => encOpd_le x)
theorem encJu_le (j : Ju) : (encJu j).length ≤ 60 + 20 * j.args.length := by
  unfold encJu
  have h1 := vput_le j.kind.toNat
  have h2 := vput_le j.next.toNat
  have h3 := vput_le j.els.toNat
  have h4 := encPl_le j.dest
  have h5 := encOpd_le j.a
  have h6 := vput_le j.fn.toNat
  have h7 := vput_le j.args.length
  have h8 := encOps_le j.args
  rw [List.length_append]; (repeat' split) <;> (try simp only [List.length_append]) <;> (try simp only [List.length_nil]) <;> omega
theorem encBk_le {b : Bk} (h1 : b.stmts.length ≤ 24) (h2 : b.jump.args.length ≤ 8) : (encBk b).length ≤ 3000 := by
  unfold encBk
  have q1 := vput_le b.stmts.length
  have q2 := flatMap_le (l := b.stmts) (fun x _ => encSt_le x)
  have q3 := encJu_le b.jump
  simp only [List.length_append]; omega
theorem encFn_le {f : Fn} (h1 : f.locals.length ≤ 16) (h2 : f.blocks.length ≤ 24) (h3 : ∀ b ∈ f.blocks, b.stmts.length ≤ 24 ∧ b.jump.args.length ≤ 8) : (encFn f).length ≤ 80000 := by
  unfold encFn
  have q1 := vput_le f.params.toNat
  have q2 := vput_le (if f.uns then 1 else 0)
  have q3 := vput_le f.locals.length
  have q4 := vput_le f.blocks.length
  have q5 := flatMap_le (l := f.locals) (f := encTy) (m := 10) (fun x _ => vput_le _)
  have q6 := flatMap_le (l := f.blocks) (f := encBk) (m := 3000) (fun x hx => encBk_le (h3 x hx).1 (h3 x hx).2)
  simp only [List.length_append]; omega
theorem flatMap_byte {α : Type} {f : α → List Nat} {l : List α} (h : ∀ x ∈ l, ∀ y ∈ f x, y < 256) : ∀ y ∈ l.flatMap f, y < 256 := by
  intro y hy; obtain ⟨x, hx, hy⟩ := List.mem_flatMap.1 hy; exact h x hx y hy

/-- No bytes of one begin those of another. -/
def Pf {α : Type} (ok : α → Prop) (enc : α → List Nat) : Prop := ∀ a b s t, ok a → ok b → enc a ++ s = enc b ++ t → a = b ∧ s = t
theorem pf_list {α : Type} {ok : α → Prop} {enc : α → List Nat} (h : Pf ok enc) : ∀ (l m : List α) (s t : List Nat), (∀ x ∈ l, ok x) → (∀ x ∈ m, ok x) → l.length = m.length → l.flatMap enc ++ s = m.flatMap enc ++ t → l = m ∧ s = t
  | [], [], s, t, _, _, _, e => ⟨rfl, by simpa using e⟩
  | a :: l, b :: m, s, t, hl, hm, hn, e => by
    simp only [List.flatMap_cons, List.append_assoc] at e
    obtain ⟨e1, e2⟩ := h a b _ _ (hl a (by simp)) (hm b (by simp)) e
    obtain ⟨e3, e4⟩ := pf_list h l m s t (fun x hx => hl x (by simp [hx])) (fun x hx => hm x (by simp [hx])) (by simpa using hn) e2
    exact ⟨by rw [e1, e3], e4⟩
theorem pf_pl : Pf (fun p => PlOk p ∧ 0 ≤ p.field) encPl := by
  rintro ⟨l, d, f⟩ ⟨l', d', f'⟩ s t ⟨⟨h1, h2, h3⟩, h4⟩ ⟨⟨k1, k2, k3⟩, k4⟩ e
  simp only at h1 h2 h3 h4 k1 k2 k3 k4
  unfold encPl at e
  obtain ⟨e, e'⟩ := vput_pf (by cases d <;> simp <;> omega) (by cases d' <;> simp <;> omega) e
  refine ⟨?_, e'⟩
  cases d <;> cases d' <;> simp at e ⊢ <;> omega
theorem plz_eq {p : Pl} (h : plZ p = true) : p = ⟨0, false, 0⟩ := by
  unfold plZ PlZ at h; simp only [decide_eq_true_eq] at h
  obtain ⟨l, d, f⟩ := p; simp only at h; rw [h.1, h.2.1, h.2.2]
theorem kn {n : Int} (h : U8 n) : n.toNat < 18446744073709551616 := by unfold U8 at h; omega
theorem kn_inj {a b : Int} (ha : U8 a) (hb : U8 b) (h : a.toNat = b.toNat) : a = b := by unfold U8 at ha hb; omega
theorem pf_opd : Pf (fun o => opdErr o = 0 ∧ o.wf) encOpd := by
  rintro ⟨k, n, p⟩ ⟨k', n', p'⟩ s t ⟨h, hw⟩ ⟨h', hw'⟩ e
  rw [opdErr_iff] at h h'
  have a1 := hw.kind; have a2 := hw'.kind; have a3 := hw.n; have a4 := hw'.n
  have a5 := hw.pl.field; have a6 := hw'.pl.field
  simp only [U8] at a1 a2 a5 a6
  unfold encOpd at e
  simp only [List.append_assoc] at e
  obtain ⟨e1, e⟩ := vput_pf (kn hw.kind) (kn hw'.kind) e
  have e1 : k = k' := kn_inj hw.kind hw'.kind e1
  subst e1
  unfold OpdOk at h h'
  simp only at h h'
  by_cases hk : k = 1
  · simp only [hk, if_true] at e
    obtain ⟨e1, e⟩ := vput_pf (foldS_lt a3) (foldS_lt a4) e
    have e1 := foldS_inj e1
    have z1 : PlZ p := by rcases h with h | h; exact h.2; omega
    have z2 : PlZ p' := by rcases h' with h | h; exact h.2; omega
    have z3 : p = ⟨0, false, 0⟩ := plz_eq (by unfold plZ; simpa using z1)
    have z4 : p' = ⟨0, false, 0⟩ := plz_eq (by unfold plZ; simpa using z2)
    have e1 : n = n' := e1
    exact ⟨by rw [e1, z3, z4], e⟩
  · simp only [hk, if_false] at e
    have z1 : n = 0 ∧ PlOk p := by rcases h with h | h; exact absurd h.1 hk; exact h.2
    have z2 : n' = 0 ∧ PlOk p' := by rcases h' with h | h; exact absurd h.1 hk; exact h.2
    obtain ⟨e1, e⟩ := pf_pl p p' s t ⟨z1.2, a5.1⟩ ⟨z2.2, a6.1⟩ e
    exact ⟨by rw [e1, z1.1, z2.1], e⟩
theorem opdz_eq {o : Opd} (h : opdZ o = true) : o = opd0 := by
  unfold opdZ OpdZ PlZ at h; simp only [decide_eq_true_eq] at h
  obtain ⟨k, n, l, d, f⟩ := o; simp only at h; rw [h.1, h.2.1, h.2.2.1, h.2.2.2.1, h.2.2.2.2]
theorem rvz_eq {r : Rv} (h : rvZ r = true) : r = ⟨0, 0, 0, opd0, opd0, ⟨0, false, 0⟩⟩ := by
  unfold rvZ at h; simp only [decide_eq_true_eq] at h
  have ha := opdz_eq (o := r.a) (by unfold opdZ; simpa using h.2.2.2.1)
  have hb := opdz_eq (o := r.b) (by unfold opdZ; simpa using h.2.2.2.2.1)
  have hp := plz_eq (p := r.pl) (by unfold plZ; simpa using h.2.2.2.2.2)
  obtain ⟨k, op, bo, a, b, p⟩ := r; simp only at h ha hb hp; rw [h.1, h.2.1, h.2.2.1, ha, hb, hp]
theorem rvOk_kind {r : Rv} (h : rvOk r = true) : r.kind = 1 ∨ r.kind = 2 ∨ r.kind = 3 ∨ r.kind = 4 ∨ r.kind = 5 := by unfold rvOk at h; grind
theorem pl_ok {p : Pl} (h : plErr p = 0) (hw : p.wf) : PlOk p ∧ 0 ≤ p.field := ⟨(plErr_iff p).1 h, hw.field.1⟩
theorem pf_rv : Pf (fun r => rvOk r = true ∧ r.wf) encRv := by
  rintro ⟨k, op, bo, a, b, p⟩ ⟨k', op', bo', a', b', p'⟩ s t ⟨h, hw⟩ ⟨h', hw'⟩ e
  have hk := rvOk_kind h
  unfold encRv at e
  simp only [List.append_assoc] at e
  obtain ⟨e1, e⟩ := vput_pf (kn hw.kind) (kn hw'.kind) e
  have e1 := kn_inj hw.kind hw'.kind e1
  simp only at e1 hk; subst e1
  have wa := hw.a; have wb := hw.b; have wp := hw.pl; have wo := hw.op; have wc := hw.bo
  have wa' := hw'.a; have wb' := hw'.b; have wp' := hw'.pl; have wo' := hw'.op; have wc' := hw'.bo
  simp only at wa wb wp wo wc wa' wb' wp' wo' wc'
  rcases hk with rfl | rfl | rfl | rfl | rfl
  · simp [rvOk] at h h'
    simp only [if_true] at e
    obtain ⟨e1, e⟩ := pf_opd a a' s t ⟨h.1.1.1.1, wa⟩ ⟨h'.1.1.1.1, wa'⟩ e
    rw [e1, opdz_eq h.1.1.1.2, opdz_eq h'.1.1.1.2, plz_eq h.1.1.2, plz_eq h'.1.1.2, h.1.2, h'.1.2, h.2, h'.2]; exact ⟨rfl, e⟩
  · simp [rvOk] at h h'
    simp only [if_true, show ¬ (2 : Int) = 1 by decide, if_false, List.append_assoc] at e
    obtain ⟨e0, e⟩ := vput_pf (kn wo) (kn wo') e
    have e0 := kn_inj wo wo' e0
    obtain ⟨e1, e⟩ := pf_opd a a' _ _ ⟨h.1.1.1.1.1, wa⟩ ⟨h'.1.1.1.1.1, wa'⟩ e
    obtain ⟨e2, e⟩ := pf_opd b b' s t ⟨h.1.1.1.1.2, wb⟩ ⟨h'.1.1.1.1.2, wb'⟩ e
    rw [e0, e1, e2, plz_eq h.1.1.1.2, plz_eq h'.1.1.1.2, h.2, h'.2]; exact ⟨rfl, e⟩
  · simp [rvOk] at h h'
    simp only [if_true, show ¬ (3 : Int) = 1 by decide, show ¬ (3 : Int) = 2 by decide, if_false, List.append_assoc] at e
    obtain ⟨e1, e⟩ := pf_opd a a' _ _ ⟨h.1.1.1.1, wa⟩ ⟨h'.1.1.1.1, wa'⟩ e
    obtain ⟨e2, e⟩ := pf_opd b b' s t ⟨h.1.1.1.2, wb⟩ ⟨h'.1.1.1.2, wb'⟩ e
    rw [e1, e2, plz_eq h.1.1.2, plz_eq h'.1.1.2, h.1.2, h'.1.2, h.2, h'.2]; exact ⟨rfl, e⟩
  · simp [rvOk] at h h'
    simp only [if_true, show ¬ (4 : Int) = 1 by decide, show ¬ (4 : Int) = 2 by decide, show ¬ (4 : Int) = 3 by decide, if_false, List.append_assoc] at e
    obtain ⟨e0, e⟩ := vput_pf (kn wc) (kn wc') e
    have e0 := kn_inj wc wc' e0
    obtain ⟨e1, e⟩ := pf_pl p p' s t (pl_ok h.1.1.1.2 wp) (pl_ok h'.1.1.1.2 wp') e
    rw [e0, e1, opdz_eq h.1.1.1.1.1, opdz_eq h.1.1.1.1.2, opdz_eq h'.1.1.1.1.1, opdz_eq h'.1.1.1.1.2, h.1.1.2, h'.1.1.2]; exact ⟨rfl, e⟩
  · simp [rvOk] at h h'
    simp only [show ¬ (5 : Int) = 1 by decide, show ¬ (5 : Int) = 2 by decide, show ¬ (5 : Int) = 3 by decide, show ¬ (5 : Int) = 4 by decide, if_false, List.append_assoc] at e
    obtain ⟨e1, e⟩ := pf_pl p p' s t (pl_ok h.1.1.2 wp) (pl_ok h'.1.1.2 wp') e
    rw [e1, opdz_eq h.1.1.1.1, opdz_eq h.1.1.1.2, opdz_eq h'.1.1.1.1, opdz_eq h'.1.1.1.2, h.1.2, h'.1.2, h.2, h'.2]; exact ⟨rfl, e⟩
theorem stOk_kind {s : St} (h : stOk s = true) : s.kind = 1 ∨ s.kind = 2 ∨ s.kind = 4 ∨ s.kind = 3 := by unfold stOk at h; grind
theorem nn_inj {a b : Int} (ha : 0 ≤ a) (hb : 0 ≤ b) (h : a.toNat = b.toNat) : a = b := by omega
theorem pf_st : Pf (fun x => stErr x = 0 ∧ x.wf) encSt := by
  rintro ⟨k, p, r, a, l⟩ ⟨k', p', r', a', l'⟩ s t ⟨h, hw⟩ ⟨h', hw'⟩ e
  rw [stErr_iff] at h h'
  have hk := stOk_kind h
  unfold encSt at e
  simp only [List.append_assoc] at e
  obtain ⟨e1, e⟩ := vput_pf (kn hw.kind) (kn hw'.kind) e
  have e1 := kn_inj hw.kind hw'.kind e1
  simp only at e1 hk; subst e1
  have wa := hw.a; have wr := hw.r; have wp := hw.pl; have wl := hw.loc
  have wa' := hw'.a; have wr' := hw'.r; have wp' := hw'.pl; have wl' := hw'.loc
  simp only at wa wr wp wl wa' wr' wp' wl'
  rcases hk with rfl | rfl | rfl | rfl
  · simp [stOk] at h h'
    simp only [if_true, List.append_assoc] at e
    obtain ⟨e1, e⟩ := pf_pl p p' _ _ (pl_ok h.1.1.1 wp) (pl_ok h'.1.1.1 wp') e
    obtain ⟨e2, e⟩ := pf_rv r r' s t ⟨h.1.1.2, wr⟩ ⟨h'.1.1.2, wr'⟩ e
    rw [e1, e2, opdz_eq h.1.2, opdz_eq h'.1.2, h.2, h'.2]; exact ⟨rfl, e⟩
  · simp [stOk] at h h'
    simp only [show ¬ (2 : Int) = 1 by decide, show ¬ (2 : Int) = 3 by decide, if_false] at e
    obtain ⟨e1, e⟩ := pf_opd a a' s t ⟨h.1.2, wa⟩ ⟨h'.1.2, wa'⟩ e
    rw [e1, plz_eq h.1.1.1, plz_eq h'.1.1.1, rvz_eq h.1.1.2, rvz_eq h'.1.1.2, h.2, h'.2]; exact ⟨rfl, e⟩
  · simp [stOk] at h h'
    simp only [show ¬ (4 : Int) = 1 by decide, show ¬ (4 : Int) = 3 by decide, if_false] at e
    obtain ⟨e1, e⟩ := pf_opd a a' s t ⟨h.1.2, wa⟩ ⟨h'.1.2, wa'⟩ e
    rw [e1, plz_eq h.1.1.1, plz_eq h'.1.1.1, rvz_eq h.1.1.2, rvz_eq h'.1.1.2, h.2, h'.2]; exact ⟨rfl, e⟩
  · simp [stOk] at h h'
    simp only [show ¬ (3 : Int) = 1 by decide, if_false, if_true] at e
    obtain ⟨e1, e⟩ := vput_pf (by omega) (by omega) e
    have e1 : l = l' := by omega
    rw [e1, plz_eq h.1.1.1.1, plz_eq h'.1.1.1.1, rvz_eq h.1.1.1.2, rvz_eq h'.1.1.1.2, opdz_eq h.1.1.2, opdz_eq h'.1.1.2]; exact ⟨rfl, e⟩
theorem juPre_kind {j : Ju} (h : juPre j = true) : j.kind = 1 ∨ j.kind = 2 ∨ j.kind = 3 ∨ j.kind = 5 ∨ j.kind = 4 := by unfold juPre at h; grind
theorem blk_iff {n : Int} (h : blk n = true) : 0 ≤ n ∧ n < 24 := by unfold blk at h; simpa using h
def okJu (j : Ju) : Prop := juErr j = 0 ∧ j.wf ∧ ∀ o ∈ j.args, o.wf
theorem pf_ju : Pf okJu encJu := by
  rintro ⟨k, a, f, n, x, l, d⟩ ⟨k', a', f', n', x', l', d'⟩ s t ⟨h, hw, hl⟩ ⟨h', hw', hl'⟩ e
  rw [juErr_iff] at h h'
  unfold juOk at h h'; simp only [Bool.and_eq_true] at h h'
  obtain ⟨h, ha⟩ := h; obtain ⟨h', ha'⟩ := h'
  have hk := juPre_kind h
  unfold encJu at e
  simp only [List.append_assoc] at e
  obtain ⟨e1, e⟩ := vput_pf (kn hw.kind) (kn hw'.kind) e
  have e1 := kn_inj hw.kind hw'.kind e1
  simp only at e1 hk; subst e1
  have wa := hw.a; have wd := hw.dest
  have wa' := hw'.a; have wd' := hw'.dest
  simp only at wa wd wa' wd' hl hl' ha ha'
  unfold argsOk at ha ha'; simp only [List.all_eq_true, decide_eq_true_eq] at ha ha'
  rcases hk with rfl | rfl | rfl | rfl | rfl
  · simp [juPre] at h h'
    have b1 := blk_iff h.1.2; have b2 := blk_iff h'.1.2
    simp only [if_true] at e
    obtain ⟨e1, e⟩ := vput_pf (by omega) (by omega) e
    rw [nn_inj b1.1 b2.1 e1, h.1.1.1.1.1, h'.1.1.1.1.1, h.1.1.1.1.2, h'.1.1.1.1.2, plz_eq h.1.1.1.2, plz_eq h'.1.1.1.2, opdz_eq h.1.1.2, opdz_eq h'.1.1.2, h.2, h'.2]; exact ⟨rfl, e⟩
  · simp [juPre] at h h'
    have b1 := blk_iff h.1.2; have b2 := blk_iff h'.1.2
    have c1 := blk_iff h.2; have c2 := blk_iff h'.2
    simp only [if_true, show ¬ (2 : Int) = 1 by decide, if_false, List.append_assoc] at e
    obtain ⟨e0, e⟩ := pf_opd a a' _ _ ⟨h.1.1.2, wa⟩ ⟨h'.1.1.2, wa'⟩ e
    obtain ⟨e1, e⟩ := vput_pf (by omega) (by omega) e
    obtain ⟨e2, e⟩ := vput_pf (by omega) (by omega) e
    rw [e0, nn_inj b1.1 b2.1 e1, nn_inj c1.1 c2.1 e2, h.1.1.1.1.1, h'.1.1.1.1.1, h.1.1.1.1.2, h'.1.1.1.1.2, plz_eq h.1.1.1.2, plz_eq h'.1.1.1.2]; exact ⟨rfl, e⟩
  · simp [juPre] at h h'
    simp only [show ¬ (3 : Int) = 1 by decide, show ¬ (3 : Int) = 2 by decide, show ¬ (3 : Int) = 4 by decide, if_false, List.nil_append] at e
    rw [h.1.1.1.1.1, h'.1.1.1.1.1, h.1.1.1.1.2, h'.1.1.1.1.2, plz_eq h.1.1.1.2, plz_eq h'.1.1.1.2, opdz_eq h.1.1.2, opdz_eq h'.1.1.2, h.2, h'.2, h.1.2, h'.1.2]; exact ⟨rfl, e⟩
  · simp [juPre] at h h'
    simp only [show ¬ (5 : Int) = 1 by decide, show ¬ (5 : Int) = 2 by decide, show ¬ (5 : Int) = 4 by decide, if_false, List.nil_append] at e
    rw [h.1.1.1.1.1, h'.1.1.1.1.1, h.1.1.1.1.2, h'.1.1.1.1.2, plz_eq h.1.1.1.2, plz_eq h'.1.1.1.2, opdz_eq h.1.1.2, opdz_eq h'.1.1.2, h.2, h'.2, h.1.2, h'.1.2]; exact ⟨rfl, e⟩
  · simp [juPre] at h h'
    obtain ⟨⟨⟨⟨⟨⟨g1, g2⟩, g3⟩, g4⟩, g5⟩, g6⟩, g7⟩ := h
    obtain ⟨⟨⟨⟨⟨⟨k1, k2⟩, k3⟩, k4⟩, k5⟩, k6⟩, k7⟩ := h'
    have b1 := blk_iff g6; have b2 := blk_iff k6
    simp only [if_true, show ¬ (4 : Int) = 1 by decide, show ¬ (4 : Int) = 2 by decide, if_false, List.append_assoc] at e
    obtain ⟨e0, e⟩ := vput_pf (by omega) (by omega) e
    obtain ⟨e1, e⟩ := vput_pf (by omega) (by omega) e
    obtain ⟨e2, e⟩ := pf_list pf_opd l l' _ _ (fun o ho => ⟨ha o ho, hl o ho⟩) (fun o ho => ⟨ha' o ho, hl' o ho⟩) e1 e
    obtain ⟨e3, e⟩ := pf_pl d d' _ _ (pl_ok g5 wd) (pl_ok k5 wd') e
    obtain ⟨e4, e⟩ := vput_pf (by omega) (by omega) e
    rw [opdz_eq g1, opdz_eq k1, nn_inj g2 k2 e0, e2, e3, nn_inj b1.1 b2.1 e4, g7, k7]; exact ⟨rfl, e⟩
def okBk (b : Bk) : Prop := (∀ s ∈ b.stmts, stErr s = 0 ∧ s.wf) ∧ okJu b.jump ∧ b.stmts.length ≤ 24
theorem pf_bk : Pf okBk encBk := by
  rintro ⟨l, j⟩ ⟨l', j'⟩ s t ⟨h, hj, hn⟩ ⟨h', hj', hn'⟩ e
  simp only at h hj hn h' hj' hn'
  unfold encBk at e
  simp only [List.append_assoc] at e
  obtain ⟨e1, e⟩ := vput_pf (by omega) (by omega) e
  obtain ⟨e2, e⟩ := pf_list pf_st l l' _ _ h h' e1 e
  obtain ⟨e3, e⟩ := pf_ju j j' s t hj hj' e
  rw [e2, e3]; exact ⟨rfl, e⟩
theorem tyOk_cases {a : Ty} (h : TyOk a) : a = ⟨1, 0⟩ ∨ a = ⟨2, 0⟩ ∨ a = ⟨3, 1⟩ ∨ a = ⟨3, 2⟩ ∨ a = ⟨4, 1⟩ ∨ a = ⟨4, 2⟩ ∨ a = ⟨5, 1⟩ ∨ a = ⟨5, 2⟩ := by
  obtain ⟨k, o⟩ := a
  simp only [TyOk, Ty.mk.injEq] at h ⊢; omega
theorem tyNum_inj {a b : Ty} (ha : TyOk a) (hb : TyOk b) (h : (tyNum a).toNat = (tyNum b).toNat) : a = b := by
  rcases tyOk_cases ha with rfl | rfl | rfl | rfl | rfl | rfl | rfl | rfl <;> rcases tyOk_cases hb with rfl | rfl | rfl | rfl | rfl | rfl | rfl | rfl <;> first | rfl | exact absurd h (by decide +kernel)
theorem tyNum_lt (a : Ty) : (tyNum a).toNat < 8 := by unfold tyNum; (repeat' split) <;> simp
theorem pf_ty : Pf TyOk encTy := by
  intro a b s t ha hb e
  obtain ⟨e1, e⟩ := vput_pf (by have := tyNum_lt a; omega) (by have := tyNum_lt b; omega) e
  exact ⟨tyNum_inj ha hb e1, e⟩
def okFn (f : Fn) : Prop := (0 ≤ f.params ∧ f.params ≤ 8) ∧ (∀ t ∈ f.locals, TyOk t) ∧ f.locals.length ≤ 16 ∧ f.blocks.length ≤ 24 ∧ ∀ b ∈ f.blocks, okBk b
theorem pf_fn : Pf okFn encFn := by
  rintro ⟨q, u, l, b⟩ ⟨q', u', l', b'⟩ s t ⟨hq, hl, hn, hm, hb⟩ ⟨hq', hl', hn', hm', hb'⟩ e
  simp only at hq hl hn hm hb hq' hl' hn' hm' hb'
  unfold encFn at e
  simp only [List.append_assoc] at e
  obtain ⟨e1, e⟩ := vput_pf (by omega) (by omega) e
  obtain ⟨e2, e⟩ := vput_pf (by cases u <;> simp) (by cases u' <;> simp) e
  obtain ⟨e3, e⟩ := vput_pf (by omega) (by omega) e
  obtain ⟨e4, e⟩ := pf_list pf_ty l l' _ _ hl hl' e3 e
  obtain ⟨e5, e⟩ := vput_pf (by omega) (by omega) e
  obtain ⟨e6, e⟩ := pf_list pf_bk b b' s t hb hb' e5 e
  have e2 : u = u' := by cases u <;> cases u' <;> simp at e2 ⊢
  rw [nn_inj hq.1 hq'.1 e1, e2, e4, e6]; exact ⟨rfl, e⟩
theorem pf_pr {p q : Pr} {s t : List Nat} (hp : p.funcs.length ≤ 8) (hq : q.funcs.length ≤ 8) (h : ∀ f ∈ p.funcs, okFn f) (h' : ∀ f ∈ q.funcs, okFn f) (e : encPr p ++ s = encPr q ++ t) : p = q ∧ s = t := by
  obtain ⟨l⟩ := p; obtain ⟨l'⟩ := q
  simp only at hp hq h h'
  unfold encPr at e
  simp only [List.append_assoc] at e
  obtain ⟨e1, e⟩ := vput_pf (by omega) (by omega) e
  obtain ⟨e2, e⟩ := pf_list pf_fn l l' s t h h' e1 e
  rw [e2]; exact ⟨rfl, e⟩
end Go.Proofs.Ytafcdabiplcjiaa
