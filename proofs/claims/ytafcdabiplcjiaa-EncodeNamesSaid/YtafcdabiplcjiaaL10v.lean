/- Layer 10, plain: the readers as chains; bytes that are cut off. Layer 10, plain: functions read one behind the other. -/
import Derived.Test.YtafcdabiplcjiaaL10l
namespace Go.Proofs.Ytafcdabiplcjiaa
open Go.RowKit
set_option linter.unusedSimpArgs false
set_option linter.unusedVariables false

/-- One reader behind the other. -/
def bindR {α β : Type} (rd : RS → α × RS) (f : α → RS → β × RS) : RS → β × RS := fun s => f (rd s).1 (rd s).2
def retR {α : Type} (x : α) : RS → α × RS := fun s => (x, s)
abbrev zOpd : Opd := ⟨0, 0, ⟨0, false, 0⟩⟩
abbrev zPl : Pl := ⟨0, false, 0⟩
abbrev zRv : Rv := ⟨0, 0, 0, zOpd, zOpd, zPl⟩
theorem ite_at {α β : Type} {c : Prop} [Decidable c] (f g : α → β) (x : α) : (if c then f else g) x = if c then f x else g x := by split <;> rfl
theorem rdPl_chain (b : List Nat) : rdPl b = bindR (rdNum b 0 95) (fun n => retR ⟨(n / 6 : Nat), decide (3 ≤ n % 6), (n % 3 : Nat)⟩) := rfl
theorem rdOpd_chain (b : List Nat) : rdOpd b = bindR (rdNum b 1 3) (fun k => if k = 1 then bindR (rdSg b) (fun n => retR ⟨1, n, zPl⟩) else bindR (rdPl b) (fun p => retR ⟨k, 0, p⟩)) := by
  funext s; simp only [rdOpd, bindR, ite_at, retR]
theorem rdRv_chain (b : List Nat) : rdRv b = bindR (rdNum b 1 5) (fun k => if k = 1 then bindR (rdOpd b) (fun a => retR ⟨1, 0, 0, a, zOpd, zPl⟩)
    else if k = 2 then bindR (rdNum b 1 6) (fun o => bindR (rdOpd b) (fun a => bindR (rdOpd b) (fun c => retR ⟨2, o, 0, a, c, zPl⟩)))
    else if k = 3 then bindR (rdOpd b) (fun a => bindR (rdOpd b) (fun c => retR ⟨3, 0, 0, a, c, zPl⟩))
    else if k = 4 then bindR (rdNum b 1 3) (fun o => bindR (rdPl b) (fun p => retR ⟨4, 0, o, zOpd, zOpd, p⟩))
    else bindR (rdPl b) (fun p => retR ⟨k, 0, 0, zOpd, zOpd, p⟩)) := by
  funext s; simp only [rdRv, bindR, ite_at, retR]
theorem rdSt_chain (b : List Nat) : rdSt b = bindR (rdNum b 1 4) (fun k => if k = 1 then bindR (rdPl b) (fun p => bindR (rdRv b) (fun r => retR ⟨1, p, r, zOpd, 0⟩))
    else if k = 3 then bindR (rdNum b 0 15) (fun n => retR ⟨3, zPl, zRv, zOpd, n⟩)
    else bindR (rdOpd b) (fun a => retR ⟨k, zPl, zRv, a, 0⟩)) := by
  funext s; simp only [rdSt, bindR, ite_at, retR]
theorem rdTy_chain (b : List Nat) : rdTy b = bindR (rdNum b 0 7) (fun n => retR (tyWith n)) := rfl
theorem rdJu_chain (b : List Nat) : rdJu b = bindR (rdNum b 1 5) (fun k => if k = 1 then bindR (rdNum b 0 23) (fun n => retR ⟨1, zOpd, 0, n, 0, [], zPl⟩)
    else if k = 2 then bindR (rdOpd b) (fun a => bindR (rdNum b 0 23) (fun n => bindR (rdNum b 0 23) (fun m => retR ⟨2, a, 0, n, m, [], zPl⟩)))
    else if k = 4 then bindR (rdNum b 0 7) (fun f => bindR (rdNum b 0 8) (fun n => bindR (rdL (rdOpd b) n) (fun l => bindR (rdPl b) (fun d => bindR (rdNum b 0 23) (fun x => retR ⟨4, zOpd, f, x, 0, l, d⟩)))))
    else retR ⟨k, zOpd, 0, 0, 0, [], zPl⟩) := by
  funext s; simp only [rdJu, bindR, ite_at, retR]
theorem rdBk_chain (b : List Nat) : rdBk b = bindR (rdNum b 0 24) (fun n => bindR (rdL (rdSt b) n) (fun l => bindR (rdJu b) (fun j => retR ⟨l, j⟩))) := rfl
theorem rdFn_chain (b : List Nat) : rdFn b = bindR (rdNum b 0 8) (fun p => bindR (rdNum b 0 1) (fun u => bindR (rdNum b 1 16) (fun n => bindR (rdL (rdTy b) n) (fun l => bindR (rdNum b 1 24) (fun m => bindR (rdL (rdBk b) m) (fun k => retR ⟨p, decide (u = 1), l, k⟩)))))) := rfl
theorem rdPr_chain (b : List Nat) : rdPr b = bindR (rdNum b 1 8) (fun n => rdL (rdFn b) n) ⟨0, 0⟩ := rfl

/-- A reader of the first bytes of those that another one reads. -/
structure Lock {α : Type} (rd' rd : RS → α × RS) : Prop where
  eq : ∀ s, rd' s = rd s ∨ (rd' s).2.e = 24
  st : ∀ s, s.e = 24 → (rd' s).2.e = 24
theorem Lock.ret {α : Type} (x : α) : Lock (retR x) (retR x) := ⟨fun s => Or.inl rfl, fun s h => h⟩
theorem Lock.bind {α β : Type} {rd' rd : RS → α × RS} {f' f : α → RS → β × RS} (h : Lock rd' rd) (g : ∀ a, Lock (f' a) (f a)) : Lock (bindR rd' f') (bindR rd f) where
  eq s := by
    unfold bindR
    rcases h.eq s with e | e
    · rw [e]; exact (g _).eq _
    · exact Or.inr ((g _).st _ e)
  st s hs := (g _).st _ (h.st s hs)
theorem Lock.ite {α : Type} {c : Prop} [Decidable c] {r1' r1 r2' r2 : RS → α × RS} (h1 : Lock r1' r1) (h2 : Lock r2' r2) : Lock (if c then r1' else r2') (if c then r1 else r2) := by
  by_cases h : c
  · rw [if_pos h, if_pos h]; exact h1
  · rw [if_neg h, if_neg h]; exact h2
theorem Lock.list {α : Type} {rd' rd : RS → α × RS} (h : Lock rd' rd) : ∀ n, Lock (rdL rd' n) (rdL rd n)
  | 0 => ⟨fun s => Or.inl rfl, fun s hs => hs⟩
  | n + 1 => by
    have ih := Lock.list h n
    refine ⟨fun s => ?_, fun s hs => ?_⟩
    · unfold rdL
      rcases h.eq s with e | e
      · rw [e]
        split
        · exact Or.inl rfl
        · rcases ih.eq (rd s).2 with e2 | e2
          · rw [e2]; exact Or.inl rfl
          · exact Or.inr e2
      · rw [if_pos (by omega)]; exact Or.inr e
    · unfold rdL
      have e := h.st s hs
      rw [if_pos (by omega)]; exact e
theorem vgetL_cut : ∀ (l : List Nat) (m i acc : Nat), vgetL i acc (l.take m) = vgetL i acc l ∨ (vgetL i acc (l.take m)).2.2 = 24
  | [], m, i, acc => by simp
  | c :: r, 0, i, acc => by simp [vgetL]
  | c :: r, m + 1, i, acc => by
    rw [List.take_succ_cons, vgetL, vgetL]
    split
    · exact Or.inl rfl
    · split
      · exact Or.inl rfl
      · exact vgetL_cut r m _ _
theorem vget_cut (b : List Nat) (k i : Nat) : vget ((b.take k).drop i) = vget (b.drop i) ∨ (vget ((b.take k).drop i)).2.2 = 24 := by
  rw [List.drop_take]; exact vgetL_cut _ _ _ _
theorem num_lock (b : List Nat) (k lo hi : Nat) : Lock (rdNum (b.take k) lo hi) (rdNum b lo hi) where
  eq s := by
    unfold rdNum
    split
    · exact Or.inl rfl
    · rcases vget_cut b k s.at' with e | e
      · rw [e]; exact Or.inl rfl
      · rw [if_pos (by omega)]; exact Or.inr e
  st s hs := by unfold rdNum; rw [if_pos (by omega)]; exact hs
theorem sg_lock (b : List Nat) (k : Nat) : Lock (rdSg (b.take k)) (rdSg b) where
  eq s := by
    unfold rdSg
    split
    · exact Or.inl rfl
    · rcases vget_cut b k s.at' with e | e
      · rw [e]; exact Or.inl rfl
      · rw [if_pos (by omega)]; exact Or.inr e
  st s hs := by unfold rdSg; rw [if_pos (by omega)]; exact hs
theorem pl_lock (b : List Nat) (k : Nat) : Lock (rdPl (b.take k)) (rdPl b) := by
  rw [rdPl_chain, rdPl_chain]; exact (num_lock b k 0 95).bind fun _ => .ret _
theorem opd_lock (b : List Nat) (k : Nat) : Lock (rdOpd (b.take k)) (rdOpd b) := by
  rw [rdOpd_chain, rdOpd_chain]; exact (num_lock b k _ _).bind fun _ => .ite ((sg_lock b k).bind fun _ => .ret _) ((pl_lock b k).bind fun _ => .ret _)
theorem rv_lock (b : List Nat) (k : Nat) : Lock (rdRv (b.take k)) (rdRv b) := by
  rw [rdRv_chain, rdRv_chain]
  have n := num_lock b k; have o := opd_lock b k; have p := pl_lock b k
  exact (n _ _).bind fun _ => .ite (o.bind fun _ => .ret _) (.ite ((n _ _).bind fun _ => o.bind fun _ => o.bind fun _ => .ret _) (.ite (o.bind fun _ => o.bind fun _ => .ret _) (.ite ((n _ _).bind fun _ => p.bind fun _ => .ret _) (p.bind fun _ => .ret _))))
theorem st_lock (b : List Nat) (k : Nat) : Lock (rdSt (b.take k)) (rdSt b) := by
  rw [rdSt_chain, rdSt_chain]
  have n := num_lock b k; have o := opd_lock b k; have p := pl_lock b k; have r := rv_lock b k
  exact (n _ _).bind fun _ => .ite (p.bind fun _ => r.bind fun _ => .ret _) (.ite ((n _ _).bind fun _ => .ret _) (o.bind fun _ => .ret _))
theorem ju_lock (b : List Nat) (k : Nat) : Lock (rdJu (b.take k)) (rdJu b) := by
  rw [rdJu_chain, rdJu_chain]
  have n := num_lock b k; have o := opd_lock b k; have p := pl_lock b k
  exact (n _ _).bind fun _ => .ite ((n _ _).bind fun _ => .ret _) (.ite (o.bind fun _ => (n _ _).bind fun _ => (n _ _).bind fun _ => .ret _)
    (.ite ((n _ _).bind fun _ => (n _ _).bind fun m => (o.list m).bind fun _ => p.bind fun _ => (n _ _).bind fun _ => .ret _) (.ret _)))
theorem bk_lock (b : List Nat) (k : Nat) : Lock (rdBk (b.take k)) (rdBk b) := by
  rw [rdBk_chain, rdBk_chain]
  exact (num_lock b k _ _).bind fun m => ((st_lock b k).list m).bind fun _ => (ju_lock b k).bind fun _ => .ret _
theorem ty_lock (b : List Nat) (k : Nat) : Lock (rdTy (b.take k)) (rdTy b) := by
  rw [rdTy_chain, rdTy_chain]; exact (num_lock b k _ _).bind fun _ => .ret _
theorem fn_lock (b : List Nat) (k : Nat) : Lock (rdFn (b.take k)) (rdFn b) := by
  rw [rdFn_chain, rdFn_chain]
  have n := num_lock b k
  exact (n _ _).bind fun _ => (n _ _).bind fun _ => (n _ _).bind fun m => ((ty_lock b k).list m).bind fun _ => (n _ _).bind fun m => ((bk_lock b k).list m).bind fun _ => .ret _
theorem pr_lock (b : List Nat) (k : Nat) : rdPr (b.take k) = rdPr b ∨ (rdPr (b.take k)).2.e = 24 := by
  rw [rdPr_chain, rdPr_chain]
  exact ((num_lock b k _ _).bind fun m => (fn_lock b k).list m).eq _
theorem rdPr_at {b : List Nat} (hb : ∀ x ∈ b, x < 256) : (rdPr b).2.at' ≤ b.length := by
  unfold rdPr
  exact rdL_at (fun s hs => rdFn_at hb hs) _ _ (rdNum_at hb (Nat.zero_le _))
/-- A program's bytes, cut off: ErrShort. -/
theorem decPr_cut {p : Pr} {k : Nat} (h : prErr p = 0) (hk : ∀ f ∈ p.funcs, okFn f) (hl : (encPr p).length ≤ 4000) (hlt : k < (encPr p).length) : decPr ((encPr p).take k) = (⟨[]⟩, 24) := by
  obtain ⟨h1, h2⟩ := pr_some h
  have q := rdPr_put (p := p) (r := []) h1 (fun f hf => ⟨hk f hf, fn_some (h2 f hf)⟩)
  rw [List.append_nil] at q
  have hb : ∀ x ∈ (encPr p).take k, x < 256 := fun x hx => encPr_byte h1.2 hk x (List.mem_of_mem_take hx)
  have ha := rdPr_at hb
  rw [List.length_take] at ha
  rcases pr_lock (encPr p) k with e | e
  · rw [e, q] at ha; dsimp only at ha; omega
  · unfold decPr
    rw [if_neg (by rw [List.length_take]; omega), if_pos (by omega), e]
theorem vput_one {n : Nat} (h : n < 128) : vput n = [n] := by unfold vput; rw [vputF, if_pos h]
theorem funcs_step {q ps : List Fn} {l : List Nat} (hq : ∀ f ∈ q, okFn f) (hp : ∀ f ∈ ps, okFn f) (hlt : q.length < ps.length) (h : q.flatMap encFn ++ l = ps.flatMap encFn) :
    ∃ f rest, ps = q ++ f :: rest ∧ l = encFn f ++ rest.flatMap encFn := by
  have e : ps = ps.take q.length ++ ps.drop q.length := (List.take_append_drop _ _).symm
  have h2 : q.flatMap encFn ++ l = (ps.take q.length).flatMap encFn ++ (ps.drop q.length).flatMap encFn := by
    rw [← List.flatMap_append, List.take_append_drop]; exact h
  obtain ⟨h3, h4⟩ := pf_list pf_fn q (ps.take q.length) l _ hq (fun x hx => hp x (List.mem_of_mem_take hx)) (by rw [List.length_take]; omega) h2
  have hd : ps.drop q.length = ps[q.length] :: ps.drop (q.length + 1) := List.drop_eq_getElem_cons hlt
  refine ⟨ps[q.length], ps.drop (q.length + 1), ?_, ?_⟩
  · rw [← hd]; rw [← h3] at e; exact e
  · rw [h4, hd, List.flatMap_cons]
theorem dec_head {b : List Nat} {b0 : Nat} {r : List Nat} (hb : ∀ x ∈ b, x < 256) (e : b = b0 :: r) (h : (decPr b).2 = 0) : b0 = (decPr b).1.funcs.length ∧ 1 ≤ b0 ∧ b0 ≤ 8 ∧ r = (decPr b).1.funcs.flatMap encFn := by
  obtain ⟨h1, h2⟩ := decPr_back hb h
  obtain ⟨⟨h3, h4⟩, _⟩ := pr_some h2
  unfold encPr at h1
  rw [vput_one (by omega)] at h1
  rw [e] at h1
  simp only [List.cons_append, List.nil_append, List.cons.injEq] at h1
  rw [e] at h3 h4 ⊢
  exact ⟨h1.1, by rw [h1.1]; exact h3, by rw [h1.1]; exact h4, h1.2⟩
/-- The first byte is no number of functions. -/
theorem decFuncs_none {b : List Nat} {b0 : Nat} {r : List Nat} (hb : ∀ x ∈ b, x < 256) (e : b = b0 :: r) (h : b0 < 1 ∨ 8 < b0) : (decPr b).2 ≠ 0 := fun h0 => by
  obtain ⟨_, h1, h2, _⟩ := dec_head hb e h0; omega
/-- If the program is read, its next function is. -/
theorem decFuncs_next {b : List Nat} {b0 : Nat} {q : List Fn} {l : List Nat} (hb : ∀ x ∈ b, x < 256) (h : (decPr b).2 = 0) (hp : ∀ f ∈ (decPr b).1.funcs, okFn f) (hq : ∀ f ∈ q, okFn f)
    (e : b = b0 :: (q.flatMap encFn ++ l)) (hi : q.length < b0) (hl : b.length ≤ 4000) : (decFn l).2.2 = 0 := by
  obtain ⟨h1, h2, h3, h4⟩ := dec_head hb e h
  obtain ⟨f, rest, h5, h6⟩ := funcs_step hq hp (by omega) h4
  have hE := (pr_some (decPr_back hb h).2).2 f (by rw [h5]; simp)
  have hL : l.length ≤ 4000 := by rw [e] at hl; simp at hl; omega
  have := decFn_put (r := rest.flatMap encFn) hE (hp f (by rw [h5]; simp)) (by rw [← h6]; exact hL)
  rw [← h6] at this
  rw [this]
theorem encFn_pos1 (f : Fn) : 1 ≤ (encFn f).length := by
  unfold encFn; rw [List.length_append]; have := vput_pos f.params.toNat; omega
/-- A function is read: how its bytes lie. -/
theorem decFn_split {l : List Nat} (hb : ∀ x ∈ l, x < 256) (h : (decFn l).2.2 = 0) : l = encFn (decFn l).1 ++ l.drop (decFn l).2.1 ∧ 1 ≤ (decFn l).2.1 ∧ (decFn l).2.1 ≤ l.length ∧ fnErr (decFn l).1 = 0 := by
  obtain ⟨h1, h2, h3⟩ := decFn_back hb h
  refine ⟨h1, ?_, h3, h2⟩
  have e := congrArg List.length h1
  rw [List.length_append, List.length_drop] at e
  have := encFn_pos1 (decFn l).1
  omega
/-- All functions are read. -/
theorem decFuncs_end {b : List Nat} {q : List Fn} {l : List Nat} (hn : 1 ≤ q.length ∧ q.length ≤ 8) (hq : ∀ f ∈ q, okFn f ∧ fnErr f = 0) (e : b = q.length :: (q.flatMap encFn ++ l)) (hl : b.length ≤ 4000) :
    (l ≠ [] → decPr b = (⟨[]⟩, 38)) ∧ (l = [] → decPr b = if prErr ⟨q⟩ ≠ 0 then (⟨[]⟩, prErr ⟨q⟩) else (⟨q⟩, 0)) := by
  have e2 : b = encPr ⟨q⟩ ++ l := by unfold encPr; rw [vput_one (by dsimp only; omega), e]; simp
  have h := rdPr_put (p := ⟨q⟩) (r := l) hn (fun f hf => ⟨(hq f hf).1, fn_some (hq f hf).2⟩)
  rw [← e2] at h
  have hlen : b.length = (encPr ⟨q⟩).length + l.length := by rw [e2, List.length_append]
  constructor
  · intro hne
    have := List.length_pos_iff.2 hne
    unfold decPr
    rw [if_neg (by omega), h]
    dsimp only
    rw [if_neg (by simp), if_pos (by omega)]
  · intro he
    subst he
    simp at hlen
    unfold decPr
    rw [if_neg (by omega), h]
    dsimp only
    rw [if_neg (by simp), if_neg (by omega)]
end Go.Proofs.Ytafcdabiplcjiaa
