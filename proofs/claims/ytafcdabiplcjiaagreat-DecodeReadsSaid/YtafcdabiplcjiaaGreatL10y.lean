/- Layer 10, plain: the reference's readers, which read on behind an error, beside the program's. -/
import Derived.Test.YtafcdabiplcjiaaGreatL10v
namespace Go.Proofs.YtafcdabiplcjiaaGreat
open Go.RowKit
set_option linter.unusedSimpArgs false
set_option linter.unusedVariables false

/-- The reference's signed number: on an error its place stays. -/
def rqSg (b : List Nat) (s : RS) : Int × RS :=
  if s.e ≠ 0 then (0, s) else if (vget (b.drop s.at')).2.2 ≠ 0 then (0, ⟨s.at', (vget (b.drop s.at')).2.2⟩) else (foldB (vget (b.drop s.at')).1, ⟨s.at' + (vget (b.drop s.at')).2.1, 0⟩)
/-- n elements are read, errors or not. -/
def rqL {α : Type} (rd : RS → α × RS) : Nat → RS → List α × RS
  | 0, s => ([], s)
  | n + 1, s => ((rd s).1 :: (rqL rd n (rd s).2).1, (rqL rd n (rd s).2).2)
def rqOpd (b : List Nat) (s : RS) : Opd × RS :=
  if (rdNum b 1 3 s).1 = 1 then (⟨1, (rqSg b (rdNum b 1 3 s).2).1, ⟨0, false, 0⟩⟩, (rqSg b (rdNum b 1 3 s).2).2)
  else (⟨(rdNum b 1 3 s).1, 0, (rdPl b (rdNum b 1 3 s).2).1⟩, (rdPl b (rdNum b 1 3 s).2).2)
def rqRv (b : List Nat) (s : RS) : Rv × RS :=
  if (rdNum b 1 5 s).1 = 1 then (⟨1, 0, 0, (rqOpd b (rdNum b 1 5 s).2).1, ⟨0, 0, ⟨0, false, 0⟩⟩, ⟨0, false, 0⟩⟩, (rqOpd b (rdNum b 1 5 s).2).2)
  else if (rdNum b 1 5 s).1 = 2 then (⟨2, (rdNum b 1 6 (rdNum b 1 5 s).2).1, 0, (rqOpd b (rdNum b 1 6 (rdNum b 1 5 s).2).2).1, (rqOpd b (rqOpd b (rdNum b 1 6 (rdNum b 1 5 s).2).2).2).1, ⟨0, false, 0⟩⟩, (rqOpd b (rqOpd b (rdNum b 1 6 (rdNum b 1 5 s).2).2).2).2)
  else if (rdNum b 1 5 s).1 = 3 then (⟨3, 0, 0, (rqOpd b (rdNum b 1 5 s).2).1, (rqOpd b (rqOpd b (rdNum b 1 5 s).2).2).1, ⟨0, false, 0⟩⟩, (rqOpd b (rqOpd b (rdNum b 1 5 s).2).2).2)
  else if (rdNum b 1 5 s).1 = 4 then (⟨4, 0, (rdNum b 1 3 (rdNum b 1 5 s).2).1, ⟨0, 0, ⟨0, false, 0⟩⟩, ⟨0, 0, ⟨0, false, 0⟩⟩, (rdPl b (rdNum b 1 3 (rdNum b 1 5 s).2).2).1⟩, (rdPl b (rdNum b 1 3 (rdNum b 1 5 s).2).2).2)
  else (⟨(rdNum b 1 5 s).1, 0, 0, ⟨0, 0, ⟨0, false, 0⟩⟩, ⟨0, 0, ⟨0, false, 0⟩⟩, (rdPl b (rdNum b 1 5 s).2).1⟩, (rdPl b (rdNum b 1 5 s).2).2)
def rqSt (b : List Nat) (s : RS) : St × RS :=
  if (rdNum b 1 4 s).1 = 1 then (⟨1, (rdPl b (rdNum b 1 4 s).2).1, (rqRv b (rdPl b (rdNum b 1 4 s).2).2).1, ⟨0, 0, ⟨0, false, 0⟩⟩, 0⟩, (rqRv b (rdPl b (rdNum b 1 4 s).2).2).2)
  else if (rdNum b 1 4 s).1 = 3 then (⟨3, ⟨0, false, 0⟩, ⟨0, 0, 0, ⟨0, 0, ⟨0, false, 0⟩⟩, ⟨0, 0, ⟨0, false, 0⟩⟩, ⟨0, false, 0⟩⟩, ⟨0, 0, ⟨0, false, 0⟩⟩, (rdNum b 0 15 (rdNum b 1 4 s).2).1⟩, (rdNum b 0 15 (rdNum b 1 4 s).2).2)
  else (⟨(rdNum b 1 4 s).1, ⟨0, false, 0⟩, ⟨0, 0, 0, ⟨0, 0, ⟨0, false, 0⟩⟩, ⟨0, 0, ⟨0, false, 0⟩⟩, ⟨0, false, 0⟩⟩, (rqOpd b (rdNum b 1 4 s).2).1, 0⟩, (rqOpd b (rdNum b 1 4 s).2).2)
def rqJu (b : List Nat) : RS → Ju × RS := bindR (rdNum b 1 5) (fun k => if k = 1 then bindR (rdNum b 0 23) (fun n => retR ⟨1, zOpd, 0, n, 0, [], zPl⟩)
    else if k = 2 then bindR (rqOpd b) (fun a => bindR (rdNum b 0 23) (fun n => bindR (rdNum b 0 23) (fun m => retR ⟨2, a, 0, n, m, [], zPl⟩)))
    else if k = 4 then bindR (rdNum b 0 7) (fun f => bindR (rdNum b 0 8) (fun n => bindR (rqL (rqOpd b) n) (fun l => bindR (rdPl b) (fun d => bindR (rdNum b 0 23) (fun x => retR ⟨4, zOpd, f, x, 0, l, d⟩)))))
    else retR ⟨k, zOpd, 0, 0, 0, [], zPl⟩)
def rqBk (b : List Nat) : RS → Bk × RS := bindR (rdNum b 0 24) (fun n => bindR (rqL (rqSt b) n) (fun l => bindR (rqJu b) (fun j => retR ⟨l, j⟩)))
def rqFn (b : List Nat) : RS → Fn × RS := bindR (rdNum b 0 8) (fun p => bindR (rdNum b 0 1) (fun u => bindR (rdNum b 1 16) (fun n => bindR (rqL (rdTy b) n) (fun l => bindR (rdNum b 1 24) (fun m => bindR (rqL (rqBk b) m) (fun k => retR ⟨p, decide (u = 1), l, k⟩))))))
def rqPr (b : List Nat) : List Fn × RS := bindR (rdNum b 1 8) (fun n => rqL (rqFn b) n) ⟨0, 0⟩
theorem rqOpd_chain (b : List Nat) : rqOpd b = bindR (rdNum b 1 3) (fun k => if k = 1 then bindR (rqSg b) (fun n => retR ⟨1, n, zPl⟩) else bindR (rdPl b) (fun p => retR ⟨k, 0, p⟩)) := by
  funext s; simp only [rqOpd, bindR, ite_at, retR]
theorem rqRv_chain (b : List Nat) : rqRv b = bindR (rdNum b 1 5) (fun k => if k = 1 then bindR (rqOpd b) (fun a => retR ⟨1, 0, 0, a, zOpd, zPl⟩)
    else if k = 2 then bindR (rdNum b 1 6) (fun o => bindR (rqOpd b) (fun a => bindR (rqOpd b) (fun c => retR ⟨2, o, 0, a, c, zPl⟩)))
    else if k = 3 then bindR (rqOpd b) (fun a => bindR (rqOpd b) (fun c => retR ⟨3, 0, 0, a, c, zPl⟩))
    else if k = 4 then bindR (rdNum b 1 3) (fun o => bindR (rdPl b) (fun p => retR ⟨4, 0, o, zOpd, zOpd, p⟩))
    else bindR (rdPl b) (fun p => retR ⟨k, 0, 0, zOpd, zOpd, p⟩)) := by
  funext s; simp only [rqRv, bindR, ite_at, retR]
theorem rqSt_chain (b : List Nat) : rqSt b = bindR (rdNum b 1 4) (fun k => if k = 1 then bindR (rdPl b) (fun p => bindR (rqRv b) (fun r => retR ⟨1, p, r, zOpd, 0⟩))
    else if k = 3 then bindR (rdNum b 0 15) (fun n => retR ⟨3, zPl, zRv, zOpd, n⟩)
    else bindR (rqOpd b) (fun a => retR ⟨k, zPl, zRv, a, 0⟩)) := by
  funext s; simp only [rqSt, bindR, ite_at, retR]

/-- The two readers agree up to the first error, and on the error. -/
structure Sim {α : Type} (rq rd : RS → α × RS) : Prop where
  eq : ∀ s, s.e = 0 → (rq s).2.e = (rd s).2.e ∧ ((rd s).2.e = 0 → rq s = rd s)
  st : ∀ s, s.e ≠ 0 → (rd s).2.e = s.e ∧ (rq s).2.e = s.e
theorem Sim.ret {α : Type} (x : α) : Sim (retR x) (retR x) := ⟨fun s _ => ⟨rfl, fun _ => rfl⟩, fun s _ => ⟨rfl, rfl⟩⟩
theorem Sim.bind {α β : Type} {rq rd : RS → α × RS} {f' f : α → RS → β × RS} (h : Sim rq rd) (g : ∀ a, Sim (f' a) (f a)) : Sim (bindR rq f') (bindR rd f) where
  eq s hs := by
    unfold bindR
    obtain ⟨h1, h2⟩ := h.eq s hs
    by_cases he : (rd s).2.e = 0
    · rw [h2 he]; exact (g _).eq _ he
    · have a := (g (rd s).1).st (rd s).2 he
      have c := (g (rq s).1).st (rq s).2 (by rw [h1]; exact he)
      exact ⟨by rw [c.2, h1, a.1], fun q => absurd (a.1 ▸ q) he⟩
  st s hs := by
    unfold bindR
    obtain ⟨h1, h2⟩ := h.st s hs
    exact ⟨by rw [((g _).st _ (by rw [h1]; exact hs)).1, h1], by rw [((g _).st _ (by rw [h2]; exact hs)).2, h2]⟩
theorem Sim.ite {α : Type} {c : Prop} [Decidable c] {r1' r1 r2' r2 : RS → α × RS} (h1 : Sim r1' r1) (h2 : Sim r2' r2) : Sim (if c then r1' else r2') (if c then r1 else r2) := by
  by_cases h : c
  · rw [if_pos h, if_pos h]; exact h1
  · rw [if_neg h, if_neg h]; exact h2
theorem Sim.list {α : Type} {rq rd : RS → α × RS} (h : Sim rq rd) : ∀ n, Sim (rqL rq n) (rdL rd n)
  | 0 => ⟨fun s _ => ⟨rfl, fun _ => rfl⟩, fun s _ => ⟨rfl, rfl⟩⟩
  | n + 1 => by
    have ih := Sim.list h n
    refine ⟨fun s hs => ?_, fun s hs => ?_⟩
    · obtain ⟨h1, h2⟩ := h.eq s hs
      unfold rdL rqL
      by_cases he : (rd s).2.e = 0
      · rw [if_neg (by simpa using he), h2 he]
        obtain ⟨i1, i2⟩ := ih.eq (rd s).2 he
        exact ⟨i1, fun q => by rw [i2 q]⟩
      · rw [if_pos he]
        have c := ih.st (rq s).2 (by rw [h1]; exact he)
        exact ⟨by dsimp only; rw [c.2, h1], fun q => absurd q he⟩
    · obtain ⟨h1, h2⟩ := h.st s hs
      unfold rdL rqL
      rw [if_pos (by rw [h1]; exact hs)]
      have c := ih.st (rq s).2 (by rw [h2]; exact hs)
      exact ⟨h1, by dsimp only; rw [c.2, h2]⟩
theorem num_sim (b : List Nat) (lo hi : Nat) : Sim (rdNum b lo hi) (rdNum b lo hi) :=
  ⟨fun s _ => ⟨rfl, fun _ => rfl⟩, fun s hs => by unfold rdNum; rw [if_pos hs]; exact ⟨rfl, rfl⟩⟩
theorem sg_sim (b : List Nat) : Sim (rqSg b) (rdSg b) := by
  refine ⟨fun s hs => ?_, fun s hs => by unfold rdSg rqSg; rw [if_pos hs, if_pos hs]; exact ⟨rfl, rfl⟩⟩
  unfold rdSg rqSg
  by_cases h : (vget (b.drop s.at')).2.2 = 0
  · simp [hs, h]
  · simp [hs, h]
theorem pl_sim (b : List Nat) : Sim (rdPl b) (rdPl b) := by
  rw [rdPl_chain]; exact (num_sim b 0 95).bind fun _ => .ret _
theorem opd_sim (b : List Nat) : Sim (rqOpd b) (rdOpd b) := by
  rw [rdOpd_chain, rqOpd_chain]; exact (num_sim b _ _).bind fun _ => .ite ((sg_sim b).bind fun _ => .ret _) ((pl_sim b).bind fun _ => .ret _)
theorem rv_sim (b : List Nat) : Sim (rqRv b) (rdRv b) := by
  rw [rdRv_chain, rqRv_chain]
  have n := num_sim b; have o := opd_sim b; have p := pl_sim b
  exact (n _ _).bind fun _ => .ite (o.bind fun _ => .ret _) (.ite ((n _ _).bind fun _ => o.bind fun _ => o.bind fun _ => .ret _) (.ite (o.bind fun _ => o.bind fun _ => .ret _) (.ite ((n _ _).bind fun _ => p.bind fun _ => .ret _) (p.bind fun _ => .ret _))))
theorem st_sim (b : List Nat) : Sim (rqSt b) (rdSt b) := by
  rw [rdSt_chain, rqSt_chain]
  have n := num_sim b; have o := opd_sim b; have p := pl_sim b; have r := rv_sim b
  exact (n _ _).bind fun _ => .ite (p.bind fun _ => r.bind fun _ => .ret _) (.ite ((n _ _).bind fun _ => .ret _) (o.bind fun _ => .ret _))
theorem ju_sim (b : List Nat) : Sim (rqJu b) (rdJu b) := by
  rw [rdJu_chain]; unfold rqJu
  have n := num_sim b; have o := opd_sim b; have p := pl_sim b
  exact (n _ _).bind fun _ => .ite ((n _ _).bind fun _ => .ret _) (.ite (o.bind fun _ => (n _ _).bind fun _ => (n _ _).bind fun _ => .ret _)
    (.ite ((n _ _).bind fun _ => (n _ _).bind fun m => (o.list m).bind fun _ => p.bind fun _ => (n _ _).bind fun _ => .ret _) (.ret _)))
theorem bk_sim (b : List Nat) : Sim (rqBk b) (rdBk b) := by
  rw [rdBk_chain]; unfold rqBk
  exact (num_sim b _ _).bind fun m => ((st_sim b).list m).bind fun _ => (ju_sim b).bind fun _ => .ret _
theorem ty_sim (b : List Nat) : Sim (rdTy b) (rdTy b) := by
  rw [rdTy_chain]; exact (num_sim b _ _).bind fun _ => .ret _
theorem fn_sim (b : List Nat) : Sim (rqFn b) (rdFn b) := by
  rw [rdFn_chain]; unfold rqFn
  have n := num_sim b
  exact (n _ _).bind fun _ => (n _ _).bind fun _ => (n _ _).bind fun m => ((ty_sim b).list m).bind fun _ => (n _ _).bind fun m => ((bk_sim b).list m).bind fun _ => .ret _
theorem pr_sim (b : List Nat) : (rqPr b).2.e = (rdPr b).2.e ∧ ((rdPr b).2.e = 0 → rqPr b = rdPr b) := by
  rw [rdPr_chain]; unfold rqPr
  exact ((num_sim b _ _).bind fun m => (fn_sim b).list m).eq _ rfl
end Go.Proofs.YtafcdabiplcjiaaGreat
