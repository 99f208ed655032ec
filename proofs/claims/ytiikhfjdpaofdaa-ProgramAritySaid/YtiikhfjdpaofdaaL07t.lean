/- Layer 7, the reference: blocks that are well made. -/
import Derived.Test.YtiikhfjdpaofdaaL07s
namespace Go.Proofs.Ytiikhfjdpaofdaa
open Go.RowKit
set_option linter.unusedSimpArgs false
set_option linter.unusedVariables false

theorem wrap_nat (m : Nat) (h : m ≤ 1000000) : wrap64 (m : Int) = m := by unfold wrap64; omega
/-- A local that is not below c occurs. -/
def farL (l : List Int) (c : Nat) : Bool := (List.range 16).any (fun t => decide (c ≤ t) && decide (0 < cw l t))
theorem farL_no {l : List Int} {c : Nat} (h : ∀ t, t < 16 → c ≤ t → cw l t ≤ 0) : farL l c = false := by
  unfold farL; rw [List.any_eq_false]; intro t ht; simp only [Bool.and_eq_true, decide_eq_true_eq, not_and]; intro hc; have := h t (List.mem_range.1 ht) hc; omega
theorem farL_yes {l : List Int} {c t : Nat} (ht : t < 16) (hc : c ≤ t) (h : 0 < cw l t) : farL l c = true := by
  unfold farL; rw [List.any_eq_true]; exact ⟨t, List.mem_range.2 ht, by simp [hc, h]⟩
set_option maxHeartbeats 1000000 in
theorem ref07_far (l : List Int) (c : Nat) (w : World) (hc : c ≤ 9223372036854775807) :
    Calls Try.prog 122 #[.agg (cnt16 l), .int .i64 c] w (Ret w (.bool (farL l c))) := by
  go_enter Try.func122, Try.ntmps122
  go_wp2_with fail
  go_loopw [5] (fun i wr => ∃ (q : Nat), c ≤ q ∧ i = .int .i64 q ∧ Grow (w.alloc (.cells (cnt16 l) 124)) wr ∧ q ≤ 9223372036854775807 ∧ Hid (∀ t, t < q → t < 16 → c ≤ t → cw l t ≤ 0)) (fun i _ => 16 - (intOf i).toNat)
  case atStart => exact ⟨c, Nat.le_refl _, rfl, (by (repeat (first | (with_reducible exact Grow.refl _) | assumption | refine Grow.ext ?_ _ | refine Grow.alloc ?_ _ | refine Grow.drew ?_ | refine Grow.setCell ?_ (by first | (simp; done) | (simp; omega)) _ | refine Grow.trans ?_ (by assumption)))), hc, Lib.hid (fun t ht _ hct => absurd ht (by omega))⟩
  case round =>
    obtain ⟨q, hcq, rfl, hb1, hq9, Hq⟩ := hrel
    (obtain ⟨x1, rfl⟩ := ext_of_grow hb1; clear hb1)
    by_cases hlt : q < 16
    · have hg := cnt16_get l q hlt
      by_cases hp : 0 < cw l q
      · go_wp2_with fail
        go_ret
        exact Ret.bool (farL_yes hlt hcq hp).symm (by (repeat (first | (with_reducible exact Grow.refl _) | assumption | refine Grow.ext ?_ _ | refine Grow.alloc ?_ _ | refine Grow.drew ?_ | refine Grow.setCell ?_ (by first | (simp; done) | (simp; omega)) _ | refine Grow.trans ?_ (by assumption))))
      · have Hp : Hid (cw l q ≤ 0) := Lib.hid (by omega)
        go_wp2_with fail
        go_roundw
        case rel => exact ⟨q + 1, by omega, by go_num, (by (repeat (first | (with_reducible exact Grow.refl _) | assumption | refine Grow.ext ?_ _ | refine Grow.alloc ?_ _ | refine Grow.drew ?_ | refine Grow.setCell ?_ (by first | (simp; done) | (simp; omega)) _ | refine Grow.trans ?_ (by assumption)))), by omega, Lib.hid (fun t ht h16 hct => by rcases Nat.lt_succ_iff_lt_or_eq.1 ht with h | rfl; exact Hq.out t h h16 hct; exact Hp.out)⟩
        case measure => simp [intOf]; omega
    · go_wp2_with fail
      go_ret
      exact Ret.bool (farL_no (fun t h16 hct => Hq.out t (by omega) h16 hct)).symm (by (repeat (first | (with_reducible exact Grow.refl _) | assumption | refine Grow.ext ?_ _ | refine Grow.alloc ?_ _ | refine Grow.drew ?_ | refine Grow.setCell ?_ (by first | (simp; done) | (simp; omega)) _ | refine Grow.trans ?_ (by assumption))))

theorem any_loc {l : List Int} {c : Nat} (hl : ∀ x ∈ l, 0 ≤ x ∧ x < 16) (hlen : l.length ≤ 1000000) : farL l c = !(l.all (fun x => decide (x < (c : Int)))) := by
  rw [Bool.eq_iff_iff]
  constructor
  · intro h
    unfold farL at h; rw [List.any_eq_true] at h
    obtain ⟨t, ht, h⟩ := h
    simp only [Bool.and_eq_true, decide_eq_true_eq] at h
    rw [cw_small hlen] at h
    have hm : (t : Int) ∈ l := List.count_pos_iff.1 (by omega)
    simp only [Bool.not_eq_true', List.all_eq_false, decide_eq_true_eq]
    exact ⟨_, hm, by omega⟩
  · intro h
    simp only [Bool.not_eq_true', List.all_eq_false, decide_eq_true_eq] at h
    obtain ⟨x, hx, h⟩ := h
    obtain ⟨t, rfl⟩ := Int.eq_ofNat_of_zero_le (hl x hx).1
    refine farL_yes (t := t) (by have := (hl _ hx).2; omega) (by omega) ?_
    rw [cw_small hlen]
    have := List.count_pos_iff.2 hx; omega
/- The reference's locals are those of the places that are told. -/
theorem opd_vis {o : Opd} {m : Bool} (h : opdErr o = 0) : locO o = (visO m o).map (fun v => v.1.loc) := by
  have := (opdErr_iff o).1 h
  unfold locO visO placed
  rcases this with q | q
  · simp [q.1]
  · have h1 : o.kind ≠ 1 := by omega
    simp [q.1, h1]
theorem opds_vis {l : List Opd} {m : Bool} (h : ∀ o ∈ l, opdErr o = 0) : l.flatMap locO = (visOs m l).map (fun v => v.1.loc) := by
  induction l with
  | nil => rfl
  | cons o l ih =>
    unfold visOs; rw [List.flatMap_cons, List.flatMap_cons, List.map_append, ← opd_vis (h o (by simp))]
    congr 1
    exact ih (fun q hq => h q (by simp [hq]))
theorem locJ_perm {j : Ju} (h : juErr j = 0) : (locJ j).Perm ((visJ j).map (fun v => v.1.loc)) := by
  have h' := (juErr_iff j).1 h
  have ha : ∀ o ∈ j.args, opdErr o = 0 := by
    intro o ho; unfold juOk argsOk at h'; simp only [Bool.and_eq_true, List.all_eq_true, decide_eq_true_eq] at h'; exact h'.2 o ho
  unfold locJ visJ juParts
  by_cases h2 : j.kind = 2
  · have : opdErr j.a = 0 := by unfold juOk juPre at h'; grind
    rw [if_pos h2, if_pos h2, if_neg (by omega), opds_vis (m := false) (by intro o ho; simp at ho; subst ho; exact this)]; simp
  · rw [if_neg h2, if_neg h2]
    by_cases h4 : j.kind = 4
    · rw [if_pos h4, if_pos h4, opds_vis (m := true) ha, List.map_cons]
      exact List.perm_append_singleton _ _
    · have : j.args = [] := by
        have : j.args.length = 0 := by unfold juOk juPre at h'; grind
        exact List.length_eq_zero_iff.1 this
      rw [if_neg h4, if_neg h4, this]; simp
theorem locS_perm {s : St} (h : stErr s = 0) : (locS s).Perm ((visS s).map (fun v => v.1.loc)) := by
  have h' := (stErr_iff s).1 h
  unfold locS visS
  by_cases h3 : s.kind = 3
  · have hz : placed s.a = false := opdZ_placed (by unfold stOk at h'; grind)
    simp [h3, locO, hz]
  · by_cases h1 : s.kind = 1
    · have hz : placed s.a = false := opdZ_placed (by unfold stOk at h'; grind)
      have hr : rvOk s.r = true := by unfold stOk at h'; grind
      have e : (rvParts s.r).flatMap locO ++ (if s.r.kind = 4 ∨ s.r.kind = 5 then [s.r.pl.loc] else []) = (visR s.r).map (fun v => v.1.loc) := by
        have hp := rv_opds7 hr
        unfold visR
        by_cases h45 : s.r.kind = 4 ∨ s.r.kind = 5
        · have : rvParts s.r = [] := by unfold rvParts; rw [if_neg (by omega), if_neg (by omega)]
          simp [h45, this]
        · rw [if_neg h45, if_neg h45, List.append_nil]
          by_cases hk : s.r.kind = 1
          · rw [if_pos hk, opds_vis (m := true) hp]; unfold rvParts; rw [if_pos hk]
          · have hk2 : s.r.kind = 2 ∨ s.r.kind = 3 := by unfold rvOk at hr; grind
            rw [if_neg hk, opds_vis (m := false) hp]; unfold rvParts; rw [if_neg hk, if_pos hk2]
      rw [e]; simp [h1, locO, hz]
    · have h2 : s.kind = 2 ∨ s.kind = 4 := by unfold stOk at h'; grind
      have ha : opdErr s.a = 0 := by unfold stOk at h'; grind
      rw [if_neg h3, if_neg h1, if_neg h3, if_pos h2]
      have := opds_vis (l := [s.a]) (m := false) (by intro o ho; simp at ho; subst ho; exact ha)
      simp at this; simp [this]
end Go.Proofs.Ytiikhfjdpaofdaa
