/- Layer 9: the law that different programs have different bytes. -/
import Derived.Test.YtafcdabiplcjiaaL09k
import Derived.Test.YtafcdabiplcjiaaL08u
import Derived.Test.YtafcdabiplcjiaaL08d
import Derived.Test.YtafcdabiplcjiaaLG08
namespace Go.Proofs.Ytafcdabiplcjiaa
open Go.RowKit
set_option linter.unusedSimpArgs false
set_option linter.unusedVariables false

theorem Sl.take {α : Type} [Rp α] {F : Nat → Prop} {w : World} {a : Option Addr} {n c : Nat} {xs : List α} (h : Sl F w (.slice a n c) xs) {m : Nat} (hm : m ≤ n) : Sl F w (.slice a m c) (xs.take m) := by
  have hl := h.len
  obtain ⟨a', cap', hv, h1, h2, h3, h⟩ := h
  injection hv with e1 e2 e3; subst e1 e3
  refine ⟨a, c, by congr 1; simp; omega, by simp; omega, h2, h3, fun i hi => ?_⟩
  obtain ⟨b, off, ha, hF, hlt, cs, hR, hc⟩ := h i (by simp at hi; omega)
  exact ⟨b, off, ha, hF, hlt, cs, by rw [List.getElem_take]; exact hR, hc⟩
theorem Sl.bytes {F : Nat → Prop} {w : World} {v : Value} {bs : List Nat} (h : Sl F w v bs) : ∀ x ∈ bs, x < 256 := by
  intro x hx
  obtain ⟨a, cap, rfl, h1, h2, h3, h⟩ := h
  obtain ⟨i, hi, rfl⟩ := List.getElem_of_mem hx
  obtain ⟨b, off, ha, hF, hlt, cs, ⟨_, hw⟩, hc⟩ := h i hi
  exact hw
theorem encFn_byte {f : Fn} (h : okFn f) : ∀ x ∈ encFn f, x < 256 := by
  have hv : ∀ n : Nat, n < 18446744073709551616 → ∀ x ∈ vput n, x < 256 := fun n h => vput_byte h
  have hpl : ∀ p : Pl, PlOk p ∧ 0 ≤ p.field → ∀ x ∈ encPl p, x < 256 := fun p hp => hv _ (by obtain ⟨⟨a, b, c⟩, d⟩ := hp; split <;> omega)
  have hop : ∀ o : Opd, opdErr o = 0 ∧ o.wf → ∀ x ∈ encOpd o, x < 256 := by
    rintro o ⟨h1, hw⟩ x hx
    unfold encOpd at hx
    rcases List.mem_append.1 hx with hx | hx
    · exact hv _ (kn hw.kind) x hx
    · split at hx
      · exact hv _ (foldS_lt hw.n) x hx
      · rename_i hk
        refine hpl _ ⟨?_, hw.pl.field.1⟩ x hx
        rcases (opdErr_iff o).1 h1 with h | h
        · exact absurd h.1 hk
        · exact h.2.2
  have hrv : ∀ r : Rv, rvOk r = true ∧ r.wf → ∀ x ∈ encRv r, x < 256 := by
    rintro r ⟨h1, hw⟩ x hx
    have hk := rvOk_kind h1
    unfold encRv at hx
    rcases List.mem_append.1 hx with hx | hx
    · exact hv _ (kn hw.kind) x hx
    · rcases hk with hk | hk | hk | hk | hk <;> simp [hk] at hx <;> simp [rvOk, hk] at h1
      · exact hop _ ⟨h1.1.1.1.1, hw.a⟩ x hx
      · rcases hx with hx | hx | hx
        · exact hv _ (kn hw.op) x hx
        · exact hop _ ⟨h1.1.1.1.1.1, hw.a⟩ x hx
        · exact hop _ ⟨h1.1.1.1.1.2, hw.b⟩ x hx
      · rcases hx with hx | hx
        · exact hop _ ⟨h1.1.1.1.1, hw.a⟩ x hx
        · exact hop _ ⟨h1.1.1.1.2, hw.b⟩ x hx
      · rcases hx with hx | hx
        · exact hv _ (kn hw.bo) x hx
        · exact hpl _ (pl_ok h1.1.1.1.2 hw.pl) x hx
      · exact hpl _ (pl_ok h1.1.1.2 hw.pl) x hx
  have hst : ∀ s : St, stErr s = 0 ∧ s.wf → ∀ x ∈ encSt s, x < 256 := by
    rintro s ⟨h1, hw⟩ x hx
    rw [stErr_iff] at h1
    have hk := stOk_kind h1
    unfold encSt at hx
    rcases List.mem_append.1 hx with hx | hx
    · exact hv _ (kn hw.kind) x hx
    · rcases hk with hk | hk | hk | hk <;> simp [hk] at hx <;> simp [stOk, hk] at h1
      · rcases hx with hx | hx
        · exact hpl _ (pl_ok h1.1.1.1 hw.pl) x hx
        · exact hrv _ ⟨h1.1.1.2, hw.r⟩ x hx
      · exact hop _ ⟨h1.1.2, hw.a⟩ x hx
      · exact hop _ ⟨h1.1.2, hw.a⟩ x hx
      · exact hv _ (by omega) x hx
  have hju : ∀ j : Ju, okJu j → ∀ x ∈ encJu j, x < 256 := by
    rintro j ⟨h1, hw, hl⟩ x hx
    rw [juErr_iff] at h1
    unfold juOk argsOk at h1; simp only [Bool.and_eq_true, List.all_eq_true, decide_eq_true_eq] at h1
    obtain ⟨h1, ha⟩ := h1
    have hk := juPre_kind h1
    unfold encJu at hx
    rcases List.mem_append.1 hx with hx | hx
    · exact hv _ (kn hw.kind) x hx
    · rcases hk with hk | hk | hk | hk | hk <;> simp [hk] at hx <;> simp [juPre, hk] at h1
      · have b1 := blk_iff h1.1.2; exact hv _ (by omega) x hx
      · have b1 := blk_iff h1.1.2; have b2 := blk_iff h1.2
        rcases hx with hx | hx | hx
        · exact hop _ ⟨h1.1.1.2, hw.a⟩ x hx
        · exact hv _ (by omega) x hx
        · exact hv _ (by omega) x hx
      · obtain ⟨⟨⟨⟨⟨⟨g1, g2⟩, g3⟩, g4⟩, g5⟩, g6⟩, g7⟩ := h1
        have b1 := blk_iff g6
        rcases hx with hx | hx | hx | hx | hx
        · exact hv _ (by omega) x hx
        · exact hv _ (by omega) x hx
        · exact flatMap_byte (fun o ho => hop o ⟨ha o ho, hl o ho⟩) x hx
        · exact hpl _ (pl_ok g5 hw.dest) x hx
        · exact hv _ (by omega) x hx
  obtain ⟨hq, hl, hn, hm, hb⟩ := h
  intro x hx
  unfold encFn at hx
  simp only [List.mem_append] at hx
  rcases hx with hx | hx | hx | hx | hx | hx
  · exact hv _ (by omega) x hx
  · exact hv _ (by split <;> omega) x hx
  · exact hv _ (by omega) x hx
  · exact flatMap_byte (fun t ht => hv _ (by have := tyNum_lt t; omega)) x hx
  · exact hv _ (by omega) x hx
  · refine flatMap_byte (fun b hbm => ?_) x hx
    obtain ⟨h1, h2, h3⟩ := hb b hbm
    intro y hy
    unfold encBk at hy
    simp only [List.mem_append] at hy
    rcases hy with hy | hy | hy
    · exact hv _ (by omega) y hy
    · exact flatMap_byte (fun s hs => hst s (h1 s hs)) y hy
    · exact hju _ h2 y hy
/-- The elements of a slice that reads are in their ranges. -/
theorem Sl.each {α : Type} [Rp α] {F : Nat → Prop} {w : World} {v : Value} {xs : List α} (h : Sl F w v xs) : ∀ x ∈ xs, ∃ cs, Rp.R F w x cs := by
  intro x hx
  obtain ⟨a, cap, rfl, h1, h2, h3, h⟩ := h
  obtain ⟨i, hi, rfl⟩ := List.getElem_of_mem hx
  obtain ⟨b, off, ha, hF, hlt, cs, hR, hc⟩ := h i hi
  exact ⟨cs, hR⟩
theorem okFn_of {F : Nat → Prop} {w : World} {f : Fn} {cs : List Value} (h : Rp.R F w f cs) (he : fnErr f = 0) : okFn f := by
  have hE := fnE_of he
  obtain ⟨la, ln, lc, ba, bn, bc, _, hw, hl, hb⟩ := h
  refine ⟨hE.par, hE.ty, hE.nl, hE.nb, fun b hbm => ?_⟩
  obtain ⟨cs, sa, sn, sc, ja, jn, jc, _, hbw, hs, hj⟩ := hb.each b hbm
  refine ⟨fun s hsm => ⟨(hE.bk b hbm).2.1 s hsm, ?_⟩, ⟨(hE.bk b hbm).2.2, hbw.jump, fun o ho => ?_⟩, (hE.bk b hbm).1⟩
  · obtain ⟨cs, _, hw⟩ := hs.each s hsm; exact hw
  · obtain ⟨cs, _, hw⟩ := hj.each o ho; exact hw
theorem okPr_of {F : Nat → Prop} {w : World} {p : Pr} {v : Value} (h : Sl F w v p.funcs) (he : prErr p = 0) : ∀ f ∈ p.funcs, okFn f := fun f hf => by
  obtain ⟨cs, hR⟩ := h.each f hf
  exact okFn_of hR ((pr_ok he).2.2.1 f hf)
theorem encPr_byte {p : Pr} (hl : p.funcs.length ≤ 8) (h : ∀ f ∈ p.funcs, okFn f) : ∀ x ∈ encPr p, x < 256 := by
  intro x hx
  unfold encPr at hx
  rcases List.mem_append.1 hx with hx | hx
  · exact vput_byte (by omega) x hx
  · exact flatMap_byte (fun f hf => encFn_byte (h f hf)) x hx
theorem pre_same {α : Type} {ok : α → Prop} {enc : α → List Nat} (hpf : Pf ok enc) (hby : ∀ a, ok a → ∀ x ∈ enc a, x < 256) {a b : α} [DecidableEq α] (ha : ok a) (hb : ok b) {P : Nat} (hP : P = (enc a).length) (hle : P ≤ (enc b).length) :
    ((strB (enc a)).toList == (strB ((enc b).take P)).toList) = decide (a = b) ∧ ((strB ((enc b).take P)).toList == (strB (enc a)).toList) = decide (b = a) := by
  have key : enc a = (enc b).take P ↔ a = b := by
    constructor
    · intro h
      have e : enc a ++ (enc b).drop P = enc b ++ [] := by rw [h, List.take_append_drop, List.append_nil]
      exact (hpf a b _ _ ha hb e).1
    · rintro rfl; rw [hP, List.take_length]
  have k1 : (strB (enc a)).toList = (strB ((enc b).take P)).toList ↔ a = b := by
    rw [← key]
    exact ⟨fun h => strB_inj (hby a ha) (fun x hx => hby b hb x (List.mem_of_mem_take hx)) h, fun h => by rw [← h]⟩
  constructor
  · rw [Bool.eq_iff_iff]; simp only [beq_iff_eq, decide_eq_true_eq]; exact k1
  · rw [Bool.eq_iff_iff]; simp only [beq_iff_eq, decide_eq_true_eq]; exact ⟨fun h => (k1.1 h.symm).symm, fun h => (k1.2 h.symm).symm⟩
def okPr (p : Pr) : Prop := p.funcs.length ≤ 8 ∧ ∀ f ∈ p.funcs, okFn f
theorem pf_prs : Pf okPr encPr := fun p q s t hp hq e => pf_pr hp.1 hq.1 hp.2 hq.2 e
end Go.Proofs.Ytafcdabiplcjiaa
