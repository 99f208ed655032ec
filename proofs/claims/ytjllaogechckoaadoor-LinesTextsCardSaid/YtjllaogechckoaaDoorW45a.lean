/- Layer 45: the words of the outcomes; places as text. -/
import Derived.Test.YtjllaogechckoaaDoorV45
import Derived.Test.YtjllaogechckoaaDoorL02
import Derived.Test.YtjllaogechckoaaDoorSH45
import Derived.WalkMore
namespace Go.Proofs.YtjllaogechckoaaDoor
open Go.RowKit
set_option linter.unusedSimpArgs false
set_option linter.unusedVariables false

def Frs (w : World) (k : Nat) : Prop := w.heap.size ≤ k
abbrev wordsC : List Value := words.map fun l => Value.string (str l)
theorem sl_words {w : World} {g : Nat} {e : TypeId} {F : Nat → Prop} (hF : F g) (hg : w.heap[g]? = some (.cells wordsC.toArray e)) : Sl F w (.slice (some ⟨g, 0, none⟩) 8 8) words := by
  refine ⟨_, 8, by simp [words], by simp [words], by omega, (fun h => by cases h), fun i hi => ⟨g, 0, rfl, hF, (Array.getElem?_eq_some_iff.1 hg).1, [.string (str words[i])], rfl, fun j hj => ?_⟩⟩
  obtain rfl : j = 0 := by simpa using hj
  have hi' : i < wordsC.length := by simpa [wordsC] using hi
  simp only [World.cell?, hg, Nat.zero_add, sz_bs, Nat.mul_one, Nat.add_zero]
  simp only [List.getElem?_toArray]
  rw [List.getElem?_eq_getElem hi']
  simp [wordsC]
theorem lines_words (w : World) : Calls Tryd.prog 23 #[] w (RetP w fun v w' => ∃ a, v = .slice a 8 8 ∧ Sl (Frs w) w' v words) := by
  go_enter Tryd.func23, Tryd.ntmps23
  go_wp2
  refine postP_of (by simp only [results, Tryd.results23]; go_simp <;> rfl) rfl (by (repeat (first | (with_reducible exact Grow.refl _) | assumption | refine Grow.ext ?_ _ | refine Grow.alloc ?_ _ | refine Grow.drew ?_ | refine Grow.setCell ?_ (by first | (simp; done) | (simp; omega)) _ | refine Grow.trans ?_ (by assumption)))) ⟨_, rfl, sl_words (e := 9) (Nat.le_refl _) (by simp only [hp_at]; kernel_rfl)⟩
theorem ref45_words (w : World) : Calls Tryd.prog 24 #[] w (RetP w fun v w' => ∃ a, v = .slice a 8 8 ∧ Sl (Frs w) w' v words) := by
  go_enter Tryd.func24, Tryd.ntmps24
  go_wp2
  refine postP_of (by simp only [results, Tryd.results24]; go_simp <;> rfl) rfl (by (repeat (first | (with_reducible exact Grow.refl _) | assumption | refine Grow.ext ?_ _ | refine Grow.alloc ?_ _ | refine Grow.drew ?_ | refine Grow.setCell ?_ (by first | (simp; done) | (simp; omega)) _ | refine Grow.trans ?_ (by assumption)))) ⟨_, rfl, sl_words (e := 9) (Nat.le_refl _) (by simp only [hp_at]; kernel_rfl)⟩
def outS (o : Int) : Bs := (outW o).getD []
def outE (o : Int) : Int := if 1 ≤ o ∧ o ≤ 8 then 0 else 2
theorem outS_of {k : Nat} {x : Bs} (hk : k < 8) (h : words[k]? = some x) : outS ((k : Int) + 1) = x ∧ outE ((k : Int) + 1) = 0 := by
  unfold outS outW outE
  rw [if_pos (by omega), if_pos (by omega), show ((k : Int) + 1 - 1).toNat = k by omega, h]; exact ⟨rfl, rfl⟩
theorem outS_no {o : Int} (h : ¬ (1 ≤ o ∧ o ≤ 8)) : outS o = [] ∧ outE o = 2 := by
  unfold outS outW outE; rw [if_neg h, if_neg h]; exact ⟨rfl, rfl⟩
set_option maxRecDepth 100000 in
set_option maxHeartbeats 1000000 in
theorem lines_Outcome (o : Int) (ho : U8 o) (w : World) : Calls Tryd.prog 9 #[.int .u8 o] w (Ret w (.tuple #[.string (str (outS o)), .int .i64 (outE o)])) := by
  obtain ⟨o1, o2⟩ := ho
  by_cases h : 1 ≤ o ∧ o ≤ 8
  · obtain ⟨k, rfl⟩ : ∃ k : Nat, o = (k : Int) + 1 := ⟨(o - 1).toNat, by omega⟩
    have hk : k < 8 := by omega
    have hw : IntKind.u8.wrap (((k : Int) + 1) - 1) = (k : Int) := by rw [IntKind.wrap_u8]; omega
    obtain ⟨r, hr⟩ : ∃ r, Hid (outS ((k : Int) + 1) = r ∧ outE ((k : Int) + 1) = 0) := ⟨_, Lib.hid ⟨rfl, by unfold outE; rw [if_pos (by omega)]⟩⟩
    rw [hr.out.1, hr.out.2]
    go_enter Tryd.func9, Tryd.ntmps9
    go_wp2_with (first
      | (go_at_call 23; ((with_reducible refine (lines_words _).mono ?_); rintro e w1 ⟨_, rfl, ⟨a1, rfl, hs⟩, hg⟩; obtain ⟨x1, rfl⟩ := ext_of_grow hg; clear hg; obtain ⟨b, off, x, rfl, ⟨hx, hl, c0⟩⟩ := hs.bs k (by omega))))
    have e := (outS_of hk hx.out).1
    rw [hr.out.1] at e
    subst e
    go_ret2
    exact Ret.mk rfl (by (repeat (first | (with_reducible exact Grow.refl _) | assumption | refine Grow.ext ?_ _ | refine Grow.alloc ?_ _ | refine Grow.drew ?_ | refine Grow.setCell ?_ (by first | (simp; done) | (simp; omega)) _ | refine Grow.trans ?_ (by assumption))))
  · rw [(outS_no h).1, (outS_no h).2]
    go_enter Tryd.func9, Tryd.ntmps9
    go_wp2_with (first
      | (go_at_call 23; ((with_reducible refine (lines_words _).mono ?_); rintro e w1 ⟨_, rfl, ⟨a1, rfl, hs⟩, hg⟩; obtain ⟨x1, rfl⟩ := ext_of_grow hg; clear hg)))
    all_goals (first | (go_ret2; exact Ret.mk rfl (by (repeat (first | (with_reducible exact Grow.refl _) | assumption | refine Grow.ext ?_ _ | refine Grow.alloc ?_ _ | refine Grow.drew ?_ | refine Grow.setCell ?_ (by first | (simp; done) | (simp; omega)) _ | refine Grow.trans ?_ (by assumption))))) | (exfalso; omega))
set_option maxRecDepth 100000 in
set_option maxHeartbeats 1000000 in
theorem ref45_Outcome (o : Int) (ho : U8 o) (w : World) : Calls Tryd.prog 10 #[.int .u8 o] w (Ret w (.tuple #[.string (str (outS o)), .int .i64 (outE o)])) := by
  obtain ⟨o1, o2⟩ := ho
  by_cases h : 1 ≤ o ∧ o ≤ 8
  · obtain ⟨k, rfl⟩ : ∃ k : Nat, o = (k : Int) + 1 := ⟨(o - 1).toNat, by omega⟩
    have hk : k < 8 := by omega
    have hw : IntKind.u8.wrap (((k : Int) + 1) - 1) = (k : Int) := by rw [IntKind.wrap_u8]; omega
    obtain ⟨r, hr⟩ : ∃ r, Hid (outS ((k : Int) + 1) = r ∧ outE ((k : Int) + 1) = 0) := ⟨_, Lib.hid ⟨rfl, by unfold outE; rw [if_pos (by omega)]⟩⟩
    rw [hr.out.1, hr.out.2]
    go_enter Tryd.func10, Tryd.ntmps10
    go_wp2_with (first
      | (go_at_call 24; ((with_reducible refine (ref45_words _).mono ?_); rintro e w1 ⟨_, rfl, ⟨a1, rfl, hs⟩, hg⟩; obtain ⟨x1, rfl⟩ := ext_of_grow hg; clear hg; obtain ⟨b, off, x, rfl, ⟨hx, hl, c0⟩⟩ := hs.bs k (by omega))))
    have e := (outS_of hk hx.out).1
    rw [hr.out.1] at e
    subst e
    go_ret2
    exact Ret.mk rfl (by (repeat (first | (with_reducible exact Grow.refl _) | assumption | refine Grow.ext ?_ _ | refine Grow.alloc ?_ _ | refine Grow.drew ?_ | refine Grow.setCell ?_ (by first | (simp; done) | (simp; omega)) _ | refine Grow.trans ?_ (by assumption))))
  · rw [(outS_no h).1, (outS_no h).2]
    go_enter Tryd.func10, Tryd.ntmps10
    go_wp2_with fail
    all_goals (first | (go_ret2; exact Ret.mk rfl (by (repeat (first | (with_reducible exact Grow.refl _) | assumption | refine Grow.ext ?_ _ | refine Grow.alloc ?_ _ | refine Grow.drew ?_ | refine Grow.setCell ?_ (by first | (simp; done) | (simp; omega)) _ | refine Grow.trans ?_ (by assumption))))) | (exfalso; omega))
def ofW (s : Bs) : Int := (outOf s).getD 0
def ofE (s : Bs) : Int := if (outOf s).isSome then 0 else 12
theorem of_hit {k : Nat} {s : Bs} (hk : k < 8) (h : words[k]? = some s) : ofW s = (k : Int) + 1 ∧ ofE s = 0 := by
  have h1 : outW ((k : Int) + 1) = some s := by unfold outW; rw [if_pos (by omega), show ((k : Int) + 1 - 1).toNat = k by omega, h]
  obtain ⟨w, hw1, hw2, _⟩ := outW_of (o := (k : Int) + 1) (by omega)
  rw [h1] at hw1; injection hw1 with hw1; subst hw1
  unfold ofW ofE; rw [hw2]; exact ⟨rfl, rfl⟩
theorem of_miss {s : Bs} (h : ∀ j, j < 8 → words[j]? ≠ some s) : ofW s = 0 ∧ ofE s = 12 := by
  have e : outOf s = none := by
    cases he : outOf s with
    | none => rfl
    | some o =>
      obtain ⟨ho, h2⟩ := outOf_some he
      unfold outW at h2; rw [if_pos ho] at h2
      exact absurd h2 (h _ (by omega))
  unfold ofW ofE; rw [e]; exact ⟨rfl, rfl⟩
set_option maxRecDepth 100000 in
set_option maxHeartbeats 1000000 in
theorem lines_OutcomeOf (s : Bs) (w : World) : Calls Tryd.prog 11 #[.string (str s)] w (Ret w (.tuple #[.int .u8 (ofW s), .int .i64 (ofE s)])) := by
  go_enter Tryd.func11, Tryd.ntmps11
  go_wp2_with (first
    | (go_at_call 23; ((with_reducible refine (lines_words _).mono ?_); rintro e w1 ⟨_, rfl, ⟨a1, rfl, hs⟩, hg⟩; obtain ⟨x1, rfl⟩ := ext_of_grow hg; clear hg)))
  go_loopw [8] (fun iv wr => ∃ k : Nat, iv = .int .i64 k ∧ k ≤ 8 ∧ wr = ext w x1 ∧ Hid (∀ j, j < k → words[j]? ≠ some s)) (fun iv _ => 8 - (intOf iv).toNat)
  case atStart => exact ⟨0, rfl, by omega, rfl, Lib.hid (fun j hj => by omega)⟩
  case round =>
    obtain ⟨k, rfl, hk, rfl, Hn⟩ := hrel
    by_cases hlt : k < 8
    · obtain ⟨b, off, x, rfl, ⟨hx, hl, c0⟩⟩ := hs.bs k hlt
      cases heq : (x == s)
      · go_wp2_with fail
        refine ⟨⟨k + 1, by go_num, by omega, trivial, Lib.hid (fun j hj => ?_)⟩, by simp [intOf]; omega⟩
        by_cases e : j = k
        · subst e; rw [hx.out]; intro h; injection h with h; exact (beq_eq_false_iff_ne.1 heq) h
        · exact Hn.out j (by omega)
      · go_wp2_with fail
        obtain rfl : x = s := beq_iff_eq.1 heq
        go_ret2
        exact Ret.mk (by rw [(of_hit hlt hx.out).1, (of_hit hlt hx.out).2]; rfl) (by (repeat (first | (with_reducible exact Grow.refl _) | assumption | refine Grow.ext ?_ _ | refine Grow.alloc ?_ _ | refine Grow.drew ?_ | refine Grow.setCell ?_ (by first | (simp; done) | (simp; omega)) _ | refine Grow.trans ?_ (by assumption))))
    · go_wp2_with fail
      obtain rfl : 8 = k := by omega
      go_ret2
      exact Ret.mk (by rw [(of_miss Hn.out).1, (of_miss Hn.out).2]; rfl) (by (repeat (first | (with_reducible exact Grow.refl _) | assumption | refine Grow.ext ?_ _ | refine Grow.alloc ?_ _ | refine Grow.drew ?_ | refine Grow.setCell ?_ (by first | (simp; done) | (simp; omega)) _ | refine Grow.trans ?_ (by assumption))))
end Go.Proofs.YtjllaogechckoaaDoor
