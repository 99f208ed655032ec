/- Layer 45: the place that a text is, by the reference. -/
import Derived.Test.YtjllaogechckoaaDoorW45r
namespace Go.Proofs.YtjllaogechckoaaDoor
open Go.RowKit
set_option linter.unusedSimpArgs false
set_option linter.unusedVariables false

def plD (s : Bs) : Pl := (plFind s).getD ⟨0, false, 0⟩
def plE (s : Bs) : Int := if (plFind s).isSome then 0 else 12
theorem plFind_hit {s : Bs} {p : Pl} (hp : p ∈ allPl) (h : plText p = s) : plD s = p ∧ plE s = 0 := by
  have e : plFind s = some p := by rw [← h]; exact plFind_text' p hp
  unfold plD plE; rw [e]; exact ⟨rfl, rfl⟩
theorem plFind_miss {s : Bs} (h : ∀ p ∈ allPl, plText p ≠ s) : plD s = ⟨0, false, 0⟩ ∧ plE s = 12 := by
  have e : plFind s = none := by
    cases hf : plFind s with
    | none => rfl
    | some p => obtain ⟨h1, h2⟩ := plFind_some hf; exact absurd h2 (h p (mem_allPl h1))
  unfold plD plE; rw [e]; exact ⟨rfl, rfl⟩
theorem allPl_len : allPl.length = 96 := by decide +kernel
set_option maxRecDepth 100000 in
set_option maxHeartbeats 2000000 in
theorem ref03_Read (s : Bs) (w : World) : Calls Tryd.prog 51 #[.string (str s)] w (Ret w (.tuple #[(plD s).v, .int .i64 (plE s)])) := by
  go_enter Tryd.func51, Tryd.ntmps51
  go_wp2_with (first
    | (go_at_call 61; ((with_reducible refine (ref03_All _).mono ?_); rintro e w1 ⟨_, rfl, ⟨a1, c1, rfl, hs⟩, hg⟩; obtain ⟨x1, rfl⟩ := ext_of_grow hg; clear hg)))
  go_loopw [5] (fun iv wr => ∃ (k : Nat) (x : Ext), iv = .int .i64 k ∧ k ≤ 96 ∧ wr = ext (ext (w.alloc (.cells #[.int .i64 0, .bool false, .int .u8 0] 24)) x1) x ∧ Hid (∀ j, j < k → ∀ p, allPl[j]? = some p → plText p ≠ s)) (fun iv _ => 96 - (intOf iv).toNat)
  case atStart => exact ⟨0, _, rfl, by omega, (ext_self _).symm, Lib.hid (fun j hj => by omega)⟩
  case round =>
    obtain ⟨k, x, rfl, hk, rfl, Hn⟩ := hrel
    by_cases hlt : k < 96
    · obtain ⟨b, off, p, rfl, ⟨hx, hl, hw, r0⟩⟩ := hs.pl k hlt
      have hmem : p ∈ allPl := List.mem_of_getElem? hx.out
      have Hm := Lib.hid hmem
      have hpo := allPl_ok p hmem
      clear hmem
      obtain ⟨t, Ht⟩ : ∃ t, Hid (plText p = t) := ⟨_, Lib.hid rfl⟩
      have HW : Hid (∀ w, Calls Tryd.prog 42 #[p.v] w (Ret w (.string (str t)))) := Lib.hid (fun w => by rw [← Ht.out]; exact ref03_Written p hpo w)
      clear hpo
      cases heq : (t == s)
      · go_wp2_with (first | (go_at_call 42; ((with_reducible refine (HW.out _).mono ?_); rintro e w2 ⟨rfl, hb2⟩; obtain ⟨x2, rfl⟩ := ext_of_grow hb2; clear hb2)))
        refine ⟨⟨k + 1, _, by go_num, by omega, ext_ext _ _ _, Lib.hid (fun j hj q hq => ?_)⟩, by simp [intOf]; omega⟩
        by_cases e : j = k
        · subst e; rw [hx.out] at hq; injection hq with hq; subst hq; rw [Ht.out]; exact beq_eq_false_iff_ne.1 heq
        · exact Hn.out j (by omega) q hq
      · obtain rfl : t = s := beq_iff_eq.1 heq
        have Hhit := Lib.hid (plFind_hit Hm.out Ht.out)
        rw [Hhit.out.1, Hhit.out.2]
        go_wp2_with (first | (go_at_call 42; ((with_reducible refine (HW.out _).mono ?_); rintro e w2 ⟨rfl, hb2⟩; obtain ⟨x2, rfl⟩ := ext_of_grow hb2; clear hb2)))
        ((try simp only [Exit.inBlock, Exit.then]); refine post_of (by simp only [results, Tryd.results51]; go_simp; rfl) rfl (by (repeat (first | (with_reducible exact Grow.refl _) | assumption | refine Grow.ext ?_ _ | refine Grow.alloc ?_ _ | refine Grow.drew ?_ | refine Grow.setCell ?_ (by first | (simp; done) | (simp; omega)) _ | refine Grow.trans ?_ (by assumption)))) ?_)
        rfl
    · obtain rfl : 96 = k := by omega
      have Hmiss := Lib.hid (plFind_miss (s := s) (fun p hp => by
        obtain ⟨j, hj, e⟩ := List.getElem_of_mem hp
        exact Hn.out j (by rw [allPl_len] at hj; exact hj) p (by rw [List.getElem?_eq_getElem hj, e])))
      go_wp2_with fail
      ((try simp only [Exit.inBlock, Exit.then]); refine post_of (by simp only [results, Tryd.results51]; go_simp; rfl) rfl (by (repeat (first | (with_reducible exact Grow.refl _) | assumption | refine Grow.ext ?_ _ | refine Grow.alloc ?_ _ | refine Grow.drew ?_ | refine Grow.setCell ?_ (by first | (simp; done) | (simp; omega)) _ | refine Grow.trans ?_ (by assumption)))) ?_)
      rw [Hmiss.out.1, Hmiss.out.2]
end Go.Proofs.YtjllaogechckoaaDoor
