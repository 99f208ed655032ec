/- Layer 45, the reference: what is between spaces; a number. -/
import Derived.Test.YtjllaogechckoaaDoorW45n
namespace Go.Proofs.YtjllaogechckoaaDoor
open Go.RowKit
set_option linter.unusedSimpArgs false
set_option linter.unusedVariables false

def PInv (s : Bs) (xs : List Bs) (f k : Nat) : Prop := parts s = xs ++ parts (s.drop f) ∧ ∀ c ∈ (s.drop f).take (k - f), c ≠ 32
theorem seg_app (s : Bs) {f k : Nat} (h : f ≤ k) : s.drop f = (s.drop f).take (k - f) ++ s.drop k := by
  conv => lhs; rw [← List.take_append_drop (k - f) (s.drop f), List.drop_drop]
  rw [show f + (k - f) = k by omega]
theorem PInv.start (s : Bs) : PInv s [] 0 0 := ⟨by simp, by simp⟩
theorem PInv.step {s : Bs} {xs : List Bs} {f k : Nat} (h : PInv s xs f k) (hf : f ≤ k) (hk : k < s.length) (hc : s[k] ≠ 32) : PInv s xs f (k + 1) := by
  refine ⟨h.1, fun c hx => ?_⟩
  have e : (s.drop f).take (k + 1 - f) = (s.drop f).take (k - f) ++ [s[k]] := by
    rw [show k + 1 - f = (k - f) + 1 by omega, List.take_add_one]
    congr 1
    rw [List.getElem?_drop, show f + (k - f) = k by omega, List.getElem?_eq_getElem hk]; rfl
  rw [e] at hx
  rcases List.mem_append.1 hx with hx | hx
  · exact h.2 c hx
  · rw [List.mem_singleton] at hx; subst hx; exact hc
theorem PInv.space {s : Bs} {xs : List Bs} {f k : Nat} (h : PInv s xs f k) (hf : f ≤ k) (hk : k < s.length) (hc : s[k] = 32) : PInv s (xs ++ [(s.drop f).take (k - f)]) (k + 1) (k + 1) := by
  refine ⟨?_, by simp⟩
  have e : s.drop f = (s.drop f).take (k - f) ++ 32 :: s.drop (k + 1) := by
    conv => lhs; rw [seg_app s hf]
    rw [← List.getElem_cons_drop hk, hc]
  rw [h.1]
  conv => lhs; rw [e, parts_word _ _ h.2]
  simp
theorem PInv.done {s : Bs} {xs : List Bs} {f : Nat} (h : PInv s xs f s.length) (hf : f ≤ s.length) : xs ++ [(s.drop f).take (s.length - f)] = parts s := by
  have e : (s.drop f).take (s.length - f) = s.drop f := List.take_of_length_le (by simp)
  have h2 := h.2
  rw [e] at h2
  rw [h.1, e, parts_last _ h2]
theorem str_cut (s : Bs) (f k : Nat) : (str s).extract f k = str ((s.drop f).take (k - f)) := by
  apply ByteArray.ext
  simp only [ByteArray.data_extract]
  apply Array.ext'
  simp
theorem str_at3 {l : Bs} {k : Nat} (h : k < l.length) (h' : k < (str l).size) : (str l)[k]'h' = l[k] := rfl
set_option maxRecDepth 100000 in
set_option maxHeartbeats 4000000 in
theorem ref45_parts (s : Bs) (hs : s.length ≤ 900000) (w : World) : Calls Tryd.prog 49 #[.string (str s)] w (RetP w fun v w' => ∃ a c, v = .slice a (parts s).length c ∧ Sl (Frs w) w' v (parts s)) := by
  have hss : (str s).size = s.length := str_size s
  go_enter Tryd.func49, Tryd.ntmps49
  go_wp2_with fail
  go_loopw [3, 4, 5] (fun ov fv iv wr => ∃ (k f : Nat) (xs : List Bs) (x : Ext), iv = .int .i64 k ∧ fv = .int .i64 f ∧ wr = ext w x ∧ Own (fun _ => False) w.heap.size 9 wr ov xs ∧ xs.length ≤ k ∧ f ≤ k ∧ ((k ≤ s.length ∧ Hid (PInv s xs f k)) ∨ (k = s.length + 1 ∧ Hid (xs = parts s)))) (fun _ _ iv _ => s.length + 1 - (intOf iv).toNat)
  case atStart => exact ⟨0, 0, [], _, rfl, rfl, (ext_self _).symm, Own.nil _ _ _ _, Nat.le_refl _, Nat.le_refl _, Or.inl ⟨Nat.zero_le _, Lib.hid (PInv.start s)⟩⟩
  case round =>
    obtain ⟨k, f, xs, x, rfl, rfl, rfl, hown, hxk, hfk, hor⟩ := hrel
    obtain ⟨a2, m2, c2, rfl, Hm2, hm2, hown⟩ := hown.open
    rcases hor with ⟨hk, HI⟩ | ⟨rfl, HI⟩
    · obtain ⟨seg, Hseg⟩ : ∃ t : Bs, Hid ((s.drop f).take (k - f) = t) := ⟨_, Lib.hid rfl⟩
      have hcut := str_cut s f k
      rw [Hseg.out] at hcut
      have hkI : (k : Int) ≤ s.length := by omega
      have hfI : (f : Int) ≤ k := by omega
      by_cases hlt : k < s.length
      · have hne : ((k : Int) == s.length) = false := by rw [beq_eq_false_iff_ne]; omega
        have hkl : (k : Int) < s.length := by omega
        have hcz := str_at3 hlt (by rw [hss]; exact hlt)
        by_cases hc : s[k] = 32
        · have hcb : ((s[k].toNat : Int) == 32) = true := by rw [hc]; rfl
          have Hnx := Lib.hid (HI.out.space hfk hlt hc)
          rw [Hseg.out] at Hnx
          clear hc
          go_wp2_with (first
            | (at_builtin; go_must (refine wpList_app1 (α := Bs) slT_str rfl rfl rfl hown (by (repeat (first | (with_reducible exact Grow.refl _) | assumption | refine Grow.ext ?_ _ | refine Grow.alloc ?_ _ | refine Grow.drew ?_ | refine Grow.setCell ?_ (by first | (simp; done) | (simp; omega)) _ | refine Grow.trans ?_ (by assumption)))) (Nat.le_refl _) (by simp; omega) rfl (y := seg) (Gy := fun _ => False) rfl (fun _ h => h.elim) (by (repeat (refine CellsAt.cons (by go_simp) ?_)); exact CellsAt.nil _ _ _) (by simp [Value.oneCell']) (by omega) (by omega) ?_); intro tv' x' hown' hsz' hagr))
          exact ⟨⟨k + 1, k + 1, xs ++ [seg], x', by go_num, by go_num, rfl, hown', by simp; omega, Nat.le_refl _, Or.inl ⟨by omega, Hnx⟩⟩, by simp [intOf]; omega⟩
        · have hcn : ¬ s[k].toNat = 32 := fun h => hc (UInt8.toNat_inj.1 h)
          have hcb : ((s[k].toNat : Int) == 32) = false := by rw [beq_eq_false_iff_ne]; omega
          have Hnx := Lib.hid (HI.out.step hfk hlt hc)
          clear hc
          go_wp2_with fail
          exact ⟨⟨k + 1, f, xs, x, by go_num, rfl, rfl, hown, by omega, by omega, Or.inl ⟨by omega, Hnx⟩⟩, by simp [intOf]; omega⟩
      · obtain rfl : s.length = k := by omega
        have Hnx := Lib.hid (HI.out.done hfk)
        rw [Hseg.out] at Hnx
        have heq : ((s.length : Int) == s.length) = true := by simp
        go_wp2_with (first
          | (at_builtin; go_must (refine wpList_app1 (α := Bs) slT_str rfl rfl rfl hown (by (repeat (first | (with_reducible exact Grow.refl _) | assumption | refine Grow.ext ?_ _ | refine Grow.alloc ?_ _ | refine Grow.drew ?_ | refine Grow.setCell ?_ (by first | (simp; done) | (simp; omega)) _ | refine Grow.trans ?_ (by assumption)))) (Nat.le_refl _) (by simp; omega) rfl (y := seg) (Gy := fun _ => False) rfl (fun _ h => h.elim) (by (repeat (refine CellsAt.cons (by go_simp) ?_)); exact CellsAt.nil _ _ _) (by simp [Value.oneCell']) (by omega) (by omega) ?_); intro tv' x' hown' hsz' hagr))
        exact ⟨⟨s.length + 1, s.length + 1, xs ++ [seg], x', by go_num, by go_num, rfl, hown', by simp; omega, Nat.le_refl _, Or.inr ⟨rfl, Hnx⟩⟩, by simp [intOf]⟩
    · have hno : ¬ ((s.length : Int) + 1 ≤ s.length) := by omega
      go_wp2_with fail
      have hl : m2 = (parts s).length := by rw [Hm2.out, HI.out]
      subst hl
      have hsl := hown.sl.wide (F' := Frs w) (fun q _ h => by rcases h with h | h; exact h.elim; exact h)
      rw [HI.out] at hsl
      refine postP_of (v := .slice a2 (parts s).length c2) (by simp only [results, Tryd.results49]; go_simp) rfl (by (repeat (first | (with_reducible exact Grow.refl _) | assumption | refine Grow.ext ?_ _ | refine Grow.alloc ?_ _ | refine Grow.drew ?_ | refine Grow.setCell ?_ (by first | (simp; done) | (simp; omega)) _ | refine Grow.trans ?_ (by assumption)))) ⟨⟨a2, c2, rfl⟩, hsl⟩

theorem wrap_in (a d : Int) : wrap64 (wrap64 a - d) = wrap64 (a - d) := by unfold wrap64; omega
theorem wrap_i64 (a : Int) : I64 (wrap64 a) := by unfold I64 wrap64; omega
theorem refFold_app : ∀ (l : Bs) (n : Int) (c : UInt8), refFold n (l ++ [c]) = refStep (refFold n l) c
  | [], n, c => rfl
  | d :: l, n, c => by rw [List.cons_append, refFold, refFold_app l, refFold]
theorem take_drop1 {s : Bs} {k fr : Nat} (hk : k < s.length) (hf : fr ≤ k) : (s.take (k + 1)).drop fr = (s.take k).drop fr ++ [s[k]] := by
  rw [List.take_add_one, List.getElem?_eq_getElem hk, List.drop_append_of_le_length (by simp; omega)]; rfl
set_option maxRecDepth 100000 in
set_option maxHeartbeats 4000000 in
theorem ref45_number (s : Bs) (hs : s.length ≤ 900000) (w : World) : Calls Tryd.prog 50 #[.string (str s)] w (Ret w (.int .i64 (refNum s))) := by
  have hss : (str s).size = s.length := str_size s
  obtain ⟨r, Hr⟩ : ∃ r, Hid (refNum s = r) := ⟨_, Lib.hid rfl⟩
  rw [Hr.out]
  by_cases h45 : s.head? = some 45
  · have HR : Hid (refFold 0 ((s.take 21).drop 1) = r) := Lib.hid (by rw [← Hr.out]; unfold refNum; rw [if_pos h45])
    obtain ⟨hn1, h0⟩ : ∃ h : 0 < s.length, s[0] = 45 := by
      cases s with
      | nil => cases h45
      | cons c t => injection h45 with h45; exact ⟨by simp, h45⟩
    have hpos : decide ((s.length : Int) > 0) = true := decide_eq_true (by omega)
    have hcz0 := str_at3 hn1 (by rw [hss]; exact hn1)
    have hcb0 : ((s[0].toNat : Int) == 45) = true := by rw [h0]; rfl
    have hn0 : (0 : Int) < s.length := by omega
    replace hn1 : 1 ≤ s.length := hn1
    clear h45 Hr h0
    go_enter Tryd.func50, Tryd.ntmps50
    go_wp2_with fail
    go_loopw [3, 5] (fun nv iv wr => ∃ (k : Nat) (N : Int), iv = .int .i64 k ∧ nv = .int .i64 N ∧ wr = w ∧ 1 ≤ k ∧ k ≤ s.length ∧ k ≤ 21 ∧ I64 N ∧ Hid (N = refFold 0 ((s.take k).drop 1))) (fun _ iv _ => 21 - (intOf iv).toNat)
    case atStart => exact ⟨1, 0, rfl, rfl, rfl, Nat.le_refl _, hn1, by omega, by unfold I64; omega, Lib.hid (by simp [refFold])⟩
    case round =>
      obtain ⟨k, N, rfl, rfl, rfl, hk1, hk, hk21, hN, HN⟩ := hrel
      by_cases hlt : k < s.length
      · have hka : (k : Int) < s.length := by omega
        by_cases h21 : k < 21
        · have hd21 : decide ((k : Int) < 21) = true := decide_eq_true (by omega)
          have hcz := str_at3 hlt (by rw [hss]; exact hlt)
          have Hnx : Hid (wrap64 (wrap64 (10 * N) - IntKind.u8.wrap ((s[k].toNat : Int) - 48)) = refFold 0 ((s.take (k + 1)).drop 1)) := Lib.hid (by rw [take_drop1 hlt hk1, refFold_app, ← HN.out]; unfold refStep; rw [wrap_in])
          go_wp2_with fail
          exact ⟨⟨k + 1, _, by go_num, rfl, trivial, by omega, by omega, by omega, wrap_i64 _, Hnx⟩, by simp [intOf]; omega⟩
        · obtain rfl : 21 = k := by omega
          have hd21 : decide ((21 : Int) < 21) = false := rfl
          have Hfin : Hid (N = refFold 0 ((s.take 21).drop 1)) := HN
          go_wp2_with fail
          go_ret
          exact Ret.mk (by rw [Hfin.out, HR.out]; rfl) (by (repeat (first | (with_reducible exact Grow.refl _) | assumption | refine Grow.ext ?_ _ | refine Grow.alloc ?_ _ | refine Grow.drew ?_ | refine Grow.setCell ?_ (by first | (simp; done) | (simp; omega)) _ | refine Grow.trans ?_ (by assumption))))
      · obtain rfl : s.length = k := by omega
        have hno : decide ((s.length : Int) < s.length) = false := decide_eq_false (by omega)
        have Hfin : Hid (N = refFold 0 ((s.take 21).drop 1)) := Lib.hid (by rw [HN.out, List.take_of_length_le (Nat.le_refl s.length), List.take_of_length_le hk21])
        go_wp2_with fail
        go_ret
        exact Ret.mk (by rw [Hfin.out, HR.out]; rfl) (by (repeat (first | (with_reducible exact Grow.refl _) | assumption | refine Grow.ext ?_ _ | refine Grow.alloc ?_ _ | refine Grow.drew ?_ | refine Grow.setCell ?_ (by first | (simp; done) | (simp; omega)) _ | refine Grow.trans ?_ (by assumption))))
  · have HR : Hid (wrap64 (-(refFold 0 (s.take 21))) = r) := Lib.hid (by rw [← Hr.out]; unfold refNum; rw [if_neg h45])
    have hn1 : 0 ≤ s.length := Nat.zero_le _
    rcases Nat.eq_zero_or_pos s.length with hz | hz
    · obtain rfl : s = [] := List.length_eq_zero_iff.1 hz
      have e : r = 0 := by rw [← HR.out]; show wrap64 (-0) = 0; unfold wrap64; omega
      rw [e]
      clear HR hss hs Hr h45 hz hn1 e
      go_enter Tryd.func50, Tryd.ntmps50
      go_wp2_with fail
      go_loopw [3, 5] (fun nv iv wr => nv = .int .i64 0 ∧ iv = .int .i64 0 ∧ wr = w) (fun _ iv _ => 0)
      case atStart => exact ⟨rfl, rfl, rfl⟩
      case round =>
        obtain ⟨rfl, rfl, rfl⟩ := hrel
        go_wp2_with fail
        go_ret
        exact Ret.mk rfl (by (repeat (first | (with_reducible exact Grow.refl _) | assumption | refine Grow.ext ?_ _ | refine Grow.alloc ?_ _ | refine Grow.drew ?_ | refine Grow.setCell ?_ (by first | (simp; done) | (simp; omega)) _ | refine Grow.trans ?_ (by assumption))))
    have hpos : decide ((s.length : Int) > 0) = true := decide_eq_true (by omega)
    have hcz0 := str_at3 hz (by rw [hss]; exact hz)
    have hcb0 : ((s[0].toNat : Int) == 45) = false := by
      rw [beq_eq_false_iff_ne]
      intro e
      apply h45
      have : s[0] = 45 := UInt8.toNat_inj.1 (by show s[0].toNat = 45; omega)
      rw [List.head?_eq_getElem?, List.getElem?_eq_getElem hz, this]
    have hn0 : (0 : Int) < s.length := by omega
    clear h45 Hr
    go_enter Tryd.func50, Tryd.ntmps50
    go_wp2_with fail
    go_loopw [3, 5] (fun nv iv wr => ∃ (k : Nat) (N : Int), iv = .int .i64 k ∧ nv = .int .i64 N ∧ wr = w ∧ 0 ≤ k ∧ k ≤ s.length ∧ k ≤ 21 ∧ I64 N ∧ Hid (N = refFold 0 ((s.take k).drop 0))) (fun _ iv _ => 21 - (intOf iv).toNat)
    case atStart => exact ⟨0, 0, rfl, rfl, rfl, Nat.le_refl _, hn1, by omega, by unfold I64; omega, Lib.hid (by simp [refFold])⟩
    case round =>
      obtain ⟨k, N, rfl, rfl, rfl, hk1, hk, hk21, hN, HN⟩ := hrel
      by_cases hlt : k < s.length
      · have hka : (k : Int) < s.length := by omega
        by_cases h21 : k < 21
        · have hd21 : decide ((k : Int) < 21) = true := decide_eq_true (by omega)
          have hcz := str_at3 hlt (by rw [hss]; exact hlt)
          have Hnx : Hid (wrap64 (wrap64 (10 * N) - IntKind.u8.wrap ((s[k].toNat : Int) - 48)) = refFold 0 ((s.take (k + 1)).drop 0)) := Lib.hid (by rw [take_drop1 hlt hk1, refFold_app, ← HN.out]; unfold refStep; rw [wrap_in])
          go_wp2_with fail
          exact ⟨⟨k + 1, _, by go_num, rfl, trivial, by omega, by omega, by omega, wrap_i64 _, Hnx⟩, by simp [intOf]; omega⟩
        · obtain rfl : 21 = k := by omega
          have hd21 : decide ((21 : Int) < 21) = false := rfl
          have Hfin : Hid (N = refFold 0 ((s.take 21).drop 0)) := HN
          go_wp2_with fail
          go_ret
          exact Ret.mk (by rw [Hfin.out, ← HR.out]; rfl) (by (repeat (first | (with_reducible exact Grow.refl _) | assumption | refine Grow.ext ?_ _ | refine Grow.alloc ?_ _ | refine Grow.drew ?_ | refine Grow.setCell ?_ (by first | (simp; done) | (simp; omega)) _ | refine Grow.trans ?_ (by assumption))))
      · obtain rfl : s.length = k := by omega
        have hno : decide ((s.length : Int) < s.length) = false := decide_eq_false (by omega)
        have Hfin : Hid (N = refFold 0 ((s.take 21).drop 0)) := Lib.hid (by rw [HN.out, List.take_of_length_le (Nat.le_refl s.length), List.take_of_length_le hk21])
        go_wp2_with fail
        go_ret
        exact Ret.mk (by rw [Hfin.out, ← HR.out]; rfl) (by (repeat (first | (with_reducible exact Grow.refl _) | assumption | refine Grow.ext ?_ _ | refine Grow.alloc ?_ _ | refine Grow.drew ?_ | refine Grow.setCell ?_ (by first | (simp; done) | (simp; omega)) _ | refine Grow.trans ?_ (by assumption))))
end Go.Proofs.YtjllaogechckoaaDoor
