/- Layer 17: programs with marks as the bits of a number say. -/
import Derived.Test.YtiikhfjdpaofdaaL17s
namespace Go.Proofs.Ytiikhfjdpaofdaa
open Go.RowKit
set_option linter.unusedSimpArgs false
set_option linter.unusedVariables false

/-- The marks of the first k functions, as u says. -/
def marks (l : List Fn) (u : Nat → Bool) : Nat → List Fn
  | 0 => l
  | k + 1 => mark (marks l u k) k (u k)
theorem marks_len (l : List Fn) (u : Nat → Bool) : ∀ k, (marks l u k).length = l.length
  | 0 => rfl
  | k + 1 => by simp only [marks, mark, List.length_modify]; exact marks_len l u k
theorem marks_get (l : List Fn) (u : Nat → Bool) : ∀ (k i : Nat) (f : Fn), l[i]? = some f → (marks l u k)[i]? = some ⟨f.params, if i < k then u i else f.uns, f.locals, f.blocks⟩
  | 0, i, f, h => by simpa [marks] using h
  | k + 1, i, f, h => by
    have ih := marks_get l u k i f h
    simp only [marks, mark, List.getElem?_modify, ih, Option.map_some]
    by_cases q : k = i
    · subst q; simp
    · have e : (i < k + 1) = (i < k) := by apply propext; constructor <;> intro h <;> omega
      simp [q, e]
theorem marks_like (p : Pr) (u : Nat → Bool) (k : Nat) : Like p ⟨marks p.funcs u k⟩ := by
  unfold Like
  apply List.ext_getElem?
  intro i
  simp only [List.getElem?_map]
  cases h : p.funcs[i]? with
  | none => rw [List.getElem?_eq_none (by rw [marks_len]; exact List.getElem?_eq_none_iff.1 h)]
  | some f => rw [marks_get _ _ _ _ _ h]; rfl
def bitB (x : Int) (k : Nat) : Bool := Go.bits BinOp.and .i64 (x / 2 ^ (k % 32)) 1 == 1
def withP (p : Pr) (bits : Int) : Pr := ⟨marks p.funcs (bitB bits) p.funcs.length⟩
theorem and_one (y : Int) : Go.bits BinOp.and .i64 y 1 = y % 2 := by
  unfold Go.bits
  simp only [BitVec.toNat_and, BitVec.toNat_ofInt]
  have e : ((1 : Int) % ((2 ^ IntKind.i64.bits : Nat) : Int)).toNat = 1 := by decide
  rw [e, Nat.and_one_is_mod]
  have e2 : ((2 ^ IntKind.i64.bits : Nat) : Int) = 18446744073709551616 := by decide
  rw [e2]
  have e3 : (((y % 18446744073709551616).toNat % 2 : Nat) : Int) = y % 2 := by omega
  rw [e3]
  have : IntKind.i64.wrap (y % 2) = y % 2 := by
    rcases (show y % 2 = 0 ∨ y % 2 = 1 by omega) with h | h <;> rw [h] <;> decide
  exact this
theorem bitB_eq (x : Int) (k : Nat) (h : k < 8) : bitB x k = ((x / 2 ^ k) % 2 == 1) := by
  unfold bitB; rw [and_one, Nat.mod_eq_of_lt (by omega)]
theorem bitB_ones (k : Nat) (h : k < 8) : bitB (-1) k = true := by
  rw [bitB_eq _ _ h]
  obtain rfl | rfl | rfl | rfl | rfl | rfl | rfl | rfl : k = 0 ∨ k = 1 ∨ k = 2 ∨ k = 3 ∨ k = 4 ∨ k = 5 ∨ k = 6 ∨ k = 7 := by omega
  all_goals decide
theorem bitB_zero (k : Nat) (h : k < 8) : bitB 0 k = false := by
  rw [bitB_eq _ _ h]
  obtain rfl | rfl | rfl | rfl | rfl | rfl | rfl | rfl : k = 0 ∨ k = 1 ∨ k = 2 ∨ k = 3 ∨ k = 4 ∨ k = 5 ∨ k = 6 ∨ k = 7 := by omega
  all_goals decide
theorem div_mod64 (x : Int) (k : Nat) (h : k < 8) : ((x % 18446744073709551616) / 2 ^ k) % 2 = (x / 2 ^ k) % 2 := by
  obtain rfl | rfl | rfl | rfl | rfl | rfl | rfl | rfl : k = 0 ∨ k = 1 ∨ k = 2 ∨ k = 3 ∨ k = 4 ∨ k = 5 ∨ k = 6 ∨ k = 7 := by omega
  all_goals omega
theorem test_int (N k : Nat) : N.testBit k = (((N : Int) / 2 ^ k) % 2 == 1) := by
  rw [Nat.testBit_eq_decide_div_mod_eq]
  have : ((N : Int) / 2 ^ k) % 2 = ((N / 2 ^ k % 2 : Nat) : Int) := by push_cast; rfl
  rw [this]
  rcases (show N / 2 ^ k % 2 = 0 ∨ N / 2 ^ k % 2 = 1 by omega) with h | h <;> rw [h] <;> rfl
/-- One bit turned leaves the others. -/
theorem bitB_xor (x : Int) (f k : Nat) (hf : f < 8) (hk : k < 8) (h : k ≠ f) : bitB (Go.bits BinOp.xor .i64 x (2 ^ f)) k = bitB x k := by
  rw [bitB_eq _ _ hk, bitB_eq _ _ hk]
  unfold Go.bits
  simp only []
  have e64 : IntKind.i64.bits = 64 := rfl
  generalize hN : (BitVec.ofInt IntKind.i64.bits x ^^^ BitVec.ofInt IntKind.i64.bits (2 ^ f)).toNat = N
  have h1 : IntKind.i64.wrap (N : Int) % 18446744073709551616 = (N : Int) % 18446744073709551616 := by
    unfold IntKind.wrap
    have e1 : (2 ^ IntKind.i64.bits : Int) = 18446744073709551616 := by decide
    simp only [e1]
    split <;> omega
  rw [← div_mod64 _ k hk, h1, div_mod64 _ k hk, ← test_int, ← hN, BitVec.toNat_xor, Nat.testBit_xor]
  have h2 : (BitVec.ofInt IntKind.i64.bits (2 ^ f)).toNat = 2 ^ f := by
    rw [BitVec.toNat_ofInt]
    obtain rfl | rfl | rfl | rfl | rfl | rfl | rfl | rfl : f = 0 ∨ f = 1 ∨ f = 2 ∨ f = 3 ∨ f = 4 ∨ f = 5 ∨ f = 6 ∨ f = 7 := by omega
    all_goals decide
  rw [h2, Nat.testBit_two_pow_of_ne (Ne.symm h), Bool.xor_false, BitVec.toNat_ofInt, test_int]
  have e2 : ((2 ^ IntKind.i64.bits : Nat) : Int) = 18446744073709551616 := by decide
  rw [e2]
  have e3 : ((x % 18446744073709551616).toNat : Int) = x % 18446744073709551616 := by omega
  rw [e3, div_mod64 _ k hk]
theorem heap_alloc_at {W : World} {o : Obj} {g : Nat} (h : g = W.heap.size) : (W.alloc o).heap[g]? = some o := by subst h; exact Array.getElem?_push_size
set_option maxRecDepth 100000 in
set_option maxHeartbeats 2000000 in
theorem ref17_With (p : Pr) (pv : Value) (bits : Int) (w : World) {F : Nat → Prop} (hp : Sl F w pv p.funcs) (hb : I64 bits) (hok : prErr p = 0) :
    Calls Try.prog 46 #[p.v pv, .int .i64 bits] w (RetP w fun v w' => ∃ u, v = Pr.v (withP p bits) u ∧ Sl (fun _ => True) w' u (withP p bits).funcs) := by
  replace hp := hp.old
  obtain ⟨a, n, cap, rfl, Hn, hm, hcap, hcm, hp⟩ := hp.open
  have Hok := Lib.hid hok
  have hn8 : n ≤ 8 := by have := (pr_ok Hok.out).2.1; rw [← Hn.out] at this; exact this
  have hn0 : 0 < n := by have := (pr_ok Hok.out).1; rw [← Hn.out] at this; exact this
  clear hok
  go_enter Try.func46, Try.ntmps46
  go_wp2_with (first | (at_builtin; go_must (refine wpList_copy (α := Fn) slT_fn rfl rfl rfl rfl (hp.mono (by (repeat (first | (with_reducible exact Grow.refl _) | assumption | refine Grow.ext ?_ _ | refine Grow.alloc ?_ _ | refine Grow.drew ?_ | refine Grow.setCell ?_ (by first | (simp; done) | (simp; omega)) _ | refine Grow.trans ?_ (by assumption))))) hn0 (by omega) (by omega) ?_); intro C capC hC1 hC2 HC))
  go_loopw [6] (fun i wr => ∃ (k : Nat) (D : Array Value) (x : Ext), k ≤ n ∧ i = .int .i64 k ∧ wr = ext (((((w.alloc (Obj.cells #[.slice a n cap] 24)).alloc (.cells #[.slice none 0 0] 24)).alloc (.cells #[] 49)).alloc (.cells D 49)).alloc (.cells #[.slice (some ⟨w.heap.size + 1 + 1 + 1, 0, none⟩) n capC] 24)) x ∧ Rows8 (Old w) (((w.alloc (Obj.cells #[.slice a n cap] 24)).alloc (.cells #[.slice none 0 0] 24)).alloc (.cells #[] 49)) D (marks p.funcs (bitB bits) k)) (fun i _ => n - (intOf i).toNat)
  case atStart => 
    obtain ⟨x0, hx0⟩ := ext_of_grow (Grow.refl (((((w.alloc (Obj.cells #[.slice a n cap] 24)).alloc (.cells #[.slice none 0 0] 24)).alloc (.cells #[] 49)).alloc (.cells C 49)).alloc (.cells #[.slice (some ⟨w.heap.size + 1 + 1 + 1, 0, none⟩) n capC] 24))).drew
    exact ⟨0, C, x0, Nat.zero_le _, rfl, hx0, HC⟩
  case round =>
    obtain ⟨k, D, x, hk, rfl, rfl, HD⟩ := hrel
    by_cases hlt : k < n
    · have hlen : k < (marks p.funcs (bitB bits) k).length := by rw [marks_len, ← Hn.out]; exact hlt
      obtain ⟨u0, hcell⟩ := HD.uns k hlen
      have HD' := HD.mark k hlen (bitB bits k)
      go_wp2_with fail
      go_roundw
      case rel => exact ⟨k + 1, _, x, by omega, by go_num, rfl, HD'⟩
      case measure => simp [intOf]; omega
    · obtain rfl : k = n := by omega
      go_wp2_with fail
      (refine postP_of (by simp only [results, Try.results46]; go_simp <;> rfl) rfl (by (repeat (first | (with_reducible exact Grow.refl _) | assumption | refine Grow.ext ?_ _ | refine Grow.alloc ?_ _ | refine Grow.drew ?_ | refine Grow.setCell ?_ (by first | (simp; done) | (simp; omega)) _ | refine Grow.trans ?_ (by assumption)))) ⟨_, rfl, ?_⟩)
      unfold withP
      rw [← Hn.out]
      have hl : (marks p.funcs (bitB bits) k).length = k := by rw [marks_len, ← Hn.out]
      have := HD.sl (g := w.heap.size + 1 + 1 + 1) (cap := capC) (w' := (((w.alloc (Obj.cells #[.slice a k cap] 24)).alloc (.cells #[.slice (some ⟨w.heap.size + 1 + 1 + 1, 0, none⟩) k capC] 24)).alloc (.cells #[] 49)).alloc (.cells D 49)) (e := 49) (heap_alloc_at (by simp)) (agr_old (by (repeat (first | (with_reducible exact Grow.refl _) | assumption | refine Grow.ext ?_ _ | refine Grow.alloc ?_ _ | refine Grow.drew ?_ | refine Grow.setCell ?_ (by first | (simp; done) | (simp; omega)) _ | refine Grow.trans ?_ (by assumption)))) (by (repeat (first | (with_reducible exact Grow.refl _) | assumption | refine Grow.ext ?_ _ | refine Grow.alloc ?_ _ | refine Grow.drew ?_ | refine Grow.setCell ?_ (by first | (simp; done) | (simp; omega)) _ | refine Grow.trans ?_ (by assumption))))) (by rw [hl]; exact hC1) hC2
      rw [hl] at this
      exact (this.mono (by (repeat (first | (with_reducible exact Grow.refl _) | assumption | refine Grow.ext ?_ _ | refine Grow.alloc ?_ _ | refine Grow.drew ?_ | refine Grow.setCell ?_ (by first | (simp; done) | (simp; omega)) _ | refine Grow.trans ?_ (by assumption))))).wide (fun _ _ _ => trivial)
theorem with_ok {p : Pr} (h : prErr p = 0) (bits : Int) : prErr (withP p bits) = 0 := (marks_like p _ _).err.trans h
theorem with_get {p : Pr} {bits : Int} {i : Nat} {f : Fn} (h : p.funcs[i]? = some f) : (withP p bits).funcs[i]? = some ⟨f.params, bitB bits i, f.locals, f.blocks⟩ := by
  have := marks_get p.funcs (bitB bits) p.funcs.length i f h
  rw [if_pos (List.getElem?_eq_some_iff.1 h).1] at this; exact this
theorem with_len (p : Pr) (bits : Int) : (withP p bits).funcs.length = p.funcs.length := marks_len _ _ _
theorem with_uns {p : Pr} {bits : Int} {i : Nat} {f : Fn} (h : (withP p bits).funcs[i]? = some f) : f.uns = bitB bits i := by
  have hi : i < p.funcs.length := by rw [← with_len p bits]; exact (List.getElem?_eq_some_iff.1 h).1
  rw [with_get (List.getElem?_eq_getElem hi)] at h
  injection h with h; rw [← h]
theorem with_mem {p : Pr} (hp : prErr p = 0) {bits : Int} {f : Fn} (h : f ∈ (withP p bits).funcs) : ∃ i, i < 8 ∧ f.uns = bitB bits i := by
  obtain ⟨i, hi, rfl⟩ := List.getElem_of_mem h
  refine ⟨i, ?_, with_uns (List.getElem?_eq_getElem hi)⟩
  have := (pr_ok hp).2.1; rw [with_len] at hi; omega
end Go.Proofs.Ytiikhfjdpaofdaa
