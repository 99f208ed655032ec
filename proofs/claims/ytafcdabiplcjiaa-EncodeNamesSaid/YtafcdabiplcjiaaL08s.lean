/- Layer 8: sizes, inputs, and functions that are recursive. -/
import Derived.Test.YtafcdabiplcjiaaL08e
namespace Go.Proofs.Ytafcdabiplcjiaa
open Go.RowKit
set_option linter.unusedSimpArgs false
set_option linter.unusedVariables false

def ptsB (l : List Bk) : Nat := (l.map (fun b => b.stmts.length)).sum
def fnPts (f : Fn) : Nat := f.blocks.length + ptsB f.blocks
def prPts (l : List Fn) : Nat := (l.map fnPts).sum
theorem ptsB_snoc {l : List Bk} {k : Nat} {b : Bk} (h : Hid (l[k]? = some b)) : ptsB (l.take (k + 1)) = ptsB (l.take k) + b.stmts.length := by
  unfold ptsB; rw [List.take_add_one, h.out]; simp
theorem prPts_snoc {l : List Fn} {k : Nat} {f : Fn} (h : Hid (l[k]? = some f)) : prPts (l.take (k + 1)) = prPts (l.take k) + fnPts f := by
  unfold prPts; rw [List.take_add_one, h.out]; simp
theorem ptsB_le {l : List Bk} (h : ∀ b ∈ l, b.stmts.length ≤ 24) : ptsB l ≤ 24 * l.length := by
  induction l with
  | nil => simp [ptsB]
  | cons b l ih =>
    have h1 := h b (by simp)
    have h2 := ih (fun b hb => h b (by simp [hb]))
    unfold ptsB at h2 ⊢; simp only [List.map_cons, List.sum_cons, List.length_cons]; omega
theorem fnPts_le {f : Fn} (h : fnErr f = 0) : fnPts f ≤ 600 := by
  have := (fn_good h).1
  unfold small at this; simp only [Bool.and_eq_true, decide_eq_true_eq, List.all_eq_true] at this
  have h2 := ptsB_le (l := f.blocks) (fun b hb => by have := this.2 b hb; unfold smallBk at this; simpa using this)
  unfold fnPts; omega
theorem prPts_le {l : List Fn} (h : ∀ f ∈ l, fnErr f = 0) : prPts l ≤ 600 * l.length := by
  induction l with
  | nil => simp [prPts]
  | cons f l ih =>
    have h1 := fnPts_le (h f (by simp))
    have h2 := ih (fun b hb => h b (by simp [hb]))
    unfold prPts at h2 ⊢; simp only [List.map_cons, List.sum_cons, List.length_cons]; omega
def sizeF (f : Fn) : Int × Int := if fnErr f ≠ 0 then (0, fnErr f) else ((fnPts f : Int), 0)
def sizeP (p : Pr) : Int × Int := if prErr p ≠ 0 then (0, prErr p) else ((prPts p.funcs : Int), 0)
def inputsP (p : Pr) : Int × Int := if prErr p ≠ 0 then (0, prErr p) else ((p.funcs.getD 0 fnz).params, 0)
theorem take_le24 {l : List Bk} (h : ∀ b ∈ l, b.stmts.length ≤ 24) (hl : l.length ≤ 24) (k : Nat) : ptsB (l.take k) ≤ 576 := by
  have h1 := ptsB_le (l := l.take k) (fun b hb => h b (List.mem_of_mem_take hb))
  have h2 : (l.take k).length ≤ 24 := by rw [List.length_take]; omega
  omega
set_option maxHeartbeats 1000000 in
theorem fnshape_Size (f : Fn) (v1 v2 : Value) (w : World) {F F' : Nat → Prop} (hf : f.wf) (h1 : Sl F w v1 f.locals) (h2 : Sl F' w v2 f.blocks) :
    Calls Try.prog 26 #[f.v v1 v2] w (Ret w (.tuple #[.int .i64 (sizeF f).1, .int .i64 (sizeF f).2])) := by
  obtain ⟨a, n, cap, rfl, Hn, hm, hcap, hcm, h1⟩ := h1.open
  obtain ⟨a2, n2, cap2, rfl, Hn2, hm2, hcap2, hcm2, h2⟩ := h2.open
  cases he : (fnErr f != 0)
  · have Hok : Hid (fnErr f = 0) := Lib.hid (by simpa using he)
    have Hsm : Hid ((∀ b ∈ f.blocks, b.stmts.length ≤ 24) ∧ f.blocks.length ≤ 24) := Lib.hid (by
      have := (fn_good Hok.out).1
      unfold small at this; simp only [Bool.and_eq_true, decide_eq_true_eq, List.all_eq_true] at this
      exact ⟨fun b hb => by have := this.2 b hb; unfold smallBk at this; simpa using this, this.1.2⟩)
    have Hs : Hid (sizeF f = ((fnPts f : Int), 0)) := Lib.hid (by unfold sizeF; rw [if_neg (by simpa using Hok.out)])
    have hn24 : n2 ≤ 24 := by rw [Hn2.out]; exact Hsm.out.2
    rw [Hs.out]
    go_enter Try.func26, Try.ntmps26
    go_wp2_with (first | (go_at_call 32; ((with_reducible refine (fnshape_Check f _ _ _ hf (h1.mono (by (repeat (first | (with_reducible exact Grow.refl _) | assumption | refine Grow.ext ?_ _ | refine Grow.alloc ?_ _ | refine Grow.drew ?_ | refine Grow.setCell ?_ (by first | (simp; done) | (simp; omega)) _ | refine Grow.trans ?_ (by assumption))))) (h2.mono (by (repeat (first | (with_reducible exact Grow.refl _) | assumption | refine Grow.ext ?_ _ | refine Grow.alloc ?_ _ | refine Grow.drew ?_ | refine Grow.setCell ?_ (by first | (simp; done) | (simp; omega)) _ | refine Grow.trans ?_ (by assumption)))))).mono ?_); rintro e w1 ⟨rfl, hb1⟩; obtain ⟨x1, rfl⟩ := ext_of_grow hb1; clear hb1)))
    go_loopw [5, 19] (fun s i wr => ∃ (k m : Nat), k ≤ n2 ∧ i = .int .i64 k ∧ s = .int .i64 m ∧ m ≤ 1000 ∧ Hid (m = n2 + ptsB (f.blocks.take k)) ∧ Grow (ext (w.alloc (Obj.cells #[.int .i64 f.params, .bool f.uns, .slice a n cap, .slice a2 n2 cap2] 25)) x1) wr) (fun _ i _ => n2 - (intOf i).toNat)
    case atStart => exact ⟨0, n2, Nat.zero_le _, rfl, rfl, by omega, Lib.hid (by simp [ptsB]), (by (repeat (first | (with_reducible exact Grow.refl _) | assumption | refine Grow.ext ?_ _ | refine Grow.alloc ?_ _ | refine Grow.drew ?_ | refine Grow.setCell ?_ (by first | (simp; done) | (simp; omega)) _ | refine Grow.trans ?_ (by assumption))))⟩
    case round =>
      obtain ⟨k, m, hk, rfl, rfl, hm1000, Hm, hb1⟩ := hrel
      obtain ⟨y1, rfl⟩ := ext_of_grow hb1
      by_cases hlt : k < n2
      · obtain ⟨b_b, off_b, b, b_stmts_a, b_stmts_n, b_stmts_c, b_jump_args_a, b_jump_args_n, b_jump_args_c, rfl, ⟨Hg_b, hl_b, hw_b, b_stmts, b_jump_args, c_b0, c_b1, c_b2, c_b3, c_b4, c_b5, c_b6, c_b7, c_b8, c_b9, c_b10, c_b11, c_b12, c_b13, r_b0, r_b1, r_b2, r_b3, r_b4⟩⟩ := h2.bk k hlt
        have Hsn := Lib.hid (ptsB_snoc Hg_b)
        have Hl := Lib.hid b_stmts.len
        have Hle := Lib.hid (take_le24 Hsm.out.1 Hsm.out.2 (k + 1))
        have hle : m + b_stmts_n ≤ 600 := by
          have e1 := Hm.out; have e2 := Hsn.out; have e3 := Hl.out; have e4 := Hle.out; omega
        go_wp2_with fail
        go_roundw
        case rel => exact ⟨k + 1, m + b_stmts_n, by omega, by go_num, by go_num, by omega, Lib.hid (by rw [Hsn.out, Hm.out, Hl.out]; omega), (by (repeat (first | (with_reducible exact Grow.refl _) | assumption | refine Grow.ext ?_ _ | refine Grow.alloc ?_ _ | refine Grow.drew ?_ | refine Grow.setCell ?_ (by first | (simp; done) | (simp; omega)) _ | refine Grow.trans ?_ (by assumption))))⟩
        case measure => simp [intOf]; omega
      · have Hend : Hid (m = fnPts f) := Lib.hid (by
          rw [Hm.out, List.take_of_length_le (by rw [← Hn2.out]; omega)]; unfold fnPts; rw [← Hn2.out])
        go_wp2_with fail
        go_ret2
        exact Ret.mk (by simp only [Hend.out]; rfl) (by (repeat (first | (with_reducible exact Grow.refl _) | assumption | refine Grow.ext ?_ _ | refine Grow.alloc ?_ _ | refine Grow.drew ?_ | refine Grow.setCell ?_ (by first | (simp; done) | (simp; omega)) _ | refine Grow.trans ?_ (by assumption))))
  · have Hs : Hid (sizeF f = (0, fnErr f)) := Lib.hid (by unfold sizeF; rw [if_pos (by simpa using he)])
    rw [Hs.out]
    go_enter Try.func26, Try.ntmps26
    go_wp2_with (first | (go_at_call 32; ((with_reducible refine (fnshape_Check f _ _ _ hf (h1.mono (by (repeat (first | (with_reducible exact Grow.refl _) | assumption | refine Grow.ext ?_ _ | refine Grow.alloc ?_ _ | refine Grow.drew ?_ | refine Grow.setCell ?_ (by first | (simp; done) | (simp; omega)) _ | refine Grow.trans ?_ (by assumption))))) (h2.mono (by (repeat (first | (with_reducible exact Grow.refl _) | assumption | refine Grow.ext ?_ _ | refine Grow.alloc ?_ _ | refine Grow.drew ?_ | refine Grow.setCell ?_ (by first | (simp; done) | (simp; omega)) _ | refine Grow.trans ?_ (by assumption)))))).mono ?_); rintro e w1 ⟨rfl, hb1⟩; obtain ⟨x1, rfl⟩ := ext_of_grow hb1; clear hb1)))
    go_ret2
    exact ⟨rfl, (by (repeat (first | (with_reducible exact Grow.refl _) | assumption | refine Grow.ext ?_ _ | refine Grow.alloc ?_ _ | refine Grow.drew ?_ | refine Grow.setCell ?_ (by first | (simp; done) | (simp; omega)) _ | refine Grow.trans ?_ (by assumption))))⟩
theorem fnshape_Size_at (f : Fn) (v1 v2 : Value) (w : World) {F F' : Nat → Prop} (hf : f.wf) (h1 : Sl F w v1 f.locals) (h2 : Sl F' w v2 f.blocks) (he : fnErr f = 0) {m : Nat} (hm : fnPts f = m) :
    Calls Try.prog 26 #[f.v v1 v2] w (Ret w (.tuple #[.int .i64 m, .int .i64 0])) := by
  have := fnshape_Size f v1 v2 w hf h1 h2
  unfold sizeF at this; rw [if_neg (by simpa using he), hm] at this; exact this
def recB (p : Pr) (f : Nat) : Bool := rnds (gr p) p.funcs.length 8 (gr p f) f
theorem recB_iff {p : Pr} (h : prErr p = 0) (f : Nat) : recB p f = true ↔ Rch (gr p) f f := by
  unfold recB
  rw [rnds_from (pr_ok h).2.1 (gr_lt h)]
  constructor
  · rintro (h | ⟨i, hi, hr⟩)
    · exact .one h
    · exact Rch.trans (.one hi) hr
  · intro h
    have key : ∀ c, Rch (gr p) f c → gr p f c = true ∨ ∃ i, gr p f i = true ∧ Rch (gr p) i c := by
      intro c hc
      induction hc with
      | one h => exact Or.inl h
      | next h1 h2 ih =>
        rcases ih with ih | ⟨i, hi, hr⟩
        · exact Or.inr ⟨_, ih, .one h2⟩
        · exact Or.inr ⟨i, hi, .next hr h2⟩
    exact key f h
def recP (p : Pr) (f : Int) : Bool × Int := if prErr p ≠ 0 then (false, prErr p) else if f < 0 ∨ (p.funcs.length : Int) ≤ f then (false, 2) else (recB p f.toNat, 0)
end Go.Proofs.Ytafcdabiplcjiaa
