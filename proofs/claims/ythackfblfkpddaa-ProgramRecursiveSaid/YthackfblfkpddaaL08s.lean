/- Layer 8: sizes, inputs, and functions that are recursive. -/
import Derived.Test.YthackfblfkpddaaL08e
namespace Go.Proofs.Ythackfblfkpddaa
open Go.RowKit
set_option linter.unusedSimpArgs false
set_option linter.unusedVariables false

def ptsB (l : List Bk) : Nat := (l.map (fun b => b.stmts.length)).sum
def fnPts (f : Fn) : Nat := f.blocks.length + ptsB f.blocks
def prPts (l : List Fn) : Nat := (l.map fnPts).sum
theorem ptsB_snoc {l : List Bk} {k : Nat} {b : Bk} (h : Hid (l[k]? = some b)) : ptsB (l.take (k + 1)) = ptsB (l.take k) + b.stmts.length := by
  unfold ptsB; rw [List.take_add_one, h.out]; simp
theorem prPts_snoc {l : List Fn} {k : Nat} {f : Fn} (h : Hid (l[k]? = some f)) : prPts (l.take (k + 1)) = prPts (l.take k) + fnPts f := by
  unfold prPts; rw [List.take_add_one, h.out]; simp
theorem ptsB_le {l : List Bk} (h : ∀ b ∈ l, b.stmts.length ≤ 24) : ptsB l ≤ 24 * l.length := by
  induction l with
  | nil => simp [ptsB]
  | cons b l ih =>
    have h1 := h b (by simp)
    have h2 := ih (fun b hb => h b (by simp [hb]))
    unfold ptsB at h2 ⊢; simp only [List.map_cons, List.sum_cons, List.length_cons]; omega
theorem fnPts_le {f : Fn} (h : fnErr f = 0) : fnPts f ≤ 600 := by
  have := (fn_good h).1
  unfold small at this; simp only [Bool.and_eq_true, decide_eq_true_eq, List.all_eq_true] at this
  have h2 := ptsB_le (l := f.blocks) (fun b hb => by have := this.2 b hb; unfold smallBk at this; simpa using this)
  unfold fnPts; omega
theorem prPts_le {l : List Fn} (h : ∀ f ∈ l, fnErr f = 0) : prPts l ≤ 600 * l.length := by
  induction l with
  | nil => simp [prPts]
  | cons f l ih =>
    have h1 := fnPts_le (h f (by simp))
    have h2 := ih (fun b hb => h b (by simp [hb]))
    unfold prPts at h2 ⊢; simp only [List.map_cons, List.sum_cons, List.length_cons]; omega
def sizeF (f : Fn) : Int × Int := if fnErr f ≠ 0 then (0, fnErr f) else ((fnPts f : Int), 0)
def sizeP (p : Pr) : Int × Int := if prErr p ≠ 0 then (0, prErr p) else ((prPts p.funcs : Int), 0)
def inputsP (p : Pr) : Int × Int := if prErr p ≠ 0 then (0, prErr p) else ((p.funcs.getD 0 fnz).params, 0)
theorem take_le24 {l : List Bk} (h : ∀ b ∈ l, b.stmts.length ≤ 24) (hl : l.length ≤ 24) (k : Nat) : ptsB (l.take k) ≤ 576 := by
  have h1 := ptsB_le (l := l.take k) (fun b hb => h b (List.mem_of_mem_take hb))
  have h2 : (l.take k).length ≤ 24 := by rw [List.length_take]; omega
  omega
set_option maxHeartbeats 1000000 in
theorem fnshape_Size (f : Fn) (v1 v2 : Value) (w : World) {F F' : Nat → Prop} (hf : f.wf) (h1 : Sl F w v1 f.locals) (h2 : Sl F' w v2 f.blocks) :
    Calls Try.prog 47 #[f.v v1 v2] w (Ret w (.tuple #[.int .i64 (sizeF f).1, .int .i64 (sizeF f).2])) := by
  obtain ⟨a, n, cap, rfl, Hn, hm, hcap, hcm, h1⟩ := h1.open
  obtain ⟨a2, n2, cap2, rfl, Hn2, hm2, hcap2, hcm2, h2⟩ := h2.open
  cases he : (fnErr f != 0)
  · have Hok : Hid (fnErr f = 0) := Lib.hid (by simpa using he)
    have Hsm : Hid ((∀ b ∈ f.blocks, b.stmts.length ≤ 24) ∧ f.blocks.length ≤ 24) := Lib.hid (by
      have := (fn_good Hok.out).1
      unfold small at this; simp only [Bool.and_eq_true, decide_eq_true_eq, List.all_eq_true] at this
      exact ⟨fun b hb => by have := this.2 b hb; unfold smallBk at this; simpa using this, this.1.2⟩)
    have Hs : Hid (sizeF f = ((fnPts f : Int), 0)) := Lib.hid (by unfold sizeF; rw [if_neg (by simpa using Hok.out)])
    have hn24 : n2 ≤ 24 := by rw [Hn2.out]; exact Hsm.out.2
    rw [Hs.out]
    go_enter Try.func47, Try.ntmps47
    go_wp2_with (first | (go_at_call 45; ((with_reducible refine (fnshape_Check f _ _ _ hf (h1.mono (by (repeat (first | (with_reducible exact Grow.refl _) | assumption | refine Grow.ext ?_ _ | refine Grow.alloc ?_ _ | refine Grow.drew ?_ | refine Grow.setCell ?_ (by first | (simp; done) | (simp; omega)) _ | refine Grow.trans ?_ (by assumption))))) (h2.mono (by (repeat (first | (with_reducible exact Grow.refl _) | assumption | refine Grow.ext ?_ _ | refine Grow.alloc ?_ _ | refine Grow.drew ?_ | refine Grow.setCell ?_ (by first | (simp; done) | (simp; omega)) _ | refine Grow.trans ?_ (by assumption)))))).mono ?_); rintro e w1 ⟨rfl, hb1⟩; obtain ⟨x1, rfl⟩ := ext_of_grow hb1; clear hb1)))
    go_loopw [5, 19] (fun s i wr => ∃ (k m : Nat), k ≤ n2 ∧ i = .int .i64 k ∧ s = .int .i64 m ∧ m ≤ 1000 ∧ Hid (m = n2 + ptsB (f.blocks.take k)) ∧ Grow (ext (w.alloc (Obj.cells #[.int .i64 f.params, .bool f.uns, .slice a n cap, .slice a2 n2 cap2] 50)) x1) wr) (fun _ i _ => n2 - (intOf i).toNat)
    case atStart => exact ⟨0, n2, Nat.zero_le _, rfl, rfl, by omega, Lib.hid (by simp [ptsB]), (by (repeat (first | (with_reducible exact Grow.refl _) | assumption | refine Grow.ext ?_ _ | refine Grow.alloc ?_ _ | refine Grow.drew ?_ | refine Grow.setCell ?_ (by first | (simp; done) | (simp; omega)) _ | refine Grow.trans ?_ (by assumption))))⟩
    case round =>
      obtain ⟨k, m, hk, rfl, rfl, hm1000, Hm, hb1⟩ := hrel
      obtain ⟨y1, rfl⟩ := ext_of_grow hb1
      by_cases hlt : k < n2
      · obtain ⟨b_b, off_b, b, b_stmts_a, b_stmts_n, b_stmts_c, b_jump_args_a, b_jump_args_n, b_jump_args_c, rfl, ⟨Hg_b, hl_b, hw_b, b_stmts, b_jump_args, c_b0, c_b1, c_b2, c_b3, c_b4, c_b5, c_b6, c_b7, c_b8, c_b9, c_b10, c_b11, c_b12, c_b13, r_b0, r_b1, r_b2, r_b3, r_b4⟩⟩ := h2.bk k hlt
        have Hsn := Lib.hid (ptsB_snoc Hg_b)
        have Hl := Lib.hid b_stmts.len
        have Hle := Lib.hid (take_le24 Hsm.out.1 Hsm.out.2 (k + 1))
        have hle : m + b_stmts_n ≤ 600 := by
          have e1 := Hm.out; have e2 := Hsn.out; have e3 := Hl.out; have e4 := Hle.out; omega
        go_wp2_with fail
        go_roundw
        case rel => exact ⟨k + 1, m + b_stmts_n, by omega, by go_num, by go_num, by omega, Lib.hid (by rw [Hsn.out, Hm.out, Hl.out]; omega), (by (repeat (first | (with_reducible exact Grow.refl _) | assumption | refine Grow.ext ?_ _ | refine Grow.alloc ?_ _ | refine Grow.drew ?_ | refine Grow.setCell ?_ (by first | (simp; done) | (simp; omega)) _ | refine Grow.trans ?_ (by assumption))))⟩
        case measure => simp [intOf]; omega
      · have Hend : Hid (m = fnPts f) := Lib.hid (by
          rw [Hm.out, List.take_of_length_le (by rw [← Hn2.out]; omega)]; unfold fnPts; rw [← Hn2.out])
        go_wp2_with fail
        go_ret2
        exact Ret.mk (by simp only [Hend.out]; rfl) (by (repeat (first | (with_reducible exact Grow.refl _) | assumption | refine Grow.ext ?_ _ | refine Grow.alloc ?_ _ | refine Grow.drew ?_ | refine Grow.setCell ?_ (by first | (simp; done) | (simp; omega)) _ | refine Grow.trans ?_ (by assumption))))
  · have Hs : Hid (sizeF f = (0, fnErr f)) := Lib.hid (by unfold sizeF; rw [if_pos (by simpa using he)])
    rw [Hs.out]
    go_enter Try.func47, Try.ntmps47
    go_wp2_with (first | (go_at_call 45; ((with_reducible refine (fnshape_Check f _ _ _ hf (h1.mono (by (repeat (first | (with_reducible exact Grow.refl _) | assumption | refine Grow.ext ?_ _ | refine Grow.alloc ?_ _ | refine Grow.drew ?_ | refine Grow.setCell ?_ (by first | (simp; done) | (simp; omega)) _ | refine Grow.trans ?_ (by assumption))))) (h2.mono (by (repeat (first | (with_reducible exact Grow.refl _) | assumption | refine Grow.ext ?_ _ | refine Grow.alloc ?_ _ | refine Grow.drew ?_ | refine Grow.setCell ?_ (by first | (simp; done) | (simp; omega)) _ | refine Grow.trans ?_ (by assumption)))))).mono ?_); rintro e w1 ⟨rfl, hb1⟩; obtain ⟨x1, rfl⟩ := ext_of_grow hb1; clear hb1)))
    go_ret2
    exact ⟨rfl, (by (repeat (first | (with_reducible exact Grow.refl _) | assumption | refine Grow.ext ?_ _ | refine Grow.alloc ?_ _ | refine Grow.drew ?_ | refine Grow.setCell ?_ (by first | (simp; done) | (simp; omega)) _ | refine Grow.trans ?_ (by assumption))))⟩
theorem fnshape_Size_at (f : Fn) (v1 v2 : Value) (w : World) {F F' : Nat → Prop} (hf : f.wf) (h1 : Sl F w v1 f.locals) (h2 : Sl F' w v2 f.blocks) (he : fnErr f = 0) {m : Nat} (hm : fnPts f = m) :
    Calls Try.prog 47 #[f.v v1 v2] w (Ret w (.tuple #[.int .i64 m, .int .i64 0])) := by
  have := fnshape_Size f v1 v2 w hf h1 h2
  unfold sizeF at this; rw [if_neg (by simpa using he), hm] at this; exact this
set_option maxHeartbeats 1000000 in
theorem program_Size (p : Pr) (pv : Value) (w : World) {F : Nat → Prop} (hp : Sl F w pv p.funcs) :
    Calls Try.prog 25 #[p.v pv] w (Ret w (.tuple #[.int .i64 (sizeP p).1, .int .i64 (sizeP p).2])) := by
  obtain ⟨a, n, cap, rfl, Hn, hm, hcap, hcm, hp⟩ := hp.open
  cases he : (prErr p != 0)
  · have Hok : Hid (prErr p = 0) := Lib.hid (by simpa using he)
    have H8 := Lib.hid (pr_ok Hok.out)
    have Hs : Hid (sizeP p = ((prPts p.funcs : Int), 0)) := Lib.hid (by unfold sizeP; rw [if_neg (by simpa using Hok.out)])
    have hn8 : n ≤ 8 := by rw [Hn.out]; exact H8.out.2.1
    rw [Hs.out]
    go_enter Try.func25, Try.ntmps25
    go_wp2_with (first | (go_at_call 26; ((with_reducible refine (program_Check p _ _ (hp.mono (by (repeat (first | (with_reducible exact Grow.refl _) | assumption | refine Grow.ext ?_ _ | refine Grow.alloc ?_ _ | refine Grow.drew ?_ | refine Grow.setCell ?_ (by first | (simp; done) | (simp; omega)) _ | refine Grow.trans ?_ (by assumption)))))).mono ?_); rintro e w1 ⟨rfl, hb1⟩; obtain ⟨x1, rfl⟩ := ext_of_grow hb1; clear hb1)))
    go_loopw [5, 18] (fun s i wr => ∃ (k m : Nat), k ≤ n ∧ i = .int .i64 k ∧ s = .int .i64 m ∧ m ≤ 5000 ∧ Hid (m = prPts (p.funcs.take k)) ∧ Grow (ext (w.alloc (Obj.cells #[.slice a n cap] 43)) x1) wr) (fun _ i _ => n - (intOf i).toNat)
    case atStart => exact ⟨0, 0, Nat.zero_le _, rfl, rfl, by omega, Lib.hid (by simp [prPts]), (by (repeat (first | (with_reducible exact Grow.refl _) | assumption | refine Grow.ext ?_ _ | refine Grow.alloc ?_ _ | refine Grow.drew ?_ | refine Grow.setCell ?_ (by first | (simp; done) | (simp; omega)) _ | refine Grow.trans ?_ (by assumption))))⟩
    case round =>
      obtain ⟨k, m, hk, rfl, rfl, hm1000, Hm, hb1⟩ := hrel
      obtain ⟨y1, rfl⟩ := ext_of_grow hb1
      by_cases hlt : k < n
      · obtain ⟨b_f, off_f, f, f_locals_a, f_locals_n, f_locals_c, f_blocks_a, f_blocks_n, f_blocks_c, rfl, ⟨Hg_f, hl_f, hw_f, f_locals, f_blocks, c_f0, c_f1, c_f2, c_f3, r_f0⟩⟩ := hp.fn k hlt
        have Hsn := Lib.hid (prPts_snoc Hg_f)
        have Hfe := Lib.hid (H8.out.2.2.1 f (List.mem_of_getElem? Hg_f.out))
        have Hle := Lib.hid (prPts_le (l := p.funcs.take (k + 1)) (fun f hf => H8.out.2.2.1 f (List.mem_of_mem_take hf)))
        obtain ⟨s, hs⟩ : ∃ s, fnPts f = s := ⟨_, rfl⟩
        have hle : m + s ≤ 5000 := by
          have e1 := Hm.out; have e2 := Hsn.out; have e3 := Hle.out; rw [List.length_take] at e3; omega
        go_wp2_with (first | (go_at_call 47; ((with_reducible refine (fnshape_Size_at f _ _ _ hw_f (f_locals.mono (by (repeat (first | (with_reducible exact Grow.refl _) | assumption | refine Grow.ext ?_ _ | refine Grow.alloc ?_ _ | refine Grow.drew ?_ | refine Grow.setCell ?_ (by first | (simp; done) | (simp; omega)) _ | refine Grow.trans ?_ (by assumption))))) (f_blocks.mono (by (repeat (first | (with_reducible exact Grow.refl _) | assumption | refine Grow.ext ?_ _ | refine Grow.alloc ?_ _ | refine Grow.drew ?_ | refine Grow.setCell ?_ (by first | (simp; done) | (simp; omega)) _ | refine Grow.trans ?_ (by assumption))))) Hfe.out hs).mono ?_); rintro e w2 ⟨rfl, hb2⟩; obtain ⟨x2, rfl⟩ := ext_of_grow hb2; clear hb2)))
        go_roundw
        case rel => exact ⟨k + 1, m + s, by omega, by go_num, by go_num, by omega, Lib.hid (by rw [Hsn.out, Hm.out, hs]), (by (repeat (first | (with_reducible exact Grow.refl _) | assumption | refine Grow.ext ?_ _ | refine Grow.alloc ?_ _ | refine Grow.drew ?_ | refine Grow.setCell ?_ (by first | (simp; done) | (simp; omega)) _ | refine Grow.trans ?_ (by assumption))))⟩
        case measure => simp [intOf]; omega
      · have Hend : Hid (m = prPts p.funcs) := Lib.hid (by
          rw [Hm.out, List.take_of_length_le (by rw [← Hn.out]; omega)])
        go_wp2_with fail
        go_ret2
        exact Ret.mk (by simp only [Hend.out]; rfl) (by (repeat (first | (with_reducible exact Grow.refl _) | assumption | refine Grow.ext ?_ _ | refine Grow.alloc ?_ _ | refine Grow.drew ?_ | refine Grow.setCell ?_ (by first | (simp; done) | (simp; omega)) _ | refine Grow.trans ?_ (by assumption))))
  · have Hs : Hid (sizeP p = (0, prErr p)) := Lib.hid (by unfold sizeP; rw [if_pos (by simpa using he)])
    rw [Hs.out]
    go_enter Try.func25, Try.ntmps25
    go_wp2_with (first | (go_at_call 26; ((with_reducible refine (program_Check p _ _ (hp.mono (by (repeat (first | (with_reducible exact Grow.refl _) | assumption | refine Grow.ext ?_ _ | refine Grow.alloc ?_ _ | refine Grow.drew ?_ | refine Grow.setCell ?_ (by first | (simp; done) | (simp; omega)) _ | refine Grow.trans ?_ (by assumption)))))).mono ?_); rintro e w1 ⟨rfl, hb1⟩; obtain ⟨x1, rfl⟩ := ext_of_grow hb1; clear hb1)))
    go_ret2
    exact ⟨rfl, (by (repeat (first | (with_reducible exact Grow.refl _) | assumption | refine Grow.ext ?_ _ | refine Grow.alloc ?_ _ | refine Grow.drew ?_ | refine Grow.setCell ?_ (by first | (simp; done) | (simp; omega)) _ | refine Grow.trans ?_ (by assumption))))⟩
set_option maxHeartbeats 1000000 in
theorem program_Inputs (p : Pr) (pv : Value) (w : World) {F : Nat → Prop} (hp : Sl F w pv p.funcs) :
    Calls Try.prog 24 #[p.v pv] w (Ret w (.tuple #[.int .i64 (inputsP p).1, .int .i64 (inputsP p).2])) := by
  obtain ⟨a, n, cap, rfl, Hn, hm, hcap, hcm, hp⟩ := hp.open
  cases he : (prErr p != 0)
  · have Hok : Hid (prErr p = 0) := Lib.hid (by simpa using he)
    have hn0 : 0 < n := by have := (pr_ok Hok.out).1; rw [Hn.out]; exact this
    obtain ⟨b_f, off_f, f, f_locals_a, f_locals_n, f_locals_c, f_blocks_a, f_blocks_n, f_blocks_c, rfl, ⟨Hg_f, hl_f, hw_f, f_locals, f_blocks, c_f0, c_f1, c_f2, c_f3, r_f0⟩⟩ := hp.fn 0 hn0
    simp only [Nat.zero_mul, Nat.add_zero] at c_f0 c_f1 c_f2 c_f3 r_f0
    have Hs : Hid (inputsP p = (f.params, 0)) := Lib.hid (by unfold inputsP; rw [if_neg (by simpa using Hok.out), List.getD_eq_getElem?_getD, Hg_f.out]; rfl)
    rw [Hs.out]
    go_enter Try.func24, Try.ntmps24
    go_wp2_with (first | (go_at_call 26; ((with_reducible refine (program_Check p _ _ (hp.mono (by (repeat (first | (with_reducible exact Grow.refl _) | assumption | refine Grow.ext ?_ _ | refine Grow.alloc ?_ _ | refine Grow.drew ?_ | refine Grow.setCell ?_ (by first | (simp; done) | (simp; omega)) _ | refine Grow.trans ?_ (by assumption)))))).mono ?_); rintro e w1 ⟨rfl, hb1⟩; obtain ⟨x1, rfl⟩ := ext_of_grow hb1; clear hb1)))
    go_ret2
    exact ⟨rfl, (by (repeat (first | (with_reducible exact Grow.refl _) | assumption | refine Grow.ext ?_ _ | refine Grow.alloc ?_ _ | refine Grow.drew ?_ | refine Grow.setCell ?_ (by first | (simp; done) | (simp; omega)) _ | refine Grow.trans ?_ (by assumption))))⟩
  · have Hs : Hid (inputsP p = (0, prErr p)) := Lib.hid (by unfold inputsP; rw [if_pos (by simpa using he)])
    rw [Hs.out]
    go_enter Try.func24, Try.ntmps24
    go_wp2_with (first | (go_at_call 26; ((with_reducible refine (program_Check p _ _ (hp.mono (by (repeat (first | (with_reducible exact Grow.refl _) | assumption | refine Grow.ext ?_ _ | refine Grow.alloc ?_ _ | refine Grow.drew ?_ | refine Grow.setCell ?_ (by first | (simp; done) | (simp; omega)) _ | refine Grow.trans ?_ (by assumption)))))).mono ?_); rintro e w1 ⟨rfl, hb1⟩; obtain ⟨x1, rfl⟩ := ext_of_grow hb1; clear hb1)))
    go_ret2
    exact ⟨rfl, (by (repeat (first | (with_reducible exact Grow.refl _) | assumption | refine Grow.ext ?_ _ | refine Grow.alloc ?_ _ | refine Grow.drew ?_ | refine Grow.setCell ?_ (by first | (simp; done) | (simp; omega)) _ | refine Grow.trans ?_ (by assumption))))⟩
def recB (p : Pr) (f : Nat) : Bool := rnds (gr p) p.funcs.length 8 (gr p f) f
theorem recB_iff {p : Pr} (h : prErr p = 0) (f : Nat) : recB p f = true ↔ Rch (gr p) f f := by
  unfold recB
  rw [rnds_from (pr_ok h).2.1 (gr_lt h)]
  constructor
  · rintro (h | ⟨i, hi, hr⟩)
    · exact .one h
    · exact Rch.trans (.one hi) hr
  · intro h
    have key : ∀ c, Rch (gr p) f c → gr p f c = true ∨ ∃ i, gr p f i = true ∧ Rch (gr p) i c := by
      intro c hc
      induction hc with
      | one h => exact Or.inl h
      | next h1 h2 ih =>
        rcases ih with ih | ⟨i, hi, hr⟩
        · exact Or.inr ⟨_, ih, .one h2⟩
        · exact Or.inr ⟨i, hi, .next hr h2⟩
    exact key f h
def recP (p : Pr) (f : Int) : Bool × Int := if prErr p ≠ 0 then (false, prErr p) else if f < 0 ∨ (p.funcs.length : Int) ≤ f then (false, 2) else (recB p f.toNat, 0)
set_option maxHeartbeats 1000000 in
theorem program_Recursive (p : Pr) (pv : Value) (f : Int) (w : World) {F : Nat → Prop} (hp : Sl F w pv p.funcs) (hf : I64 f) :
    Calls Try.prog 17 #[p.v pv, .int .i64 f] w (Ret w (.tuple #[.bool (recP p f).1, .int .i64 (recP p f).2])) := by
  obtain ⟨a, n, cap, rfl, Hn, hm, hcap, hcm, hp⟩ := hp.open
  cases he : (prErr p != 0)
  · have Hok : Hid (prErr p = 0) := Lib.hid (by simpa using he)
    have hn8 : n ≤ 8 := by rw [Hn.out]; exact (pr_ok Hok.out).2.1
    have Hs : Hid (recP p f = if f < 0 ∨ (n : Int) ≤ f then (false, 2) else (recB p f.toNat, 0)) := Lib.hid (by unfold recP; rw [if_neg (by simpa using Hok.out), ← Hn.out])
    by_cases h0 : f < 0
    · have d1 : decide (f < 0) = true := by simp [h0]
      have Hs : Hid (recP p f = (false, 2)) := Lib.hid (by rw [Hs.out, if_pos (Or.inl h0)])
      rw [Hs.out]
      go_enter Try.func17, Try.ntmps17
      go_wp2_with (first | (go_at_call 26; ((with_reducible refine (program_Check p _ _ (hp.mono (by (repeat (first | (with_reducible exact Grow.refl _) | assumption | refine Grow.ext ?_ _ | refine Grow.alloc ?_ _ | refine Grow.drew ?_ | refine Grow.setCell ?_ (by first | (simp; done) | (simp; omega)) _ | refine Grow.trans ?_ (by assumption)))))).mono ?_); rintro e w1 ⟨rfl, hb1⟩; obtain ⟨x1, rfl⟩ := ext_of_grow hb1; clear hb1)))
      go_ret2
      exact ⟨rfl, (by (repeat (first | (with_reducible exact Grow.refl _) | assumption | refine Grow.ext ?_ _ | refine Grow.alloc ?_ _ | refine Grow.drew ?_ | refine Grow.setCell ?_ (by first | (simp; done) | (simp; omega)) _ | refine Grow.trans ?_ (by assumption))))⟩
    · have d1 : decide (f < 0) = false := by simp; omega
      by_cases h1 : (n : Int) ≤ f
      · have d2 : decide ((n : Int) ≤ f) = true := by simp [h1]
        have Hs : Hid (recP p f = (false, 2)) := Lib.hid (by rw [Hs.out, if_pos (Or.inr h1)])
        rw [Hs.out]
        go_enter Try.func17, Try.ntmps17
        go_wp2_with (first | (go_at_call 26; ((with_reducible refine (program_Check p _ _ (hp.mono (by (repeat (first | (with_reducible exact Grow.refl _) | assumption | refine Grow.ext ?_ _ | refine Grow.alloc ?_ _ | refine Grow.drew ?_ | refine Grow.setCell ?_ (by first | (simp; done) | (simp; omega)) _ | refine Grow.trans ?_ (by assumption)))))).mono ?_); rintro e w1 ⟨rfl, hb1⟩; obtain ⟨x1, rfl⟩ := ext_of_grow hb1; clear hb1)))
        go_ret2
        exact ⟨rfl, (by (repeat (first | (with_reducible exact Grow.refl _) | assumption | refine Grow.ext ?_ _ | refine Grow.alloc ?_ _ | refine Grow.drew ?_ | refine Grow.setCell ?_ (by first | (simp; done) | (simp; omega)) _ | refine Grow.trans ?_ (by assumption))))⟩
      · obtain ⟨k, rfl⟩ := Int.eq_ofNat_of_zero_le (show 0 ≤ f by omega)
        have hk : k < n := by omega
        have Hs : Hid (recP p (k : Int) = (recB p k, 0)) := Lib.hid (by rw [Hs.out, if_neg (by omega)]; rfl)
        rw [Hs.out]
        have d2 : decide (n ≤ k) = false := by simp; omega
        have Hk : Hid (k < p.funcs.length) := Lib.hid (by rw [← Hn.out]; exact hk)
        have hk64 : I64 (k : Int) := ⟨by omega, by omega⟩
        clear d1 h0
        have d1 : decide ((k : Int) < 0) = false := by simp
        have d0 : (k : Int) < 0 ↔ False := by constructor; omega; exact False.elim
        go_enter Try.func17, Try.ntmps17
        go_wp2_with (first | (go_at_call 26; ((with_reducible refine (program_Check p _ _ (hp.mono (by (repeat (first | (with_reducible exact Grow.refl _) | assumption | refine Grow.ext ?_ _ | refine Grow.alloc ?_ _ | refine Grow.drew ?_ | refine Grow.setCell ?_ (by first | (simp; done) | (simp; omega)) _ | refine Grow.trans ?_ (by assumption)))))).mono ?_); rintro e w1 ⟨rfl, hb1⟩; obtain ⟨x1, rfl⟩ := ext_of_grow hb1; clear hb1)) | (go_at_call 44; go_must (with_reducible refine (program_from p _ k _ (hp.mono (by (repeat (first | (with_reducible exact Grow.refl _) | assumption | refine Grow.ext ?_ _ | refine Grow.alloc ?_ _ | refine Grow.drew ?_ | refine Grow.setCell ?_ (by first | (simp; done) | (simp; omega)) _ | refine Grow.trans ?_ (by assumption))))) Hok.out Hk.out).mono ?_); rintro e w2 ⟨v2, rfl, ⟨B, m, S, rfl, hMB, hB, hS⟩, hb2⟩; obtain ⟨x2, rfl⟩ := ext_of_grow hb2; clear hb2; have HS := Lib.hid hS; clear hS; have hlook := hMB.look (c := (k : Int)) hk64))
        go_ret2
        exact ⟨by
          have e : S (k : Int) = recB p k := by rw [Bool.eq_iff_iff, HS.out k, recB_iff Hok.out]
          simp only [e]; rfl, (by (repeat (first | (with_reducible exact Grow.refl _) | assumption | refine Grow.ext ?_ _ | refine Grow.alloc ?_ _ | refine Grow.drew ?_ | refine Grow.setCell ?_ (by first | (simp; done) | (simp; omega)) _ | refine Grow.trans ?_ (by assumption))))⟩
  · have Hs : Hid (recP p f = (false, prErr p)) := Lib.hid (by unfold recP; rw [if_pos (by simpa using he)])
    rw [Hs.out]
    go_enter Try.func17, Try.ntmps17
    go_wp2_with (first | (go_at_call 26; ((with_reducible refine (program_Check p _ _ (hp.mono (by (repeat (first | (with_reducible exact Grow.refl _) | assumption | refine Grow.ext ?_ _ | refine Grow.alloc ?_ _ | refine Grow.drew ?_ | refine Grow.setCell ?_ (by first | (simp; done) | (simp; omega)) _ | refine Grow.trans ?_ (by assumption)))))).mono ?_); rintro e w1 ⟨rfl, hb1⟩; obtain ⟨x1, rfl⟩ := ext_of_grow hb1; clear hb1)))
    go_ret2
    exact ⟨rfl, (by (repeat (first | (with_reducible exact Grow.refl _) | assumption | refine Grow.ext ?_ _ | refine Grow.alloc ?_ _ | refine Grow.drew ?_ | refine Grow.setCell ?_ (by first | (simp; done) | (simp; omega)) _ | refine Grow.trans ?_ (by assumption))))⟩
theorem program_Reached_bad (p : Pr) (pv : Value) (w : World) {F : Nat → Prop} (hp : Sl F w pv p.funcs) (he : (prErr p != 0) = true) :
    Calls Try.prog 20 #[p.v pv] w (Ret w (.tuple #[.slice none 0 0, .int .i64 (prErr p)])) := by
  obtain ⟨a, n, cap, rfl, Hn, hm, hcap, hcm, hp⟩ := hp.open
  go_enter Try.func20, Try.ntmps20
  go_wp2_with (first | (go_at_call 26; ((with_reducible refine (program_Check p _ _ (hp.mono (by (repeat (first | (with_reducible exact Grow.refl _) | assumption | refine Grow.ext ?_ _ | refine Grow.alloc ?_ _ | refine Grow.drew ?_ | refine Grow.setCell ?_ (by first | (simp; done) | (simp; omega)) _ | refine Grow.trans ?_ (by assumption)))))).mono ?_); rintro e w1 ⟨rfl, hb1⟩; obtain ⟨x1, rfl⟩ := ext_of_grow hb1; clear hb1)))
  go_ret2
  exact ⟨rfl, (by (repeat (first | (with_reducible exact Grow.refl _) | assumption | refine Grow.ext ?_ _ | refine Grow.alloc ?_ _ | refine Grow.drew ?_ | refine Grow.setCell ?_ (by first | (simp; done) | (simp; omega)) _ | refine Grow.trans ?_ (by assumption))))⟩
end Go.Proofs.Ythackfblfkpddaa
