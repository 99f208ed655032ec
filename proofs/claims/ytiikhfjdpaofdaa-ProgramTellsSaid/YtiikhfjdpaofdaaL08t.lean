/- Layer 8, the reference: sizes, inputs, what is reached, what is recursive. -/
import Derived.Test.YtiikhfjdpaofdaaL08s
import Derived.Test.YtiikhfjdpaofdaaL08d
namespace Go.Proofs.Ytiikhfjdpaofdaa
open Go.RowKit
set_option linter.unusedSimpArgs false
set_option linter.unusedVariables false

theorem b8_congr {h h' : Nat → Bool} (e : ∀ c, c < 8 → h c = h' c) : b8 h = b8 h' := by
  unfold b8
  rw [e 0 (by omega), e 1 (by omega), e 2 (by omega), e 3 (by omega), e 4 (by omega), e 5 (by omega), e 6 (by omega), e 7 (by omega)]
set_option maxRecDepth 100000 in
set_option maxHeartbeats 2000000 in
theorem ref07_Called (f : Fn) (v1 v2 : Value) (w : World) {F F' : Nat → Prop} (h1 : Sl F w v1 f.locals) (h2 : Sl F' w v2 f.blocks) (hok : fnErr f = 0) :
    Calls Try.prog 53 #[f.v v1 v2] w (Ret w (.agg (b8 (callsTo f)))) := by
  obtain ⟨a, n, cap, rfl, Hn, hm, hcap, hcm, h1⟩ := h1.open
  obtain ⟨a2, n2, cap2, rfl, Hn2, hm2, hcap2, hcm2, h2⟩ := h2.open
  have Hmd := Lib.hid (fn_made hok)
  clear hok
  have e1 := b8_nil
  go_enter Try.func53, Try.ntmps53
  go_wp2_with fail
  clear e1
  go_loopw [4] (fun i wr => ∃ (k : Nat) (h : Nat → Bool) (y : Ext), k ≤ n2 ∧ i = .int .i64 k ∧ wr = ext (((w.alloc (Obj.cells #[.int .i64 f.params, .bool f.uns, .slice a n cap, .slice a2 n2 cap2] 49)).alloc (.cells (b8 (fun _ => false)) 70)).alloc (.cells (b8 h) 70)) y ∧ Hid (∀ c : Nat, c < 8 → h c = (f.blocks.take k).any (fun b => decide (b.jump.kind = 4) && decide (b.jump.fn = (c : Int))))) (fun i _ => n2 - (intOf i).toNat)
  case atStart => exact ⟨0, (fun _ => false), _, Nat.zero_le _, rfl, (ext_self _).symm, Lib.hid (fun c _ => rfl)⟩
  case round =>
    obtain ⟨k, h, y, hk, rfl, rfl, Hh⟩ := hrel
    by_cases hlt : k < n2
    · obtain ⟨b_b, off_b, b, b_stmts_a, b_stmts_n, b_stmts_c, b_jump_args_a, b_jump_args_n, b_jump_args_c, rfl, ⟨Hg_b, hl_b, hw_b, b_stmts, b_jump_args, c_b0, c_b1, c_b2, c_b3, c_b4, c_b5, c_b6, c_b7, c_b8, c_b9, c_b10, c_b11, c_b12, c_b13, r_b0, r_b1, r_b2, r_b3, r_b4⟩⟩ := h2.bk k hlt
      have Hju := Lib.hid (made_at Hmd.out Hg_b).2
      by_cases h4 : b.jump.kind = 4
      · have H4 := Lib.hid h4
        have Hfn := Lib.hid (ju_fn8 Hju.out h4)
        obtain ⟨stmts, ⟨kind, oa, fn, next, els, args, dest⟩⟩ := b
        obtain ⟨q, rfl⟩ := Int.eq_ofNat_of_zero_le Hfn.out.1
        have hq : q < 8 := by have := Hfn.out.2; simp at this; omega
        replace h4 : (kind == 4) = true := by have := H4.out; simp; exact this
        have hg := fun h => b8_get h q hq
        have hs := fun h => b8_set h q true hq
        go_wp2_with fail
        go_roundw
        case rel =>
          refine ⟨k + 1, (fun z => decide (z = q) || h z), ex4 (by omega) (by go_num) (by (repeat (first | (with_reducible exact Grow.refl _) | assumption | refine Grow.ext ?_ _ | refine Grow.alloc ?_ _ | refine Grow.drew ?_ | refine Grow.setCell ?_ (by first | (simp; done) | (simp; omega)) _ | refine Grow.trans ?_ (by assumption)))) (Lib.hid (fun c hc => ?_))⟩
          rw [any_snoc Hg_b, ← Hh.out c hc]
          have e4 : kind = 4 := H4.out
          by_cases e : c = q
          · subst e; simp [e4]
          · have : ¬ (q : Int) = (c : Int) := by omega
            simp [e, this]
        case measure => simp [intOf]; omega
      · have H4 := Lib.hid h4
        replace h4 : (b.jump.kind == 4) = false := by simp [h4]
        go_wp2_with fail
        go_roundw
        case rel => exact ⟨k + 1, h, ex4 (by omega) (by go_num) (by (repeat (first | (with_reducible exact Grow.refl _) | assumption | refine Grow.ext ?_ _ | refine Grow.alloc ?_ _ | refine Grow.drew ?_ | refine Grow.setCell ?_ (by first | (simp; done) | (simp; omega)) _ | refine Grow.trans ?_ (by assumption)))) (Lib.hid (fun c hc => by rw [any_snoc Hg_b, ← Hh.out c hc]; simp [H4.out]))⟩
        case measure => simp [intOf]; omega
    · have Hc : Hid (b8 h = b8 (callsTo f)) := Lib.hid (b8_congr fun c hc => by rw [Hh.out c hc, List.take_of_length_le (by rw [← Hn2.out]; omega)]; rfl)
      clear Hh
      go_wp2_with fail
      ((try simp only [Exit.inBlock, Exit.then]); refine post_of (by simp only [results, Try.results53]; go_simp; rfl) rfl (by (repeat (first | (with_reducible exact Grow.refl _) | assumption | refine Grow.ext ?_ _ | refine Grow.alloc ?_ _ | refine Grow.drew ?_ | refine Grow.setCell ?_ (by first | (simp; done) | (simp; omega)) _ | refine Grow.trans ?_ (by assumption)))) ?_)
      rw [Hc.out]
set_option maxHeartbeats 1000000 in
theorem ref07_Points (f : Fn) (v1 v2 : Value) (w : World) {F F' : Nat → Prop} (h1 : Sl F w v1 f.locals) (h2 : Sl F' w v2 f.blocks) (hok : fnErr f = 0) :
    Calls Try.prog 50 #[f.v v1 v2] w (Ret w (.int .i64 (fnPts f : Nat))) := by
  obtain ⟨a, n, cap, rfl, Hn, hm, hcap, hcm, h1⟩ := h1.open
  obtain ⟨a2, n2, cap2, rfl, Hn2, hm2, hcap2, hcm2, h2⟩ := h2.open
  have Hok := Lib.hid hok; clear hok
  have Hsm : Hid ((∀ b ∈ f.blocks, b.stmts.length ≤ 24) ∧ f.blocks.length ≤ 24) := Lib.hid (by
      have := (fn_good Hok.out).1
      unfold small at this; simp only [Bool.and_eq_true, decide_eq_true_eq, List.all_eq_true] at this
      exact ⟨fun b hb => by have := this.2 b hb; unfold smallBk at this; simpa using this, this.1.2⟩)
  have hn24 : n2 ≤ 24 := by rw [Hn2.out]; exact Hsm.out.2
  go_enter Try.func50, Try.ntmps50
  go_wp2_with fail
  go_loopw [3, 4] (fun s i wr => ∃ (k m : Nat), k ≤ n2 ∧ i = .int .i64 k ∧ s = .int .i64 m ∧ m ≤ 1000 ∧ Hid (m = k + ptsB (f.blocks.take k)) ∧ Grow (w.alloc (Obj.cells #[.int .i64 f.params, .bool f.uns, .slice a n cap, .slice a2 n2 cap2] 49)) wr) (fun _ i _ => n2 - (intOf i).toNat)
  case atStart => exact ⟨0, 0, Nat.zero_le _, rfl, rfl, by omega, Lib.hid (by simp [ptsB]), (by (repeat (first | (with_reducible exact Grow.refl _) | assumption | refine Grow.ext ?_ _ | refine Grow.alloc ?_ _ | refine Grow.drew ?_ | refine Grow.setCell ?_ (by first | (simp; done) | (simp; omega)) _ | refine Grow.trans ?_ (by assumption))))⟩
  case round =>
    obtain ⟨k, m, hk, rfl, rfl, hm1000, Hm, hb1⟩ := hrel
    obtain ⟨y1, rfl⟩ := ext_of_grow hb1
    by_cases hlt : k < n2
    · obtain ⟨b_b, off_b, b, b_stmts_a, b_stmts_n, b_stmts_c, b_jump_args_a, b_jump_args_n, b_jump_args_c, rfl, ⟨Hg_b, hl_b, hw_b, b_stmts, b_jump_args, c_b0, c_b1, c_b2, c_b3, c_b4, c_b5, c_b6, c_b7, c_b8, c_b9, c_b10, c_b11, c_b12, c_b13, r_b0, r_b1, r_b2, r_b3, r_b4⟩⟩ := h2.bk k hlt
      have Hsn := Lib.hid (ptsB_snoc Hg_b)
      have Hl := Lib.hid b_stmts.len
      have Hle := Lib.hid (take_le24 Hsm.out.1 Hsm.out.2 (k + 1))
      have hle : m + b_stmts_n ≤ 601 := by
        have e1 := Hm.out; have e2 := Hsn.out; have e3 := Hl.out; have e4 := Hle.out; omega
      go_wp2_with fail
      go_roundw
      case rel => exact ⟨k + 1, m + (b_stmts_n + 1), by omega, by go_num, by go_num, by omega, Lib.hid (by rw [Hsn.out, Hm.out, Hl.out]; omega), (by (repeat (first | (with_reducible exact Grow.refl _) | assumption | refine Grow.ext ?_ _ | refine Grow.alloc ?_ _ | refine Grow.drew ?_ | refine Grow.setCell ?_ (by first | (simp; done) | (simp; omega)) _ | refine Grow.trans ?_ (by assumption))))⟩
      case measure => simp [intOf]; omega
    · have Hend : Hid (m = fnPts f) := Lib.hid (by
        rw [Hm.out, List.take_of_length_le (by rw [← Hn2.out]; omega)]; unfold fnPts; rw [← Hn2.out]; omega)
      go_wp2_with fail
      go_ret
      exact Ret.int (by rw [Hend.out]) (by (repeat (first | (with_reducible exact Grow.refl _) | assumption | refine Grow.ext ?_ _ | refine Grow.alloc ?_ _ | refine Grow.drew ?_ | refine Grow.setCell ?_ (by first | (simp; done) | (simp; omega)) _ | refine Grow.trans ?_ (by assumption))))
theorem ref07_Points_at (f : Fn) (v1 v2 : Value) (w : World) {F F' : Nat → Prop} (h1 : Sl F w v1 f.locals) (h2 : Sl F' w v2 f.blocks) (hok : fnErr f = 0) {m : Nat} (hm : fnPts f = m) :
    Calls Try.prog 50 #[f.v v1 v2] w (Ret w (.int .i64 m)) := hm ▸ ref07_Points f v1 v2 w h1 h2 hok
set_option maxHeartbeats 1000000 in
theorem ref08_Size (p : Pr) (pv : Value) (w : World) {F : Nat → Prop} (hp : Sl F w pv p.funcs) :
    Calls Try.prog 20 #[p.v pv] w (Ret w (.tuple #[.int .i64 (sizeP p).1, .int .i64 (sizeP p).2])) := by
  obtain ⟨a, n, cap, rfl, Hn, hm, hcap, hcm, hp⟩ := hp.open
  cases he : (prErr p != 0)
  · have Hok : Hid (prErr p = 0) := Lib.hid (by simpa using he)
    have H8 := Lib.hid (pr_ok Hok.out)
    have Hs : Hid (sizeP p = ((prPts p.funcs : Int), 0)) := Lib.hid (by unfold sizeP; rw [if_neg (by simpa using Hok.out)])
    have hn8 : n ≤ 8 := by rw [Hn.out]; exact H8.out.2.1
    rw [Hs.out]
    go_enter Try.func20, Try.ntmps20
    go_wp2_with (first | (go_at_call 26; ((with_reducible refine (ref08_Check p _ _ (hp.mono (by (repeat (first | (with_reducible exact Grow.refl _) | assumption | refine Grow.ext ?_ _ | refine Grow.alloc ?_ _ | refine Grow.drew ?_ | refine Grow.setCell ?_ (by first | (simp; done) | (simp; omega)) _ | refine Grow.trans ?_ (by assumption)))))).mono ?_); rintro e w1 ⟨rfl, hb1⟩; obtain ⟨x1, rfl⟩ := ext_of_grow hb1; clear hb1)))
    go_loopw [4, 5] (fun s i wr => ∃ (k m : Nat), k ≤ n ∧ i = .int .i64 k ∧ s = .int .i64 m ∧ m ≤ 5000 ∧ Hid (m = prPts (p.funcs.take k)) ∧ Grow (ext (w.alloc (Obj.cells #[.slice a n cap] 24)) x1) wr) (fun _ i _ => n - (intOf i).toNat)
    case atStart => exact ⟨0, 0, Nat.zero_le _, rfl, rfl, by omega, Lib.hid (by simp [prPts]), (by (repeat (first | (with_reducible exact Grow.refl _) | assumption | refine Grow.ext ?_ _ | refine Grow.alloc ?_ _ | refine Grow.drew ?_ | refine Grow.setCell ?_ (by first | (simp; done) | (simp; omega)) _ | refine Grow.trans ?_ (by assumption))))⟩
    case round =>
      obtain ⟨k, m, hk, rfl, rfl, hm1000, Hm, hb1⟩ := hrel
      obtain ⟨y1, rfl⟩ := ext_of_grow hb1
      by_cases hlt : k < n
      · obtain ⟨b_f, off_f, f, f_locals_a, f_locals_n, f_locals_c, f_blocks_a, f_blocks_n, f_blocks_c, rfl, ⟨Hg_f, hl_f, hw_f, f_locals, f_blocks, c_f0, c_f1, c_f2, c_f3, r_f0⟩⟩ := hp.fn k hlt
        have Hsn := Lib.hid (prPts_snoc Hg_f)
        have Hfe := Lib.hid (H8.out.2.2.1 f (List.mem_of_getElem? Hg_f.out))
        have Hle := Lib.hid (prPts_le (l := p.funcs.take (k + 1)) (fun f hf => H8.out.2.2.1 f (List.mem_of_mem_take hf)))
        obtain ⟨s, hs⟩ : ∃ s, fnPts f = s := ⟨_, rfl⟩
        have hle : m + s ≤ 5000 := by
          have e1 := Hm.out; have e2 := Hsn.out; have e3 := Hle.out; rw [List.length_take] at e3; omega
        go_wp2_with (first | (go_at_call 50; ((with_reducible refine (ref07_Points_at f _ _ _ (f_locals.mono (by (repeat (first | (with_reducible exact Grow.refl _) | assumption | refine Grow.ext ?_ _ | refine Grow.alloc ?_ _ | refine Grow.drew ?_ | refine Grow.setCell ?_ (by first | (simp; done) | (simp; omega)) _ | refine Grow.trans ?_ (by assumption))))) (f_blocks.mono (by (repeat (first | (with_reducible exact Grow.refl _) | assumption | refine Grow.ext ?_ _ | refine Grow.alloc ?_ _ | refine Grow.drew ?_ | refine Grow.setCell ?_ (by first | (simp; done) | (simp; omega)) _ | refine Grow.trans ?_ (by assumption))))) Hfe.out hs).mono ?_); rintro e w2 ⟨rfl, hb2⟩; obtain ⟨x2, rfl⟩ := ext_of_grow hb2; clear hb2)))
        go_roundw
        case rel => exact ⟨k + 1, m + s, by omega, by go_num, by go_num, by omega, Lib.hid (by rw [Hsn.out, Hm.out, hs]), (by (repeat (first | (with_reducible exact Grow.refl _) | assumption | refine Grow.ext ?_ _ | refine Grow.alloc ?_ _ | refine Grow.drew ?_ | refine Grow.setCell ?_ (by first | (simp; done) | (simp; omega)) _ | refine Grow.trans ?_ (by assumption))))⟩
        case measure => simp [intOf]; omega
      · have Hend : Hid (m = prPts p.funcs) := Lib.hid (by
          rw [Hm.out, List.take_of_length_le (by rw [← Hn.out]; omega)])
        go_wp2_with fail
        go_ret2
        exact Ret.mk (by simp only [Hend.out]; rfl) (by (repeat (first | (with_reducible exact Grow.refl _) | assumption | refine Grow.ext ?_ _ | refine Grow.alloc ?_ _ | refine Grow.drew ?_ | refine Grow.setCell ?_ (by first | (simp; done) | (simp; omega)) _ | refine Grow.trans ?_ (by assumption))))
  · have Hs : Hid (sizeP p = (0, prErr p)) := Lib.hid (by unfold sizeP; rw [if_pos (by simpa using he)])
    rw [Hs.out]
    go_enter Try.func20, Try.ntmps20
    go_wp2_with (first | (go_at_call 26; ((with_reducible refine (ref08_Check p _ _ (hp.mono (by (repeat (first | (with_reducible exact Grow.refl _) | assumption | refine Grow.ext ?_ _ | refine Grow.alloc ?_ _ | refine Grow.drew ?_ | refine Grow.setCell ?_ (by first | (simp; done) | (simp; omega)) _ | refine Grow.trans ?_ (by assumption)))))).mono ?_); rintro e w1 ⟨rfl, hb1⟩; obtain ⟨x1, rfl⟩ := ext_of_grow hb1; clear hb1)))
    go_ret2
    exact ⟨rfl, (by (repeat (first | (with_reducible exact Grow.refl _) | assumption | refine Grow.ext ?_ _ | refine Grow.alloc ?_ _ | refine Grow.drew ?_ | refine Grow.setCell ?_ (by first | (simp; done) | (simp; omega)) _ | refine Grow.trans ?_ (by assumption))))⟩
set_option maxHeartbeats 1000000 in
theorem ref08_Inputs (p : Pr) (pv : Value) (w : World) {F : Nat → Prop} (hp : Sl F w pv p.funcs) :
    Calls Try.prog 18 #[p.v pv] w (Ret w (.tuple #[.int .i64 (inputsP p).1, .int .i64 (inputsP p).2])) := by
  obtain ⟨a, n, cap, rfl, Hn, hm, hcap, hcm, hp⟩ := hp.open
  cases he : (prErr p != 0)
  · have Hok : Hid (prErr p = 0) := Lib.hid (by simpa using he)
    have hn0 : 0 < n := by have := (pr_ok Hok.out).1; rw [Hn.out]; exact this
    obtain ⟨b_f, off_f, f, f_locals_a, f_locals_n, f_locals_c, f_blocks_a, f_blocks_n, f_blocks_c, rfl, ⟨Hg_f, hl_f, hw_f, f_locals, f_blocks, c_f0, c_f1, c_f2, c_f3, r_f0⟩⟩ := hp.fn 0 hn0
    simp only [Nat.zero_mul, Nat.add_zero] at c_f0 c_f1 c_f2 c_f3 r_f0
    have Hs : Hid (inputsP p = (f.params, 0)) := Lib.hid (by unfold inputsP; rw [if_neg (by simpa using Hok.out), List.getD_eq_getElem?_getD, Hg_f.out]; rfl)
    rw [Hs.out]
    go_enter Try.func18, Try.ntmps18
    go_wp2_with (first | (go_at_call 26; ((with_reducible refine (ref08_Check p _ _ (hp.mono (by (repeat (first | (with_reducible exact Grow.refl _) | assumption | refine Grow.ext ?_ _ | refine Grow.alloc ?_ _ | refine Grow.drew ?_ | refine Grow.setCell ?_ (by first | (simp; done) | (simp; omega)) _ | refine Grow.trans ?_ (by assumption)))))).mono ?_); rintro e w1 ⟨rfl, hb1⟩; obtain ⟨x1, rfl⟩ := ext_of_grow hb1; clear hb1)))
    go_ret2
    exact ⟨rfl, (by (repeat (first | (with_reducible exact Grow.refl _) | assumption | refine Grow.ext ?_ _ | refine Grow.alloc ?_ _ | refine Grow.drew ?_ | refine Grow.setCell ?_ (by first | (simp; done) | (simp; omega)) _ | refine Grow.trans ?_ (by assumption))))⟩
  · have Hs : Hid (inputsP p = (0, prErr p)) := Lib.hid (by unfold inputsP; rw [if_pos (by simpa using he)])
    rw [Hs.out]
    go_enter Try.func18, Try.ntmps18
    go_wp2_with (first | (go_at_call 26; ((with_reducible refine (ref08_Check p _ _ (hp.mono (by (repeat (first | (with_reducible exact Grow.refl _) | assumption | refine Grow.ext ?_ _ | refine Grow.alloc ?_ _ | refine Grow.drew ?_ | refine Grow.setCell ?_ (by first | (simp; done) | (simp; omega)) _ | refine Grow.trans ?_ (by assumption)))))).mono ?_); rintro e w1 ⟨rfl, hb1⟩; obtain ⟨x1, rfl⟩ := ext_of_grow hb1; clear hb1)))
    go_ret2
    exact ⟨rfl, (by (repeat (first | (with_reducible exact Grow.refl _) | assumption | refine Grow.ext ?_ _ | refine Grow.alloc ?_ _ | refine Grow.drew ?_ | refine Grow.setCell ?_ (by first | (simp; done) | (simp; omega)) _ | refine Grow.trans ?_ (by assumption))))⟩
abbrev WF (w : World) (o : Obj) (h : Nat → Bool) : World := ((w.alloc o).alloc (.cells (b8 h) 70)).alloc (.cells (b8 (fun _ => false)) 70)
theorem range_fold (g : Nat → Nat → Bool) (h : Nat → Bool) (i : Nat) : (List.range (i + 1)).foldl (stepR g) h = stepR g ((List.range i).foldl (stepR g) h) i := by
  rw [List.range_succ, List.foldl_append]; rfl
theorem stepR_no {g : Nat → Nat → Bool} {h : Nat → Bool} {i : Nat} (hi : h i = false) (x : Nat) : stepR g h i x = h x := by unfold stepR; rw [hi]; rfl
theorem stepR_yes {g : Nat → Nat → Bool} {h : Nat → Bool} {i : Nat} (hi : h i = true) (x : Nat) : stepR g h i x = (h x || g i x) := by unfold stepR; rw [hi]; rfl
set_option maxRecDepth 100000 in
set_option maxHeartbeats 2000000 in
theorem ref08_From (p : Pr) (pv : Value) (h0 : Nat → Bool) (w : World) {F : Nat → Prop} (hp : Sl F w pv p.funcs) (hok : prErr p = 0) :
    Calls Try.prog 52 #[p.v pv, .agg (b8 h0)] w (Ret w (.agg (b8 (rnds (gr p) p.funcs.length 8 h0)))) := by
  obtain ⟨a, n, cap, rfl, Hn, hm, hcap, hcm, hp⟩ := hp.open
  have Hok := Lib.hid hok; clear hok
  have H8 := Lib.hid (pr_ok Hok.out)
  have hn8 : n ≤ 8 := by rw [Hn.out]; exact H8.out.2.1
  have Hn' : Hid (p.funcs.length = n) := Lib.hid Hn.out.symm
  rw [Hn'.out]
  have e1 := b8_nil
  go_enter Try.func52, Try.ntmps52
  go_wp2_with fail
  go_loopw [5] (fun i wr => ∃ (r : Nat) (h : Nat → Bool) (y : Ext), r ≤ 8 ∧ i = .int .i64 r ∧ wr = ext (WF w (Obj.cells #[.slice a n cap] 24) h) y ∧ Hid (∀ c : Nat, c < 8 → h c = rnds (gr p) n r h0 c)) (fun i _ => 8 - (intOf i).toNat)
  case atStart => exact ⟨0, h0, _, Nat.zero_le _, rfl, (ext_self _).symm, Lib.hid (fun c _ => rfl)⟩
  case round =>
    obtain ⟨r, h, y, hr, rfl, rfl, Hh⟩ := hrel
    by_cases hlt : r < 8
    · have hr8 : ((r : Int) < 8) = True := by simp; omega
      go_wp2_with fail
      go_loopw [6] (fun i wr => ∃ (k : Nat) (h : Nat → Bool) (y : Ext), k ≤ n ∧ i = .int .i64 k ∧ wr = ext (WF w (Obj.cells #[.slice a n cap] 24) h) y ∧ Hid (∀ c : Nat, c < 8 → h c = (List.range k).foldl (stepR (gr p)) (rnds (gr p) n r h0) c)) (fun i _ => n - (intOf i).toNat)
      case atStart => exact ⟨0, h, _, Nat.zero_le _, rfl, rfl, Lib.hid (fun c hc => Hh.out c hc)⟩
      case round =>
        clear Hh
        obtain ⟨k, h2, y2, hk, rfl, rfl, Hh2⟩ := hrel
        by_cases hlt2 : k < n
        · have hk8 : k < 8 := by omega
          have hg := fun h => b8_get h k hk8
          have Hsr := Lib.hid (range_fold (gr p) (rnds (gr p) n r h0) k)
          have Hk := Lib.hid (Hh2.out k hk8)
          cases hhk : h2 k
          · go_wp2_with fail
            go_roundw
            case rel => exact ⟨k + 1, h2, ex4 (by omega) (by go_num) (by (repeat (first | (with_reducible exact Grow.refl _) | assumption | refine Grow.ext ?_ _ | refine Grow.alloc ?_ _ | refine Grow.drew ?_ | refine Grow.setCell ?_ (by first | (simp; done) | (simp; omega)) _ | refine Grow.trans ?_ (by assumption)))) (Lib.hid (fun c hc => by rw [Hsr.out, stepR_no (Hk.out.symm.trans hhk)]; exact Hh2.out c hc))⟩
            case measure => simp [intOf]; omega
          · obtain ⟨b_f, off_f, f, f_locals_a, f_locals_n, f_locals_c, f_blocks_a, f_blocks_n, f_blocks_c, rfl, ⟨Hg_f, hl_f, hw_f, f_locals, f_blocks, c_f0, c_f1, c_f2, c_f3, r_f0⟩⟩ := hp.fn k hlt2
            have Hfe := Lib.hid (H8.out.2.2.1 f (List.mem_of_getElem? Hg_f.out))
            have Hgr : Hid (∀ c, gr p k c = callsTo f c) := Lib.hid (fun c => by unfold gr; rw [Hg_f.out])
            go_wp2_with (first | (go_at_call 53; ((with_reducible refine (ref07_Called f _ _ _ (f_locals.mono (by (repeat (first | (with_reducible exact Grow.refl _) | assumption | refine Grow.ext ?_ _ | refine Grow.alloc ?_ _ | refine Grow.drew ?_ | refine Grow.setCell ?_ (by first | (simp; done) | (simp; omega)) _ | refine Grow.trans ?_ (by assumption))))) (f_blocks.mono (by (repeat (first | (with_reducible exact Grow.refl _) | assumption | refine Grow.ext ?_ _ | refine Grow.alloc ?_ _ | refine Grow.drew ?_ | refine Grow.setCell ?_ (by first | (simp; done) | (simp; omega)) _ | refine Grow.trans ?_ (by assumption))))) Hfe.out).mono ?_); rintro e w3 ⟨rfl, hb3⟩; obtain ⟨x3, rfl⟩ := ext_of_grow hb3; clear hb3)))
            go_loopw [8] (fun i wr => ∃ (q : Nat) (h : Nat → Bool) (y : Ext), q ≤ 8 ∧ i = .int .i64 q ∧ wr = ext ((ext (ext (WF w (Obj.cells #[.slice (some ⟨b_f, off_f, none⟩) n cap] 24) h) y2) x3).alloc (.cells (b8 (callsTo f)) 70)) y ∧ Hid (∀ c : Nat, c < 8 → h c = (h2 c || (decide (c < q) && callsTo f c)))) (fun i _ => 8 - (intOf i).toNat)
            case atStart => exact ⟨0, h2, _, Nat.zero_le _, rfl, (ext_self _).symm, Lib.hid (fun c hc => by simp)⟩
            case round =>
              obtain ⟨q, h3, y3, hq, rfl, rfl, Hh3⟩ := hrel
              by_cases hlt3 : q < 8
              · clear hg
                have hg := fun h => b8_get h q hlt3
                have Hq := Lib.hid (Hh3.out q hlt3)
                cases hhq : h3 q
                · have hs := fun h => b8_set h q (callsTo f q) hlt3
                  go_wp2_with fail
                  go_roundw
                  case rel =>
                    refine ⟨q + 1, (fun z => if z = q then callsTo f q else h3 z), ex4 (by omega) (by go_num) (by (repeat (first | (with_reducible exact Grow.refl _) | assumption | refine Grow.ext ?_ _ | refine Grow.alloc ?_ _ | refine Grow.drew ?_ | refine Grow.setCell ?_ (by first | (simp; done) | (simp; omega)) _ | refine Grow.trans ?_ (by assumption)))) (Lib.hid (fun c hc => ?_))⟩
                    by_cases e : c = q
                    · subst e
                      have q1 := Hq.out; rw [hhq] at q1
                      have q2 : h2 c = false := by cases h : h2 c; rfl; rw [h] at q1; simp at q1
                      simp [q2]
                    · have q1 := Hh3.out c hc
                      have e2 : (decide (c < q + 1)) = decide (c < q) := by by_cases z : c < q <;> simp [z] <;> omega
                      simp only [e, if_false]; rw [q1, e2]
                  case measure => simp [intOf]; omega
                · have hs := fun h => b8_set h q true hlt3
                  go_wp2_with fail
                  go_roundw
                  case rel =>
                    refine ⟨q + 1, (fun z => decide (z = q) || h3 z), ex4 (by omega) (by go_num) (by (repeat (first | (with_reducible exact Grow.refl _) | assumption | refine Grow.ext ?_ _ | refine Grow.alloc ?_ _ | refine Grow.drew ?_ | refine Grow.setCell ?_ (by first | (simp; done) | (simp; omega)) _ | refine Grow.trans ?_ (by assumption)))) (Lib.hid (fun c hc => ?_))⟩
                    by_cases e : c = q
                    · subst e
                      have q1 := Hq.out; rw [hhq] at q1
                      have : (h2 c || callsTo f c) = true := by
                        cases h : h2 c
                        · rw [h] at q1; simp at q1
                        · rfl
                      simp [this]
                    · have q1 := Hh3.out c hc
                      have e2 : (decide (c < q + 1)) = decide (c < q) := by by_cases z : c < q <;> simp [z] <;> omega
                      simp only [e, decide_false, Bool.false_or]; rw [q1, e2]
                  case measure => simp [intOf]; omega
              · obtain rfl : q = 8 := by omega
                go_wp2_with fail
                go_roundw
                case rel =>
                  refine ⟨k + 1, h3, ex4 (by omega) (by go_num) (by (repeat (first | (with_reducible exact Grow.refl _) | assumption | refine Grow.ext ?_ _ | refine Grow.alloc ?_ _ | refine Grow.drew ?_ | refine Grow.setCell ?_ (by first | (simp; done) | (simp; omega)) _ | refine Grow.trans ?_ (by assumption)))) (Lib.hid (fun c hc => ?_))⟩
                  rw [Hsr.out, stepR_yes (Hk.out.symm.trans hhk), Hh3.out c hc]
                  simp only [hc, decide_true, Bool.true_and]
                  rw [Hgr.out c, Hh2.out c hc]
                case measure => simp [intOf]; omega
        · obtain rfl : k = n := by omega
          go_wp2_with fail
          go_roundw
          case rel => exact ⟨r + 1, h2, ex4 (by omega) (by go_num) (by (repeat (first | (with_reducible exact Grow.refl _) | assumption | refine Grow.ext ?_ _ | refine Grow.alloc ?_ _ | refine Grow.drew ?_ | refine Grow.setCell ?_ (by first | (simp; done) | (simp; omega)) _ | refine Grow.trans ?_ (by assumption)))) (Lib.hid (fun c hc => Hh2.out c hc))⟩
          case measure => simp [intOf]; omega
    · obtain rfl : r = 8 := by omega
      have Hc := Lib.hid (b8_congr Hh.out)
      clear Hh
      go_wp2_with fail
      ((try simp only [Exit.inBlock, Exit.then]); refine post_of (by simp only [results, Try.results52]; go_simp; rfl) rfl (by (repeat (first | (with_reducible exact Grow.refl _) | assumption | refine Grow.ext ?_ _ | refine Grow.alloc ?_ _ | refine Grow.drew ?_ | refine Grow.setCell ?_ (by first | (simp; done) | (simp; omega)) _ | refine Grow.trans ?_ (by assumption)))) ?_)
      rw [Hc.out]
theorem reachUpto_8 {p : Pr} (h : prErr p = 0) : reachUpto p 8 = reachL p := by
  unfold reachL
  have h8 := (pr_ok h).2.1
  have h1 := (pr_ok h).1
  have : ∀ k, p.funcs.length + k ≤ 8 → reachUpto p (p.funcs.length + k) = reachUpto p p.funcs.length := by
    intro k; induction k with
    | zero => intro _; rfl
    | succ k ih =>
      intro hk
      have : reachB p (p.funcs.length + k) = false := by
        rw [Bool.eq_false_iff]; intro hr
        rcases (reachB_iff h _).1 hr with hr | hr
        · omega
        · have := hr.lt (fun i c hg => (gr_lt h i c hg).2); omega
      rw [← Nat.add_assoc, reachUpto_succ, this, ih (by omega)]; simp
  have := this (8 - p.funcs.length) (by omega)
  rwa [show p.funcs.length + (8 - p.funcs.length) = 8 by omega] at this
theorem b8_first : (b8 (fun _ => false)).setIfInBounds 0 (.bool true) = b8 (fun x => x == 0) := rfl
set_option maxRecDepth 100000 in
set_option maxHeartbeats 2000000 in
theorem ref08_Reached (p : Pr) (pv : Value) (w : World) {F : Nat → Prop} (hp : Sl F w pv p.funcs) (hok : prErr p = 0) :
    Calls Try.prog 22 #[p.v pv] w (RetP w fun v w' => ∃ u, v = .tuple #[u, .int .i64 0] ∧ Sl (Fresh w) w' u (reachL p)) := by
  obtain ⟨a, n, cap, rfl, Hn, hm, hcap, hcm, hp⟩ := hp.open
  have Hok := Lib.hid hok
  have hok' : (prErr p != 0) = false := by simp [hok]
  clear hok
  have e1 := b8_nil
  have e2 := b8_first
  go_enter Try.func22, Try.ntmps22
  go_wp2_with (first | (go_at_call 26; ((with_reducible refine (ref08_Check p _ _ (hp.mono (by (repeat (first | (with_reducible exact Grow.refl _) | assumption | refine Grow.ext ?_ _ | refine Grow.alloc ?_ _ | refine Grow.drew ?_ | refine Grow.setCell ?_ (by first | (simp; done) | (simp; omega)) _ | refine Grow.trans ?_ (by assumption)))))).mono ?_); rintro e w1 ⟨rfl, hb1⟩; obtain ⟨x1, rfl⟩ := ext_of_grow hb1; clear hb1)) | (go_at_call 52; ((with_reducible refine (ref08_From p _ (fun x => x == 0) _ (hp.mono (by (repeat (first | (with_reducible exact Grow.refl _) | assumption | refine Grow.ext ?_ _ | refine Grow.alloc ?_ _ | refine Grow.drew ?_ | refine Grow.setCell ?_ (by first | (simp; done) | (simp; omega)) _ | refine Grow.trans ?_ (by assumption))))) Hok.out).mono ?_); rintro e w2 ⟨rfl, hb2⟩; obtain ⟨x2, rfl⟩ := ext_of_grow hb2; clear hb2)))
  clear e1 e2
  go_loopw [5, 6] (fun tv i wr => ∃ (q : Nat), q ≤ 8 ∧ i = .int .i64 q ∧ (∃ x, wr = ext ((ext (ext (w.alloc (Obj.cells #[.slice a n cap] 24)) x1) x2).alloc (.cells (b8 (reachB p)) 70)) x) ∧ Own (fun _ => False) ((ext (ext (w.alloc (Obj.cells #[.slice a n cap] 24)) x1) x2).alloc (.cells (b8 (reachB p)) 70)).heap.size 3 wr tv (reachUpto p q)) (fun _ i _ => 8 - (intOf i).toNat)
  case atStart => exact ⟨0, Nat.zero_le _, rfl, ⟨_, (ext_self _).symm⟩, Own.nil _ _ _ _⟩
  case round =>
    obtain ⟨q, hq, rfl, ⟨x, rfl⟩, hown⟩ := hrel
    by_cases hlt3 : q < 8
    · have hg := fun h => b8_get h q hlt3
      have hln := reachUpto_len p q
      cases hhq : reachB p q
      · have Hu : Hid (reachUpto p (q + 1) = reachUpto p q) := Lib.hid (by rw [reachUpto_succ, hhq]; simp)
        go_wp2_with fail
        go_roundw
        case rel => exact ⟨q + 1, by omega, by go_num, ⟨_, rfl⟩, by rw [Hu.out]; exact hown⟩
        case measure => simp [intOf]; omega
      · have Hu : Hid (reachUpto p (q + 1) = reachUpto p q ++ [(q : Int)]) := Lib.hid (by rw [reachUpto_succ, hhq]; simp)
        have hw64 : I64 (q : Int) := ⟨by omega, by omega⟩
        go_wp2_with (first | (at_builtin; go_must (refine wpList_app1 (α := Int) slT_int rfl rfl rfl hown (by (repeat (first | (with_reducible exact Grow.refl _) | assumption | refine Grow.ext ?_ _ | refine Grow.alloc ?_ _ | refine Grow.drew ?_ | refine Grow.setCell ?_ (by first | (simp; done) | (simp; omega)) _ | refine Grow.trans ?_ (by assumption)))) (Nat.le_refl _) (by simp; omega) rfl (y := (q : Int)) (Gy := fun _ => False) ⟨rfl, hw64⟩ (fun _ h => h.elim) (by (repeat (refine CellsAt.cons (by go_simp) ?_)); exact CellsAt.nil _ _ _) (by simp [Value.oneCell']) (by omega) (by omega) ?_); intro tv' x' hown' hsz' hagr))
        go_roundw
        case rel => exact ⟨q + 1, by omega, by go_num, ⟨x', rfl⟩, by rw [Hu.out]; exact hown'⟩
        case measure => simp [intOf]; omega
    · obtain rfl : q = 8 := by omega
      have H8 := Lib.hid (reachUpto_8 Hok.out)
      go_wp2_with fail
      refine postP_of (by simp only [results, Try.results22]; go_simp <;> rfl) rfl (by (repeat (first | (with_reducible exact Grow.refl _) | assumption | refine Grow.ext ?_ _ | refine Grow.alloc ?_ _ | refine Grow.drew ?_ | refine Grow.setCell ?_ (by first | (simp; done) | (simp; omega)) _ | refine Grow.trans ?_ (by assumption)))) ⟨_, rfl, ?_⟩
      rw [← H8.out]
      exact hown.sl.wide (fun b hb hF => by rcases hF with hF | hF; exact hF.elim; exact Or.inr (by simp only [size_ext, alloc_size] at hF; omega))
theorem ref08_Reached_bad (p : Pr) (pv : Value) (w : World) {F : Nat → Prop} (hp : Sl F w pv p.funcs) (he : (prErr p != 0) = true) :
    Calls Try.prog 22 #[p.v pv] w (Ret w (.tuple #[.slice none 0 0, .int .i64 (prErr p)])) := by
  obtain ⟨a, n, cap, rfl, Hn, hm, hcap, hcm, hp⟩ := hp.open
  go_enter Try.func22, Try.ntmps22
  go_wp2_with (first | (go_at_call 26; ((with_reducible refine (ref08_Check p _ _ (hp.mono (by (repeat (first | (with_reducible exact Grow.refl _) | assumption | refine Grow.ext ?_ _ | refine Grow.alloc ?_ _ | refine Grow.drew ?_ | refine Grow.setCell ?_ (by first | (simp; done) | (simp; omega)) _ | refine Grow.trans ?_ (by assumption)))))).mono ?_); rintro e w1 ⟨rfl, hb1⟩; obtain ⟨x1, rfl⟩ := ext_of_grow hb1; clear hb1)))
  go_ret2
  exact ⟨rfl, (by (repeat (first | (with_reducible exact Grow.refl _) | assumption | refine Grow.ext ?_ _ | refine Grow.alloc ?_ _ | refine Grow.drew ?_ | refine Grow.setCell ?_ (by first | (simp; done) | (simp; omega)) _ | refine Grow.trans ?_ (by assumption))))⟩
set_option maxRecDepth 100000 in
set_option maxHeartbeats 2000000 in
theorem ref08_Recursive (p : Pr) (pv : Value) (f : Int) (w : World) {F : Nat → Prop} (hp : Sl F w pv p.funcs) (hf : I64 f) :
    Calls Try.prog 24 #[p.v pv, .int .i64 f] w (Ret w (.tuple #[.bool (recP p f).1, .int .i64 (recP p f).2])) := by
  obtain ⟨a, n, cap, rfl, Hn, hm, hcap, hcm, hp⟩ := hp.open
  cases he : (prErr p != 0)
  · have Hok : Hid (prErr p = 0) := Lib.hid (by simpa using he)
    have H8 := Lib.hid (pr_ok Hok.out)
    have hn8 : n ≤ 8 := by rw [Hn.out]; exact H8.out.2.1
    have Hs : Hid (recP p f = if f < 0 ∨ (n : Int) ≤ f then (false, 2) else (recB p f.toNat, 0)) := Lib.hid (by unfold recP; rw [if_neg (by simpa using Hok.out), ← Hn.out])
    by_cases h0 : f < 0
    · have Hs : Hid (recP p f = (false, 2)) := Lib.hid (by rw [Hs.out, if_pos (Or.inl h0)])
      rw [Hs.out]
      go_enter Try.func24, Try.ntmps24
      go_wp2_with (first | (go_at_call 26; ((with_reducible refine (ref08_Check p _ _ (hp.mono (by (repeat (first | (with_reducible exact Grow.refl _) | assumption | refine Grow.ext ?_ _ | refine Grow.alloc ?_ _ | refine Grow.drew ?_ | refine Grow.setCell ?_ (by first | (simp; done) | (simp; omega)) _ | refine Grow.trans ?_ (by assumption)))))).mono ?_); rintro e w1 ⟨rfl, hb1⟩; obtain ⟨x1, rfl⟩ := ext_of_grow hb1; clear hb1)))
      all_goals first | (go_ret2; exact ⟨rfl, (by (repeat (first | (with_reducible exact Grow.refl _) | assumption | refine Grow.ext ?_ _ | refine Grow.alloc ?_ _ | refine Grow.drew ?_ | refine Grow.setCell ?_ (by first | (simp; done) | (simp; omega)) _ | refine Grow.trans ?_ (by assumption))))⟩) | (exfalso; omega)
    · by_cases h1 : (n : Int) ≤ f
      · have Hs : Hid (recP p f = (false, 2)) := Lib.hid (by rw [Hs.out, if_pos (Or.inr h1)])
        rw [Hs.out]
        go_enter Try.func24, Try.ntmps24
        go_wp2_with (first | (go_at_call 26; ((with_reducible refine (ref08_Check p _ _ (hp.mono (by (repeat (first | (with_reducible exact Grow.refl _) | assumption | refine Grow.ext ?_ _ | refine Grow.alloc ?_ _ | refine Grow.drew ?_ | refine Grow.setCell ?_ (by first | (simp; done) | (simp; omega)) _ | refine Grow.trans ?_ (by assumption)))))).mono ?_); rintro e w1 ⟨rfl, hb1⟩; obtain ⟨x1, rfl⟩ := ext_of_grow hb1; clear hb1)))
        all_goals first | (go_ret2; exact ⟨rfl, (by (repeat (first | (with_reducible exact Grow.refl _) | assumption | refine Grow.ext ?_ _ | refine Grow.alloc ?_ _ | refine Grow.drew ?_ | refine Grow.setCell ?_ (by first | (simp; done) | (simp; omega)) _ | refine Grow.trans ?_ (by assumption))))⟩) | (exfalso; omega)
      · obtain ⟨k, rfl⟩ := Int.eq_ofNat_of_zero_le (by omega : 0 ≤ f)
        have hk : k < n := by omega
        have hk8 : k < 8 := by omega
        have Hs : Hid (recP p (k : Int) = (recB p k, 0)) := Lib.hid (by rw [Hs.out, if_neg (by omega)]; rfl)
        rw [Hs.out]
        clear h0 h1
        have h1 : decide ((n : Int) ≤ (k : Int)) = false := by simp; omega
        obtain ⟨b_g, off_g, g, g_locals_a, g_locals_n, g_locals_c, g_blocks_a, g_blocks_n, g_blocks_c, rfl, ⟨Hg_g, hl_g, hw_g, g_locals, g_blocks, c_g0, c_g1, c_g2, c_g3, r_g0⟩⟩ := hp.fn k hk
        have Hfe := Lib.hid (H8.out.2.2.1 g (List.mem_of_getElem? Hg_g.out))
        have Hgr : Hid (callsTo g = gr p k) := Lib.hid (by funext c; unfold gr; rw [Hg_g.out])
        have hix : ∀ w' h, (Instr.index 70 (.agg (b8 h)) (.int .i64 (k : Nat))).run Try.prog w' = .ok (.bool (h k)) w' := fun w' h => index_b8 w' h k hk8
        go_enter Try.func24, Try.ntmps24
        go_wp2_with (first | (go_at_call 26; ((with_reducible refine (ref08_Check p _ _ (hp.mono (by (repeat (first | (with_reducible exact Grow.refl _) | assumption | refine Grow.ext ?_ _ | refine Grow.alloc ?_ _ | refine Grow.drew ?_ | refine Grow.setCell ?_ (by first | (simp; done) | (simp; omega)) _ | refine Grow.trans ?_ (by assumption)))))).mono ?_); rintro e w1 ⟨rfl, hb1⟩; obtain ⟨x1, rfl⟩ := ext_of_grow hb1; clear hb1)))
        (refine wp_region_ext (by kernel_rfl) (by kernel_rfl) ?_; (repeat (any_goals (first | go_big_quiet_step (first | (go_at_call 53; refine ext_call (ref07_Called g _ _ _ (g_locals.mono (by (repeat (first | (with_reducible exact Grow.refl _) | assumption | refine Grow.ext ?_ _ | refine Grow.alloc ?_ _ | refine Grow.drew ?_ | refine Grow.setCell ?_ (by first | (simp; done) | (simp; omega)) _ | refine Grow.trans ?_ (by assumption))))) (g_blocks.mono (by (repeat (first | (with_reducible exact Grow.refl _) | assumption | refine Grow.ext ?_ _ | refine Grow.alloc ?_ _ | refine Grow.drew ?_ | refine Grow.setCell ?_ (by first | (simp; done) | (simp; omega)) _ | refine Grow.trans ?_ (by assumption))))) Hfe.out)) | (go_at_call 52; refine ext_call (ref08_From p _ _ _ (hp.mono (by (repeat (first | (with_reducible exact Grow.refl _) | assumption | refine Grow.ext ?_ _ | refine Grow.alloc ?_ _ | refine Grow.drew ?_ | refine Grow.setCell ?_ (by first | (simp; done) | (simp; omega)) _ | refine Grow.trans ?_ (by assumption))))) Hok.out))) | (refine wpQuiet_step (fun K hK => ?_); go_simp; split <;> (refine hK _ ?_; clear hK K))))); all_goals (refine wpQuiet_nil ?_; intro w2 hb2; obtain ⟨x2, rfl⟩ := ext_of_grow hb2; clear hb2))
        go_wp2_with fail
        go_ret2
        exact ⟨by rw [Hgr.out]; rfl, (by (repeat (first | (with_reducible exact Grow.refl _) | assumption | refine Grow.ext ?_ _ | refine Grow.alloc ?_ _ | refine Grow.drew ?_ | refine Grow.setCell ?_ (by first | (simp; done) | (simp; omega)) _ | refine Grow.trans ?_ (by assumption))))⟩
  · have Hs : Hid (recP p f = (false, prErr p)) := Lib.hid (by unfold recP; rw [if_pos (by simpa using he)])
    rw [Hs.out]
    go_enter Try.func24, Try.ntmps24
    go_wp2_with (first | (go_at_call 26; ((with_reducible refine (ref08_Check p _ _ (hp.mono (by (repeat (first | (with_reducible exact Grow.refl _) | assumption | refine Grow.ext ?_ _ | refine Grow.alloc ?_ _ | refine Grow.drew ?_ | refine Grow.setCell ?_ (by first | (simp; done) | (simp; omega)) _ | refine Grow.trans ?_ (by assumption)))))).mono ?_); rintro e w1 ⟨rfl, hb1⟩; obtain ⟨x1, rfl⟩ := ext_of_grow hb1; clear hb1)))
    go_ret2
    exact ⟨rfl, (by (repeat (first | (with_reducible exact Grow.refl _) | assumption | refine Grow.ext ?_ _ | refine Grow.alloc ?_ _ | refine Grow.drew ?_ | refine Grow.setCell ?_ (by first | (simp; done) | (simp; omega)) _ | refine Grow.trans ?_ (by assumption))))⟩
end Go.Proofs.Ytiikhfjdpaofdaa
