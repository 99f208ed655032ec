/- Layer 7, the reference: how often locals occur. -/
import Derived.Test.YtiikhfjdpaofdaaL07g
namespace Go.Proofs.Ytiikhfjdpaofdaa
open Go.RowKit
set_option linter.unusedSimpArgs false
set_option linter.unusedVariables false

/-- The locals that occur, in the reference's order. -/
def locO (o : Opd) : List Int := if placed o = true then [o.pl.loc] else []
def locS (s : St) : List Int := (if s.kind = 3 then [s.loc] else []) ++ (if s.kind = 1 then s.pl.loc :: ((rvParts s.r).flatMap locO ++ (if s.r.kind = 4 ∨ s.r.kind = 5 then [s.r.pl.loc] else [])) else []) ++ locO s.a
def locJ (j : Ju) : List Int := (juParts j).flatMap locO ++ (if j.kind = 4 then [j.dest.loc] else [])
theorem flatMap_snoc {α β : Type} {g : α → List β} {xs : List α} {k : Nat} {x : α} (h : Hid (xs[k]? = some x)) : (xs.take (k + 1)).flatMap g = (xs.take k).flatMap g ++ g x := by
  rw [List.take_add_one, h.out]; simp
theorem nat_loc {p : Pl} (h : loc16 p) : ∃ q : Nat, p.loc = q ∧ q < 16 := by
  obtain ⟨q, hq⟩ := Int.eq_ofNat_of_zero_le h.1
  exact ⟨q, hq, by have := h.2; omega⟩
theorem rv_opds7 {r : Rv} (h : rvOk r = true) : ∀ o ∈ rvParts r, opdErr o = 0 := by
  unfold rvParts
  split
  · intro o ho; simp at ho; subst ho; unfold rvOk at h; grind
  · split
    · have ha : opdErr r.a = 0 ∧ opdErr r.b = 0 := by unfold rvOk at h; grind
      intro o ho; simp at ho; rcases ho with rfl | rfl; exact ha.1; exact ha.2
    · intro o ho; cases ho
theorem placed_loc {o : Opd} (h : opdErr o = 0) (hp : placed o = true) : loc16 o.pl := opd_loc h (by unfold placed at hp; simp at hp; omega)
set_option maxRecDepth 100000 in
set_option maxHeartbeats 2000000 in
theorem ref07_OccursJump (j : Ju) (av : Value) (w : World) {F : Nat → Prop} (hj : j.wf) (hav : Sl F w av j.args) (hok : juErr j = 0) :
    Calls Try.prog 111 #[j.v av] w (Ret w (.agg (cnt16 (locJ j)))) := by
  obtain ⟨a, n, cap, rfl, Hn, hm, hcap, hcm, hav⟩ := hav.old.open
  have Hok := Lib.hid hok; clear hok
  have Hp : Hid (∀ o ∈ juParts j, opdErr o = 0) := by
    refine Lib.hid ?_
    have h := (juErr_iff j).1 Hok.out
    unfold juParts; split
    · intro o ho; simp at ho; subst ho; unfold juOk juPre at h; grind
    · intro o ho; unfold juOk argsOk at h; simp only [Bool.and_eq_true, List.all_eq_true, decide_eq_true_eq] at h; exact h.2 o ho
  have e1 := cnt16_nil
  have Hd : Hid (j.kind = 4 → loc16 j.dest) := Lib.hid (fun h4 => pl_loc (by have h := (juErr_iff j).1 Hok.out; unfold juOk juPre at h; grind))
  obtain ⟨kind, oa, fn, next, els, args, ⟨dl, dd, df⟩⟩ := j
  go_enter Try.func111, Try.ntmps111
  go_wp2_with (first | (go_at_call 126; ((with_reducible refine (ref06_Parts ⟨kind, oa, fn, next, els, args, ⟨dl, dd, df⟩⟩ _ _ hj (hav.mono (by (repeat (first | (with_reducible exact Grow.refl _) | assumption | refine Grow.ext ?_ _ | refine Grow.alloc ?_ _ | refine Grow.drew ?_ | refine Grow.setCell ?_ (by first | (simp; done) | (simp; omega)) _ | refine Grow.trans ?_ (by assumption)))))).mono ?_); rintro e w1 ⟨v1, rfl, hs1, hb1⟩; obtain ⟨x1, rfl⟩ := ext_of_grow hb1; clear hb1; obtain ⟨a1, n1, cap1, rfl, Hn1, hm1, hcap1, hcm1, hs1⟩ := hs1.open)))
  clear e1
  have hS : ∀ l, Sl (Fr (Old w) (((w.alloc (Obj.cells #[.int .u8 kind, .int .u8 oa.kind, .int .i64 oa.n, .int .i64 oa.pl.loc, .bool oa.pl.deref, .int .u8 oa.pl.field, .int .i64 fn, .int .i64 next, .int .i64 els, .slice a n cap, .int .i64 dl, .bool dd, .int .u8 df] 66)).alloc (.cells (cnt16 []) 124)).alloc (.cells (cnt16 []) 124)).heap.size) (ext (((w.alloc (Obj.cells #[.int .u8 kind, .int .u8 oa.kind, .int .i64 oa.n, .int .i64 oa.pl.loc, .bool oa.pl.deref, .int .u8 oa.pl.field, .int .i64 fn, .int .i64 next, .int .i64 els, .slice a n cap, .int .i64 dl, .bool dd, .int .u8 df] 66)).alloc (.cells (cnt16 []) 124)).alloc (.cells (cnt16 l) 124)) x1) (.slice a1 n1 cap1) (juParts ⟨kind, oa, fn, next, els, args, ⟨dl, dd, df⟩⟩) := fun l =>
    hs1.keep (((AgrS.refl _ ((w.alloc (Obj.cells #[.int .u8 kind, .int .u8 oa.kind, .int .i64 oa.n, .int .i64 oa.pl.loc, .bool oa.pl.deref, .int .u8 oa.pl.field, .int .i64 fn, .int .i64 next, .int .i64 els, .slice a n cap, .int .i64 dl, .bool dd, .int .u8 df] 66)).alloc (.cells (cnt16 []) 124))).alloc (by simp [Fr, Old]; omega) _ _).ext x1).agr
  clear hs1
  go_loopw [5] (fun i wr => ∃ (k : Nat) (l : List Int) (y : Ext), k ≤ n1 ∧ i = .int .i64 k ∧ wr = ext (ext (((w.alloc (Obj.cells #[.int .u8 kind, .int .u8 oa.kind, .int .i64 oa.n, .int .i64 oa.pl.loc, .bool oa.pl.deref, .int .u8 oa.pl.field, .int .i64 fn, .int .i64 next, .int .i64 els, .slice a n cap, .int .i64 dl, .bool dd, .int .u8 df] 66)).alloc (.cells (cnt16 []) 124)).alloc (.cells (cnt16 l) 124)) x1) y ∧ Hid (l = ((juParts ⟨kind, oa, fn, next, els, args, ⟨dl, dd, df⟩⟩).take k).flatMap locO)) (fun i _ => n1 - (intOf i).toNat)
  case atStart => exact ⟨0, [], _, Nat.zero_le _, rfl, (ext_self _).symm, Lib.hid (by simp)⟩
  case round =>
    obtain ⟨k, l, y, hk, rfl, rfl, Hl⟩ := hrel
    by_cases hlt : k < n1
    · have hs7 := hS l
      obtain ⟨b_o, off_o, o, rfl, ⟨Hg_o, hl_o, hw_o, c_o0, c_o1, c_o2, c_o3, c_o4, r_o0, r_o1⟩⟩ := hs7.opd k hlt
      have Ho := Lib.hid (Hp.out o (List.mem_of_getElem? Hg_o.out))
      cases hpl : placed o
      · go_wp2_with (first | (go_at_call 125; ((with_reducible refine (ref04_Placed o _).mono ?_); rintro e w2 ⟨rfl, hb2⟩; obtain ⟨x2, rfl⟩ := ext_of_grow hb2; clear hb2)))
        go_roundw
        case rel => exact ⟨k + 1, l, ex4 (by omega) (by go_num) (by (repeat (first | (with_reducible exact Grow.refl _) | assumption | refine Grow.ext ?_ _ | refine Grow.alloc ?_ _ | refine Grow.drew ?_ | refine Grow.setCell ?_ (by first | (simp; done) | (simp; omega)) _ | refine Grow.trans ?_ (by assumption)))) (Lib.hid (by rw [flatMap_snoc Hg_o, ← Hl.out]; simp [locO, hpl]))⟩
        case measure => simp [intOf]; omega
      · have Hlo := Lib.hid (placed_loc Ho.out hpl)
        obtain ⟨ok, on, ⟨lc, de, fi⟩⟩ := o
        obtain ⟨q, rfl⟩ := Int.eq_ofNat_of_zero_le Hlo.out.1
        have hq : q < 16 := by have := Hlo.out.2; simp at this; omega
        have hg1 : ∀ l, (cnt16 l)[q]? = some (.int .i64 (cw l q)) := fun l => cnt16_get l q hq
        have hs1 : ∀ l, (cnt16 l).setIfInBounds q (.int .i64 (cw (l ++ [(q : Int)]) q)) = cnt16 (l ++ [(q : Int)]) := fun l => cnt16_set l q hq
        have hc1 : ∀ l, wrap64 (cw l q + 1) = cw (l ++ [(q : Int)]) q := fun l => cw_one l q
        go_wp2_with (first | (go_at_call 125; ((with_reducible refine (ref04_Placed ⟨ok, on, ⟨(q : Int), de, fi⟩⟩ _).mono ?_); rintro e w2 ⟨rfl, hb2⟩; obtain ⟨x2, rfl⟩ := ext_of_grow hb2; clear hb2)))
        go_roundw
        case rel => exact ⟨k + 1, l ++ [(q : Int)], ex4 (by omega) (by go_num) (by (repeat (first | (with_reducible exact Grow.refl _) | assumption | refine Grow.ext ?_ _ | refine Grow.alloc ?_ _ | refine Grow.drew ?_ | refine Grow.setCell ?_ (by first | (simp; done) | (simp; omega)) _ | refine Grow.trans ?_ (by assumption)))) (Lib.hid (by rw [flatMap_snoc Hg_o, ← Hl.out]; simp [locO, hpl]))⟩
        case measure => simp [intOf]; omega
    · have Hl1 : Hid (l = (juParts ⟨kind, oa, fn, next, els, args, ⟨dl, dd, df⟩⟩).flatMap locO) := Lib.hid (by rw [Hl.out, List.take_of_length_le (by rw [← Hn1.out]; omega)])
      clear Hl
      by_cases h4 : kind = 4
      · have Hd4 := Lib.hid (Hd.out h4)
        have H4 := Lib.hid h4
        replace h4 : (kind == 4) = true := by simp [h4]
        obtain ⟨q, rfl⟩ := Int.eq_ofNat_of_zero_le Hd4.out.1
        have hq : q < 16 := by have := Hd4.out.2; simp at this; omega
        have hg1 : ∀ l, (cnt16 l)[q]? = some (.int .i64 (cw l q)) := fun l => cnt16_get l q hq
        have hs1 : ∀ l, (cnt16 l).setIfInBounds q (.int .i64 (cw (l ++ [(q : Int)]) q)) = cnt16 (l ++ [(q : Int)]) := fun l => cnt16_set l q hq
        have hc1 : ∀ l, wrap64 (cw l q + 1) = cw (l ++ [(q : Int)]) q := fun l => cw_one l q
        go_wp2_with fail
        ((try simp only [Exit.inBlock, Exit.then]); refine post_of (by simp only [results, Try.results111]; go_simp; rfl) rfl (by (repeat (first | (with_reducible exact Grow.refl _) | assumption | refine Grow.ext ?_ _ | refine Grow.alloc ?_ _ | refine Grow.drew ?_ | refine Grow.setCell ?_ (by first | (simp; done) | (simp; omega)) _ | refine Grow.trans ?_ (by assumption)))) ?_)
        rw [Hl1.out]; simp [locJ, H4.out]
      · have H4 := Lib.hid h4
        replace h4 : (kind == 4) = false := by simp [h4]
        go_wp2_with fail
        ((try simp only [Exit.inBlock, Exit.then]); refine post_of (by simp only [results, Try.results111]; go_simp; rfl) rfl (by (repeat (first | (with_reducible exact Grow.refl _) | assumption | refine Grow.ext ?_ _ | refine Grow.alloc ?_ _ | refine Grow.drew ?_ | refine Grow.setCell ?_ (by first | (simp; done) | (simp; omega)) _ | refine Grow.trans ?_ (by assumption)))) ?_)
        rw [Hl1.out]; simp [locJ, H4.out]
end Go.Proofs.Ytiikhfjdpaofdaa
