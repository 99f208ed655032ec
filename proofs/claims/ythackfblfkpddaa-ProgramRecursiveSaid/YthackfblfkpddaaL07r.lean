/- Layer 7, the reference: how often locals occur. Layer 7, the reference: how often locals occur in statements. Layer 7, the reference: blocks that are well made. -/
import Derived.Test.YthackfblfkpddaaL07g
namespace Go.Proofs.Ythackfblfkpddaa
open Go.RowKit
set_option linter.unusedSimpArgs false
set_option linter.unusedVariables false

/-- The locals that occur, in the reference's order. -/
def locO (o : Opd) : List Int := if placed o = true then [o.pl.loc] else []
def locS (s : St) : List Int := (if s.kind = 3 then [s.loc] else []) ++ (if s.kind = 1 then s.pl.loc :: ((rvParts s.r).flatMap locO ++ (if s.r.kind = 4 ∨ s.r.kind = 5 then [s.r.pl.loc] else [])) else []) ++ locO s.a
def locJ (j : Ju) : List Int := (juParts j).flatMap locO ++ (if j.kind = 4 then [j.dest.loc] else [])
theorem flatMap_snoc {α β : Type} {g : α → List β} {xs : List α} {k : Nat} {x : α} (h : Hid (xs[k]? = some x)) : (xs.take (k + 1)).flatMap g = (xs.take k).flatMap g ++ g x := by
  rw [List.take_add_one, h.out]; simp
theorem nat_loc {p : Pl} (h : loc16 p) : ∃ q : Nat, p.loc = q ∧ q < 16 := by
  obtain ⟨q, hq⟩ := Int.eq_ofNat_of_zero_le h.1
  exact ⟨q, hq, by have := h.2; omega⟩
theorem rv_opds7 {r : Rv} (h : rvOk r = true) : ∀ o ∈ rvParts r, opdErr o = 0 := by
  unfold rvParts
  split
  · intro o ho; simp at ho; subst ho; unfold rvOk at h; grind
  · split
    · have ha : opdErr r.a = 0 ∧ opdErr r.b = 0 := by unfold rvOk at h; grind
      intro o ho; simp at ho; rcases ho with rfl | rfl; exact ha.1; exact ha.2
    · intro o ho; cases ho
theorem placed_loc {o : Opd} (h : opdErr o = 0) (hp : placed o = true) : loc16 o.pl := opd_loc h (by unfold placed at hp; simp at hp; omega)
set_option maxRecDepth 100000 in
set_option maxHeartbeats 2000000 in
theorem ref07_OccursJump (j : Ju) (av : Value) (w : World) {F : Nat → Prop} (hj : j.wf) (hav : Sl F w av j.args) (hok : juErr j = 0) :
    Calls Try.prog 89 #[j.v av] w (Ret w (.agg (cnt16 (locJ j)))) := by
  obtain ⟨a, n, cap, rfl, Hn, hm, hcap, hcm, hav⟩ := hav.old.open
  have Hok := Lib.hid hok; clear hok
  have Hp : Hid (∀ o ∈ juParts j, opdErr o = 0) := by
    refine Lib.hid ?_
    have h := (juErr_iff j).1 Hok.out
    unfold juParts; split
    · intro o ho; simp at ho; subst ho; unfold juOk juPre at h; grind
    · intro o ho; unfold juOk argsOk at h; simp only [Bool.and_eq_true, List.all_eq_true, decide_eq_true_eq] at h; exact h.2 o ho
  have e1 := cnt16_nil
  have Hd : Hid (j.kind = 4 → loc16 j.dest) := Lib.hid (fun h4 => pl_loc (by have h := (juErr_iff j).1 Hok.out; unfold juOk juPre at h; grind))
  obtain ⟨kind, oa, fn, next, els, args, ⟨dl, dd, df⟩⟩ := j
  go_enter Try.func89, Try.ntmps89
  go_wp2_with (first | (go_at_call 106; ((with_reducible refine (ref06_Parts ⟨kind, oa, fn, next, els, args, ⟨dl, dd, df⟩⟩ _ _ hj (hav.mono (by (repeat (first | (with_reducible exact Grow.refl _) | assumption | refine Grow.ext ?_ _ | refine Grow.alloc ?_ _ | refine Grow.drew ?_ | refine Grow.setCell ?_ (by first | (simp; done) | (simp; omega)) _ | refine Grow.trans ?_ (by assumption)))))).mono ?_); rintro e w1 ⟨v1, rfl, hs1, hb1⟩; obtain ⟨x1, rfl⟩ := ext_of_grow hb1; clear hb1; obtain ⟨a1, n1, cap1, rfl, Hn1, hm1, hcap1, hcm1, hs1⟩ := hs1.open)))
  clear e1
  have hS : ∀ l, Sl (Fr (Old w) (((w.alloc (Obj.cells #[.int .u8 kind, .int .u8 oa.kind, .int .i64 oa.n, .int .i64 oa.pl.loc, .bool oa.pl.deref, .int .u8 oa.pl.field, .int .i64 fn, .int .i64 next, .int .i64 els, .slice a n cap, .int .i64 dl, .bool dd, .int .u8 df] 46)).alloc (.cells (cnt16 []) 121)).alloc (.cells (cnt16 []) 121)).heap.size) (ext (((w.alloc (Obj.cells #[.int .u8 kind, .int .u8 oa.kind, .int .i64 oa.n, .int .i64 oa.pl.loc, .bool oa.pl.deref, .int .u8 oa.pl.field, .int .i64 fn, .int .i64 next, .int .i64 els, .slice a n cap, .int .i64 dl, .bool dd, .int .u8 df] 46)).alloc (.cells (cnt16 []) 121)).alloc (.cells (cnt16 l) 121)) x1) (.slice a1 n1 cap1) (juParts ⟨kind, oa, fn, next, els, args, ⟨dl, dd, df⟩⟩) := fun l =>
    hs1.keep (((AgrS.refl _ ((w.alloc (Obj.cells #[.int .u8 kind, .int .u8 oa.kind, .int .i64 oa.n, .int .i64 oa.pl.loc, .bool oa.pl.deref, .int .u8 oa.pl.field, .int .i64 fn, .int .i64 next, .int .i64 els, .slice a n cap, .int .i64 dl, .bool dd, .int .u8 df] 46)).alloc (.cells (cnt16 []) 121))).alloc (by simp [Fr, Old]; omega) _ _).ext x1).agr
  clear hs1
  go_loopw [5] (fun i wr => ∃ (k : Nat) (l : List Int) (y : Ext), k ≤ n1 ∧ i = .int .i64 k ∧ wr = ext (ext (((w.alloc (Obj.cells #[.int .u8 kind, .int .u8 oa.kind, .int .i64 oa.n, .int .i64 oa.pl.loc, .bool oa.pl.deref, .int .u8 oa.pl.field, .int .i64 fn, .int .i64 next, .int .i64 els, .slice a n cap, .int .i64 dl, .bool dd, .int .u8 df] 46)).alloc (.cells (cnt16 []) 121)).alloc (.cells (cnt16 l) 121)) x1) y ∧ Hid (l = ((juParts ⟨kind, oa, fn, next, els, args, ⟨dl, dd, df⟩⟩).take k).flatMap locO)) (fun i _ => n1 - (intOf i).toNat)
  case atStart => exact ⟨0, [], _, Nat.zero_le _, rfl, (ext_self _).symm, Lib.hid (by simp)⟩
  case round =>
    obtain ⟨k, l, y, hk, rfl, rfl, Hl⟩ := hrel
    by_cases hlt : k < n1
    · have hs7 := hS l
      obtain ⟨b_o, off_o, o, rfl, ⟨Hg_o, hl_o, hw_o, c_o0, c_o1, c_o2, c_o3, c_o4, r_o0, r_o1⟩⟩ := hs7.opd k hlt
      have Ho := Lib.hid (Hp.out o (List.mem_of_getElem? Hg_o.out))
      cases hpl : placed o
      · go_wp2_with (first | (go_at_call 105; ((with_reducible refine (ref04_Placed o _).mono ?_); rintro e w2 ⟨rfl, hb2⟩; obtain ⟨x2, rfl⟩ := ext_of_grow hb2; clear hb2)))
        go_roundw
        case rel => exact ⟨k + 1, l, ex4 (by omega) (by go_num) (by (repeat (first | (with_reducible exact Grow.refl _) | assumption | refine Grow.ext ?_ _ | refine Grow.alloc ?_ _ | refine Grow.drew ?_ | refine Grow.setCell ?_ (by first | (simp; done) | (simp; omega)) _ | refine Grow.trans ?_ (by assumption)))) (Lib.hid (by rw [flatMap_snoc Hg_o, ← Hl.out]; simp [locO, hpl]))⟩
        case measure => simp [intOf]; omega
      · have Hlo := Lib.hid (placed_loc Ho.out hpl)
        obtain ⟨ok, on, ⟨lc, de, fi⟩⟩ := o
        obtain ⟨q, rfl⟩ := Int.eq_ofNat_of_zero_le Hlo.out.1
        have hq : q < 16 := by have := Hlo.out.2; simp at this; omega
        have hg1 : ∀ l, (cnt16 l)[q]? = some (.int .i64 (cw l q)) := fun l => cnt16_get l q hq
        have hs1 : ∀ l, (cnt16 l).setIfInBounds q (.int .i64 (cw (l ++ [(q : Int)]) q)) = cnt16 (l ++ [(q : Int)]) := fun l => cnt16_set l q hq
        have hc1 : ∀ l, wrap64 (cw l q + 1) = cw (l ++ [(q : Int)]) q := fun l => cw_one l q
        go_wp2_with (first | (go_at_call 105; ((with_reducible refine (ref04_Placed ⟨ok, on, ⟨(q : Int), de, fi⟩⟩ _).mono ?_); rintro e w2 ⟨rfl, hb2⟩; obtain ⟨x2, rfl⟩ := ext_of_grow hb2; clear hb2)))
        go_roundw
        case rel => exact ⟨k + 1, l ++ [(q : Int)], ex4 (by omega) (by go_num) (by (repeat (first | (with_reducible exact Grow.refl _) | assumption | refine Grow.ext ?_ _ | refine Grow.alloc ?_ _ | refine Grow.drew ?_ | refine Grow.setCell ?_ (by first | (simp; done) | (simp; omega)) _ | refine Grow.trans ?_ (by assumption)))) (Lib.hid (by rw [flatMap_snoc Hg_o, ← Hl.out]; simp [locO, hpl]))⟩
        case measure => simp [intOf]; omega
    · have Hl1 : Hid (l = (juParts ⟨kind, oa, fn, next, els, args, ⟨dl, dd, df⟩⟩).flatMap locO) := Lib.hid (by rw [Hl.out, List.take_of_length_le (by rw [← Hn1.out]; omega)])
      clear Hl
      by_cases h4 : kind = 4
      · have Hd4 := Lib.hid (Hd.out h4)
        have H4 := Lib.hid h4
        replace h4 : (kind == 4) = true := by simp [h4]
        obtain ⟨q, rfl⟩ := Int.eq_ofNat_of_zero_le Hd4.out.1
        have hq : q < 16 := by have := Hd4.out.2; simp at this; omega
        have hg1 : ∀ l, (cnt16 l)[q]? = some (.int .i64 (cw l q)) := fun l => cnt16_get l q hq
        have hs1 : ∀ l, (cnt16 l).setIfInBounds q (.int .i64 (cw (l ++ [(q : Int)]) q)) = cnt16 (l ++ [(q : Int)]) := fun l => cnt16_set l q hq
        have hc1 : ∀ l, wrap64 (cw l q + 1) = cw (l ++ [(q : Int)]) q := fun l => cw_one l q
        go_wp2_with fail
        ((try simp only [Exit.inBlock, Exit.then]); refine post_of (by simp only [results, Try.results89]; go_simp; rfl) rfl (by (repeat (first | (with_reducible exact Grow.refl _) | assumption | refine Grow.ext ?_ _ | refine Grow.alloc ?_ _ | refine Grow.drew ?_ | refine Grow.setCell ?_ (by first | (simp; done) | (simp; omega)) _ | refine Grow.trans ?_ (by assumption)))) ?_)
        rw [Hl1.out]; simp [locJ, H4.out]
      · have H4 := Lib.hid h4
        replace h4 : (kind == 4) = false := by simp [h4]
        go_wp2_with fail
        ((try simp only [Exit.inBlock, Exit.then]); refine post_of (by simp only [results, Try.results89]; go_simp; rfl) rfl (by (repeat (first | (with_reducible exact Grow.refl _) | assumption | refine Grow.ext ?_ _ | refine Grow.alloc ?_ _ | refine Grow.drew ?_ | refine Grow.setCell ?_ (by first | (simp; done) | (simp; omega)) _ | refine Grow.trans ?_ (by assumption)))) ?_)
        rw [Hl1.out]; simp [locJ, H4.out]
theorem opdZ_placed {o : Opd} (h : opdZ o = true) : placed o = false := by unfold opdZ at h; unfold placed; simp at h ⊢; omega
set_option maxRecDepth 100000 in
set_option maxHeartbeats 2000000 in
theorem ref07_Occurs (s : St) (w : World) (hs : s.wf) (hok : stErr s = 0) :
    Calls Try.prog 86 #[s.v] w (Ret w (.agg (cnt16 (locS s)))) := by
  have Hok := Lib.hid ((stErr_iff s).1 hok); clear hok
  have e1 := cnt16_nil
  have hr := hs.r
  by_cases h3 : s.kind = 3
  · have H3 := Lib.hid h3
    have Hl : Hid (0 ≤ s.loc ∧ s.loc < 16) := Lib.hid (by have h := Hok.out; unfold stOk at h; grind)
    have Hp : Hid (placed s.a = false) := Lib.hid (opdZ_placed (by have h := Hok.out; unfold stOk at h; grind))
    have hp := Hp.out
    replace h3 : (s.kind == 3) = true := by simp [h3]
    have h1 : (s.kind == 1) = false := by have := H3.out; simp; omega
    obtain ⟨kd, ⟨lc, de, fi⟩, ⟨rk, op, bo, ra, rb, ⟨rl, rd, rf⟩⟩, ⟨ak, an, ⟨al, ad, af⟩⟩, sl⟩ := s
    obtain ⟨sl, rfl⟩ := Int.eq_ofNat_of_zero_le Hl.out.1
    have hqsl : sl < 16 := by have := Hl.out.2; simp at this; omega
    have hgsl : ∀ l, (cnt16 l)[sl]? = some (.int .i64 (cw l sl)) := fun l => cnt16_get l sl hqsl
    have hssl : ∀ l, (cnt16 l).setIfInBounds sl (.int .i64 (cw (l ++ [(sl : Int)]) sl)) = cnt16 (l ++ [(sl : Int)]) := fun l => cnt16_set l sl hqsl
    have hs0sl : (cnt16 []).setIfInBounds sl (.int .i64 (cw [(sl : Int)] sl)) = cnt16 [(sl : Int)] := cnt16_set [] sl hqsl
    have hcsl : ∀ l, wrap64 (cw l sl + 1) = cw (l ++ [(sl : Int)]) sl := fun l => cw_one l sl
    go_enter Try.func86, Try.ntmps86
    go_wp2_with (first | (go_at_call 105; ((with_reducible refine (ref04_Placed ⟨ak, an, ⟨al, ad, af⟩⟩ _).mono ?_); rintro e w2 ⟨rfl, hb2⟩; obtain ⟨x2, rfl⟩ := ext_of_grow hb2; clear hb2)))
    ((try simp only [Exit.inBlock, Exit.then]); refine post_of (by simp only [results, Try.results86]; go_simp; rfl) rfl (by (repeat (first | (with_reducible exact Grow.refl _) | assumption | refine Grow.ext ?_ _ | refine Grow.alloc ?_ _ | refine Grow.drew ?_ | refine Grow.setCell ?_ (by first | (simp; done) | (simp; omega)) _ | refine Grow.trans ?_ (by assumption)))) ?_)
    simp [locS, locO, H3.out, hp]
  · have H3 := Lib.hid h3
    replace h3 : (s.kind == 3) = false := by simp [h3]
    by_cases h1 : s.kind = 1
    · have H1 := Lib.hid h1
      have Hrv : Hid (rvOk s.r = true) := Lib.hid (by have h := Hok.out; unfold stOk at h; grind)
      have Hl : Hid (loc16 s.pl) := Lib.hid (pl_loc (by have h := Hok.out; unfold stOk at h; grind))
      have Hp : Hid (placed s.a = false) := Lib.hid (opdZ_placed (by have h := Hok.out; unfold stOk at h; grind))
      have Hpt := Lib.hid (rv_opds7 Hrv.out)
      have Hrl : Hid (s.r.kind = 4 ∨ s.r.kind = 5 → loc16 s.r.pl) := Lib.hid (fun h45 => pl_loc (by have h := Hrv.out; unfold rvOk at h; grind))
      have hp := Hp.out
      replace h1 : (s.kind == 1) = true := by simp [h1]
      obtain ⟨kd, ⟨lc, de, fi⟩, ⟨rk, op, bo, ra, rb, ⟨rl, rd, rf⟩⟩, ⟨ak, an, ⟨al, ad, af⟩⟩, sl⟩ := s
      obtain ⟨lc, rfl⟩ := Int.eq_ofNat_of_zero_le Hl.out.1
      have hqlc : lc < 16 := by have := Hl.out.2; simp at this; omega
      have hglc : ∀ l, (cnt16 l)[lc]? = some (.int .i64 (cw l lc)) := fun l => cnt16_get l lc hqlc
      have hslc : ∀ l, (cnt16 l).setIfInBounds lc (.int .i64 (cw (l ++ [(lc : Int)]) lc)) = cnt16 (l ++ [(lc : Int)]) := fun l => cnt16_set l lc hqlc
      have hs0lc : (cnt16 []).setIfInBounds lc (.int .i64 (cw [(lc : Int)] lc)) = cnt16 [(lc : Int)] := cnt16_set [] lc hqlc
      have hclc : ∀ l, wrap64 (cw l lc + 1) = cw (l ++ [(lc : Int)]) lc := fun l => cw_one l lc
      go_enter Try.func86, Try.ntmps86
      go_wp2_with (first | (go_at_call 88; ((with_reducible refine (ref04_Parts ⟨rk, op, bo, ra, rb, ⟨rl, rd, rf⟩⟩ _ hr).mono ?_); rintro e w1 ⟨v1, rfl, hs1, hb1⟩; obtain ⟨x1, rfl⟩ := ext_of_grow hb1; clear hb1; obtain ⟨a1, n1, cap1, rfl, Hn1, hm1, hcap1, hcm1, hs1⟩ := hs1.open)))
      clear e1
      have hS : ∀ l, Sl (Fresh (((w.alloc (Obj.cells #[.int .u8 kd, .int .i64 (lc : Int), .bool de, .int .u8 fi, .int .u8 rk, .int .u8 op, .int .u8 bo, .int .u8 ra.kind, .int .i64 ra.n, .int .i64 ra.pl.loc, .bool ra.pl.deref, .int .u8 ra.pl.field, .int .u8 rb.kind, .int .i64 rb.n, .int .i64 rb.pl.loc, .bool rb.pl.deref, .int .u8 rb.pl.field, .int .i64 rl, .bool rd, .int .u8 rf, .int .u8 ak, .int .i64 an, .int .i64 al, .bool ad, .int .u8 af, .int .i64 sl] 38)).alloc (.cells (cnt16 []) 121)).alloc (.cells (cnt16 [(lc : Int)]) 121))) (ext (((w.alloc (Obj.cells #[.int .u8 kd, .int .i64 (lc : Int), .bool de, .int .u8 fi, .int .u8 rk, .int .u8 op, .int .u8 bo, .int .u8 ra.kind, .int .i64 ra.n, .int .i64 ra.pl.loc, .bool ra.pl.deref, .int .u8 ra.pl.field, .int .u8 rb.kind, .int .i64 rb.n, .int .i64 rb.pl.loc, .bool rb.pl.deref, .int .u8 rb.pl.field, .int .i64 rl, .bool rd, .int .u8 rf, .int .u8 ak, .int .i64 an, .int .i64 al, .bool ad, .int .u8 af, .int .i64 sl] 38)).alloc (.cells (cnt16 []) 121)).alloc (.cells (cnt16 l) 121)) x1) (.slice a1 n1 cap1) (rvParts ⟨rk, op, bo, ra, rb, ⟨rl, rd, rf⟩⟩) := fun l =>
        hs1.keep (((AgrS.refl _ ((w.alloc (Obj.cells #[.int .u8 kd, .int .i64 (lc : Int), .bool de, .int .u8 fi, .int .u8 rk, .int .u8 op, .int .u8 bo, .int .u8 ra.kind, .int .i64 ra.n, .int .i64 ra.pl.loc, .bool ra.pl.deref, .int .u8 ra.pl.field, .int .u8 rb.kind, .int .i64 rb.n, .int .i64 rb.pl.loc, .bool rb.pl.deref, .int .u8 rb.pl.field, .int .i64 rl, .bool rd, .int .u8 rf, .int .u8 ak, .int .i64 an, .int .i64 al, .bool ad, .int .u8 af, .int .i64 sl] 38)).alloc (.cells (cnt16 []) 121))).alloc (by simp [Fr] <;> omega) _ _).ext x1).agr
      clear hs1
      go_loopw [5] (fun i wr => ∃ (k : Nat) (l : List Int) (y : Ext), k ≤ n1 ∧ i = .int .i64 k ∧ wr = ext (ext (((w.alloc (Obj.cells #[.int .u8 kd, .int .i64 (lc : Int), .bool de, .int .u8 fi, .int .u8 rk, .int .u8 op, .int .u8 bo, .int .u8 ra.kind, .int .i64 ra.n, .int .i64 ra.pl.loc, .bool ra.pl.deref, .int .u8 ra.pl.field, .int .u8 rb.kind, .int .i64 rb.n, .int .i64 rb.pl.loc, .bool rb.pl.deref, .int .u8 rb.pl.field, .int .i64 rl, .bool rd, .int .u8 rf, .int .u8 ak, .int .i64 an, .int .i64 al, .bool ad, .int .u8 af, .int .i64 sl] 38)).alloc (.cells (cnt16 []) 121)).alloc (.cells (cnt16 l) 121)) x1) y ∧ Hid (l = (lc : Int) :: ((rvParts ⟨rk, op, bo, ra, rb, ⟨rl, rd, rf⟩⟩).take k).flatMap locO)) (fun i _ => n1 - (intOf i).toNat)
      case atStart => exact ⟨0, [(lc : Int)], _, Nat.zero_le _, rfl, (ext_self _).symm, Lib.hid (by simp)⟩
      case round =>
        obtain ⟨k, l, y, hk, rfl, rfl, Hl2⟩ := hrel
        by_cases hlt : k < n1
        · have hs7 := hS l
          obtain ⟨b_o, off_o, o, rfl, ⟨Hg_o, hl_o, hw_o, c_o0, c_o1, c_o2, c_o3, c_o4, r_o0, r_o1⟩⟩ := hs7.opd k hlt
          have Ho := Lib.hid (Hpt.out o (List.mem_of_getElem? Hg_o.out))
          cases hpl : placed o
          · go_wp2_with (first | (go_at_call 105; ((with_reducible refine (ref04_Placed o _).mono ?_); rintro e w2 ⟨rfl, hb2⟩; obtain ⟨x2, rfl⟩ := ext_of_grow hb2; clear hb2)))
            go_roundw
            case rel => exact ⟨k + 1, l, ex4 (by omega) (by go_num) (by (repeat (first | (with_reducible exact Grow.refl _) | assumption | refine Grow.ext ?_ _ | refine Grow.alloc ?_ _ | refine Grow.drew ?_ | refine Grow.setCell ?_ (by first | (simp; done) | (simp; omega)) _ | refine Grow.trans ?_ (by assumption)))) (Lib.hid (by rw [flatMap_snoc Hg_o, Hl2.out]; simp [locO, hpl]))⟩
            case measure => simp [intOf]; omega
          · have Hlo := Lib.hid (placed_loc Ho.out hpl)
            obtain ⟨ok, on, ⟨olc, ode, ofi⟩⟩ := o
            obtain ⟨olc, rfl⟩ := Int.eq_ofNat_of_zero_le Hlo.out.1
            have hqolc : olc < 16 := by have := Hlo.out.2; simp at this; omega
            have hgolc : ∀ l, (cnt16 l)[olc]? = some (.int .i64 (cw l olc)) := fun l => cnt16_get l olc hqolc
            have hsolc : ∀ l, (cnt16 l).setIfInBounds olc (.int .i64 (cw (l ++ [(olc : Int)]) olc)) = cnt16 (l ++ [(olc : Int)]) := fun l => cnt16_set l olc hqolc
            have hs0olc : (cnt16 []).setIfInBounds olc (.int .i64 (cw [(olc : Int)] olc)) = cnt16 [(olc : Int)] := cnt16_set [] olc hqolc
            have hcolc : ∀ l, wrap64 (cw l olc + 1) = cw (l ++ [(olc : Int)]) olc := fun l => cw_one l olc
            go_wp2_with (first | (go_at_call 105; ((with_reducible refine (ref04_Placed ⟨ok, on, ⟨(olc : Int), ode, ofi⟩⟩ _).mono ?_); rintro e w2 ⟨rfl, hb2⟩; obtain ⟨x2, rfl⟩ := ext_of_grow hb2; clear hb2)))
            go_roundw
            case rel => exact ⟨k + 1, l ++ [(olc : Int)], ex4 (by omega) (by go_num) (by (repeat (first | (with_reducible exact Grow.refl _) | assumption | refine Grow.ext ?_ _ | refine Grow.alloc ?_ _ | refine Grow.drew ?_ | refine Grow.setCell ?_ (by first | (simp; done) | (simp; omega)) _ | refine Grow.trans ?_ (by assumption)))) (Lib.hid (by rw [flatMap_snoc Hg_o, Hl2.out]; simp [locO, hpl]))⟩
            case measure => simp [intOf]; omega
        · have Hl1 : Hid (l = (lc : Int) :: (rvParts ⟨rk, op, bo, ra, rb, ⟨rl, rd, rf⟩⟩).flatMap locO) := Lib.hid (by rw [Hl2.out, List.take_of_length_le (by rw [← Hn1.out]; omega)])
          clear Hl2
          by_cases h45 : rk = 4 ∨ rk = 5
          · have Hr2 := Lib.hid (Hrl.out h45)
            have H45 := Lib.hid h45
            have h45' : ((rk == 4) = true) ∨ ((rk == 4) = false ∧ (rk == 5) = true) := by rcases h45 with h | h <;> simp [h]
            clear h45
            obtain ⟨rl, rfl⟩ := Int.eq_ofNat_of_zero_le Hr2.out.1
            have hqrl : rl < 16 := by have := Hr2.out.2; simp at this; omega
            have hgrl : ∀ l, (cnt16 l)[rl]? = some (.int .i64 (cw l rl)) := fun l => cnt16_get l rl hqrl
            have hsrl : ∀ l, (cnt16 l).setIfInBounds rl (.int .i64 (cw (l ++ [(rl : Int)]) rl)) = cnt16 (l ++ [(rl : Int)]) := fun l => cnt16_set l rl hqrl
            have hs0rl : (cnt16 []).setIfInBounds rl (.int .i64 (cw [(rl : Int)] rl)) = cnt16 [(rl : Int)] := cnt16_set [] rl hqrl
            have hcrl : ∀ l, wrap64 (cw l rl + 1) = cw (l ++ [(rl : Int)]) rl := fun l => cw_one l rl
            rcases h45' with h4 | ⟨h4, h5⟩
            all_goals
              go_wp2_with (first | (go_at_call 105; ((with_reducible refine (ref04_Placed ⟨ak, an, ⟨al, ad, af⟩⟩ _).mono ?_); rintro e w2 ⟨rfl, hb2⟩; obtain ⟨x2, rfl⟩ := ext_of_grow hb2; clear hb2)))
              ((try simp only [Exit.inBlock, Exit.then]); refine post_of (by simp only [results, Try.results86]; go_simp; rfl) rfl (by (repeat (first | (with_reducible exact Grow.refl _) | assumption | refine Grow.ext ?_ _ | refine Grow.alloc ?_ _ | refine Grow.drew ?_ | refine Grow.setCell ?_ (by first | (simp; done) | (simp; omega)) _ | refine Grow.trans ?_ (by assumption)))) ?_)
              rw [Hl1.out]; simp [locS, locO, H1.out, hp, H45.out]
          · have H45 := Lib.hid h45
            have h4 : (rk == 4) = false := by simp; omega
            have h5 : (rk == 5) = false := by simp; omega
            clear h45
            go_wp2_with (first | (go_at_call 105; ((with_reducible refine (ref04_Placed ⟨ak, an, ⟨al, ad, af⟩⟩ _).mono ?_); rintro e w2 ⟨rfl, hb2⟩; obtain ⟨x2, rfl⟩ := ext_of_grow hb2; clear hb2)))
            ((try simp only [Exit.inBlock, Exit.then]); refine post_of (by simp only [results, Try.results86]; go_simp; rfl) rfl (by (repeat (first | (with_reducible exact Grow.refl _) | assumption | refine Grow.ext ?_ _ | refine Grow.alloc ?_ _ | refine Grow.drew ?_ | refine Grow.setCell ?_ (by first | (simp; done) | (simp; omega)) _ | refine Grow.trans ?_ (by assumption)))) ?_)
            rw [Hl1.out]; simp [locS, locO, H1.out, hp, H45.out]
    · have H1 := Lib.hid h1
      have Ha : Hid (opdErr s.a = 0) := Lib.hid (by have h := Hok.out; have h1 := H1.out; have h3 := H3.out; unfold stOk at h; grind)
      replace h1 : (s.kind == 1) = false := by simp [h1]
      cases hp : placed s.a
      · go_enter Try.func86, Try.ntmps86
        go_wp2_with (first | (go_at_call 105; ((with_reducible refine (ref04_Placed s.a _).mono ?_); rintro e w2 ⟨rfl, hb2⟩; obtain ⟨x2, rfl⟩ := ext_of_grow hb2; clear hb2)))
        ((try simp only [Exit.inBlock, Exit.then]); refine post_of (by simp only [results, Try.results86]; go_simp; rfl) rfl (by (repeat (first | (with_reducible exact Grow.refl _) | assumption | refine Grow.ext ?_ _ | refine Grow.alloc ?_ _ | refine Grow.drew ?_ | refine Grow.setCell ?_ (by first | (simp; done) | (simp; omega)) _ | refine Grow.trans ?_ (by assumption)))) ?_)
        simp [locS, locO, H1.out, H3.out, hp]
      · have Hl := Lib.hid (placed_loc Ha.out hp)
        obtain ⟨kd, ⟨lc, de, fi⟩, ⟨rk, op, bo, ra, rb, ⟨rl, rd, rf⟩⟩, ⟨ak, an, ⟨al, ad, af⟩⟩, sl⟩ := s
        obtain ⟨al, rfl⟩ := Int.eq_ofNat_of_zero_le Hl.out.1
        have hqal : al < 16 := by have := Hl.out.2; simp at this; omega
        have hgal : ∀ l, (cnt16 l)[al]? = some (.int .i64 (cw l al)) := fun l => cnt16_get l al hqal
        have hsal : ∀ l, (cnt16 l).setIfInBounds al (.int .i64 (cw (l ++ [(al : Int)]) al)) = cnt16 (l ++ [(al : Int)]) := fun l => cnt16_set l al hqal
        have hs0al : (cnt16 []).setIfInBounds al (.int .i64 (cw [(al : Int)] al)) = cnt16 [(al : Int)] := cnt16_set [] al hqal
        have hcal : ∀ l, wrap64 (cw l al + 1) = cw (l ++ [(al : Int)]) al := fun l => cw_one l al
        go_enter Try.func86, Try.ntmps86
        go_wp2_with (first | (go_at_call 105; ((with_reducible refine (ref04_Placed ⟨ak, an, ⟨al, ad, af⟩⟩ _).mono ?_); rintro e w2 ⟨rfl, hb2⟩; obtain ⟨x2, rfl⟩ := ext_of_grow hb2; clear hb2)))
        ((try simp only [Exit.inBlock, Exit.then]); refine post_of (by simp only [results, Try.results86]; go_simp; rfl) rfl (by (repeat (first | (with_reducible exact Grow.refl _) | assumption | refine Grow.ext ?_ _ | refine Grow.alloc ?_ _ | refine Grow.drew ?_ | refine Grow.setCell ?_ (by first | (simp; done) | (simp; omega)) _ | refine Grow.trans ?_ (by assumption)))) ?_)
        simp [locS, locO, H1.out, H3.out, hp]
theorem wrap_nat (m : Nat) (h : m ≤ 1000000) : wrap64 (m : Int) = m := by unfold wrap64; omega
/-- A local that is not below c occurs. -/
def farL (l : List Int) (c : Nat) : Bool := (List.range 16).any (fun t => decide (c ≤ t) && decide (0 < cw l t))
theorem farL_no {l : List Int} {c : Nat} (h : ∀ t, t < 16 → c ≤ t → cw l t ≤ 0) : farL l c = false := by
  unfold farL; rw [List.any_eq_false]; intro t ht; simp only [Bool.and_eq_true, decide_eq_true_eq, not_and]; intro hc; have := h t (List.mem_range.1 ht) hc; omega
theorem farL_yes {l : List Int} {c t : Nat} (ht : t < 16) (hc : c ≤ t) (h : 0 < cw l t) : farL l c = true := by
  unfold farL; rw [List.any_eq_true]; exact ⟨t, List.mem_range.2 ht, by simp [hc, h]⟩
set_option maxHeartbeats 1000000 in
theorem ref07_far (l : List Int) (c : Nat) (w : World) (hc : c ≤ 9223372036854775807) :
    Calls Try.prog 102 #[.agg (cnt16 l), .int .i64 c] w (Ret w (.bool (farL l c))) := by
  go_enter Try.func102, Try.ntmps102
  go_wp2_with fail
  go_loopw [5] (fun i wr => ∃ (q : Nat), c ≤ q ∧ i = .int .i64 q ∧ Grow (w.alloc (.cells (cnt16 l) 121)) wr ∧ q ≤ 9223372036854775807 ∧ Hid (∀ t, t < q → t < 16 → c ≤ t → cw l t ≤ 0)) (fun i _ => 16 - (intOf i).toNat)
  case atStart => exact ⟨c, Nat.le_refl _, rfl, (by (repeat (first | (with_reducible exact Grow.refl _) | assumption | refine Grow.ext ?_ _ | refine Grow.alloc ?_ _ | refine Grow.drew ?_ | refine Grow.setCell ?_ (by first | (simp; done) | (simp; omega)) _ | refine Grow.trans ?_ (by assumption)))), hc, Lib.hid (fun t ht _ hct => absurd ht (by omega))⟩
  case round =>
    obtain ⟨q, hcq, rfl, hb1, hq9, Hq⟩ := hrel
    (obtain ⟨x1, rfl⟩ := ext_of_grow hb1; clear hb1)
    by_cases hlt : q < 16
    · have hg := cnt16_get l q hlt
      by_cases hp : 0 < cw l q
      · go_wp2_with fail
        go_ret
        exact Ret.bool (farL_yes hlt hcq hp).symm (by (repeat (first | (with_reducible exact Grow.refl _) | assumption | refine Grow.ext ?_ _ | refine Grow.alloc ?_ _ | refine Grow.drew ?_ | refine Grow.setCell ?_ (by first | (simp; done) | (simp; omega)) _ | refine Grow.trans ?_ (by assumption))))
      · have Hp : Hid (cw l q ≤ 0) := Lib.hid (by omega)
        go_wp2_with fail
        go_roundw
        case rel => exact ⟨q + 1, by omega, by go_num, (by (repeat (first | (with_reducible exact Grow.refl _) | assumption | refine Grow.ext ?_ _ | refine Grow.alloc ?_ _ | refine Grow.drew ?_ | refine Grow.setCell ?_ (by first | (simp; done) | (simp; omega)) _ | refine Grow.trans ?_ (by assumption)))), by omega, Lib.hid (fun t ht h16 hct => by rcases Nat.lt_succ_iff_lt_or_eq.1 ht with h | rfl; exact Hq.out t h h16 hct; exact Hp.out)⟩
        case measure => simp [intOf]; omega
    · go_wp2_with fail
      go_ret
      exact Ret.bool (farL_no (fun t h16 hct => Hq.out t (by omega) h16 hct)).symm (by (repeat (first | (with_reducible exact Grow.refl _) | assumption | refine Grow.ext ?_ _ | refine Grow.alloc ?_ _ | refine Grow.drew ?_ | refine Grow.setCell ?_ (by first | (simp; done) | (simp; omega)) _ | refine Grow.trans ?_ (by assumption))))

theorem any_loc {l : List Int} {c : Nat} (hl : ∀ x ∈ l, 0 ≤ x ∧ x < 16) (hlen : l.length ≤ 1000000) : farL l c = !(l.all (fun x => decide (x < (c : Int)))) := by
  rw [Bool.eq_iff_iff]
  constructor
  · intro h
    unfold farL at h; rw [List.any_eq_true] at h
    obtain ⟨t, ht, h⟩ := h
    simp only [Bool.and_eq_true, decide_eq_true_eq] at h
    rw [cw_small hlen] at h
    have hm : (t : Int) ∈ l := List.count_pos_iff.1 (by omega)
    simp only [Bool.not_eq_true', List.all_eq_false, decide_eq_true_eq]
    exact ⟨_, hm, by omega⟩
  · intro h
    simp only [Bool.not_eq_true', List.all_eq_false, decide_eq_true_eq] at h
    obtain ⟨x, hx, h⟩ := h
    obtain ⟨t, rfl⟩ := Int.eq_ofNat_of_zero_le (hl x hx).1
    refine farL_yes (t := t) (by have := (hl _ hx).2; omega) (by omega) ?_
    rw [cw_small hlen]
    have := List.count_pos_iff.2 hx; omega
/- The reference's locals are those of the places that are told. -/
theorem opd_vis {o : Opd} {m : Bool} (h : opdErr o = 0) : locO o = (visO m o).map (fun v => v.1.loc) := by
  have := (opdErr_iff o).1 h
  unfold locO visO placed
  rcases this with q | q
  · simp [q.1]
  · have h1 : o.kind ≠ 1 := by omega
    simp [q.1, h1]
theorem opds_vis {l : List Opd} {m : Bool} (h : ∀ o ∈ l, opdErr o = 0) : l.flatMap locO = (visOs m l).map (fun v => v.1.loc) := by
  induction l with
  | nil => rfl
  | cons o l ih =>
    unfold visOs; rw [List.flatMap_cons, List.flatMap_cons, List.map_append, ← opd_vis (h o (by simp))]
    congr 1
    exact ih (fun q hq => h q (by simp [hq]))
theorem locJ_perm {j : Ju} (h : juErr j = 0) : (locJ j).Perm ((visJ j).map (fun v => v.1.loc)) := by
  have h' := (juErr_iff j).1 h
  have ha : ∀ o ∈ j.args, opdErr o = 0 := by
    intro o ho; unfold juOk argsOk at h'; simp only [Bool.and_eq_true, List.all_eq_true, decide_eq_true_eq] at h'; exact h'.2 o ho
  unfold locJ visJ juParts
  by_cases h2 : j.kind = 2
  · have : opdErr j.a = 0 := by unfold juOk juPre at h'; grind
    rw [if_pos h2, if_pos h2, if_neg (by omega), opds_vis (m := false) (by intro o ho; simp at ho; subst ho; exact this)]; simp
  · rw [if_neg h2, if_neg h2]
    by_cases h4 : j.kind = 4
    · rw [if_pos h4, if_pos h4, opds_vis (m := true) ha, List.map_cons]
      exact List.perm_append_singleton _ _
    · have : j.args = [] := by
        have : j.args.length = 0 := by unfold juOk juPre at h'; grind
        exact List.length_eq_zero_iff.1 this
      rw [if_neg h4, if_neg h4, this]; simp
theorem locS_perm {s : St} (h : stErr s = 0) : (locS s).Perm ((visS s).map (fun v => v.1.loc)) := by
  have h' := (stErr_iff s).1 h
  unfold locS visS
  by_cases h3 : s.kind = 3
  · have hz : placed s.a = false := opdZ_placed (by unfold stOk at h'; grind)
    simp [h3, locO, hz]
  · by_cases h1 : s.kind = 1
    · have hz : placed s.a = false := opdZ_placed (by unfold stOk at h'; grind)
      have hr : rvOk s.r = true := by unfold stOk at h'; grind
      have e : (rvParts s.r).flatMap locO ++ (if s.r.kind = 4 ∨ s.r.kind = 5 then [s.r.pl.loc] else []) = (visR s.r).map (fun v => v.1.loc) := by
        have hp := rv_opds7 hr
        unfold visR
        by_cases h45 : s.r.kind = 4 ∨ s.r.kind = 5
        · have : rvParts s.r = [] := by unfold rvParts; rw [if_neg (by omega), if_neg (by omega)]
          simp [h45, this]
        · rw [if_neg h45, if_neg h45, List.append_nil]
          by_cases hk : s.r.kind = 1
          · rw [if_pos hk, opds_vis (m := true) hp]; unfold rvParts; rw [if_pos hk]
          · have hk2 : s.r.kind = 2 ∨ s.r.kind = 3 := by unfold rvOk at hr; grind
            rw [if_neg hk, opds_vis (m := false) hp]; unfold rvParts; rw [if_neg hk, if_pos hk2]
      rw [e]; simp [h1, locO, hz]
    · have h2 : s.kind = 2 ∨ s.kind = 4 := by unfold stOk at h'; grind
      have ha : opdErr s.a = 0 := by unfold stOk at h'; grind
      rw [if_neg h3, if_neg h1, if_neg h3, if_pos h2]
      have := opds_vis (l := [s.a]) (m := false) (by intro o ho; simp at ho; subst ho; exact ha)
      simp at this; simp [this]
end Go.Proofs.Ythackfblfkpddaa
