/- Layer 7, the reference: how often locals occur in statements. -/
import Derived.Test.YtiikhfjdpaofdaaL07r
namespace Go.Proofs.Ytiikhfjdpaofdaa
open Go.RowKit
set_option linter.unusedSimpArgs false
set_option linter.unusedVariables false

theorem opdZ_placed {o : Opd} (h : opdZ o = true) : placed o = false := by unfold opdZ at h; unfold placed; simp at h ⊢; omega
set_option maxRecDepth 100000 in
set_option maxHeartbeats 2000000 in
theorem ref07_Occurs (s : St) (w : World) (hs : s.wf) (hok : stErr s = 0) :
    Calls Try.prog 108 #[s.v] w (Ret w (.agg (cnt16 (locS s)))) := by
  have Hok := Lib.hid ((stErr_iff s).1 hok); clear hok
  have e1 := cnt16_nil
  have hr := hs.r
  by_cases h3 : s.kind = 3
  · have H3 := Lib.hid h3
    have Hl : Hid (0 ≤ s.loc ∧ s.loc < 16) := Lib.hid (by have h := Hok.out; unfold stOk at h; grind)
    have Hp : Hid (placed s.a = false) := Lib.hid (opdZ_placed (by have h := Hok.out; unfold stOk at h; grind))
    have hp := Hp.out
    replace h3 : (s.kind == 3) = true := by simp [h3]
    have h1 : (s.kind == 1) = false := by have := H3.out; simp; omega
    obtain ⟨kd, ⟨lc, de, fi⟩, ⟨rk, op, bo, ra, rb, ⟨rl, rd, rf⟩⟩, ⟨ak, an, ⟨al, ad, af⟩⟩, sl⟩ := s
    obtain ⟨sl, rfl⟩ := Int.eq_ofNat_of_zero_le Hl.out.1
    have hqsl : sl < 16 := by have := Hl.out.2; simp at this; omega
    have hgsl : ∀ l, (cnt16 l)[sl]? = some (.int .i64 (cw l sl)) := fun l => cnt16_get l sl hqsl
    have hssl : ∀ l, (cnt16 l).setIfInBounds sl (.int .i64 (cw (l ++ [(sl : Int)]) sl)) = cnt16 (l ++ [(sl : Int)]) := fun l => cnt16_set l sl hqsl
    have hs0sl : (cnt16 []).setIfInBounds sl (.int .i64 (cw [(sl : Int)] sl)) = cnt16 [(sl : Int)] := cnt16_set [] sl hqsl
    have hcsl : ∀ l, wrap64 (cw l sl + 1) = cw (l ++ [(sl : Int)]) sl := fun l => cw_one l sl
    go_enter Try.func108, Try.ntmps108
    go_wp2_with (first | (go_at_call 125; ((with_reducible refine (ref04_Placed ⟨ak, an, ⟨al, ad, af⟩⟩ _).mono ?_); rintro e w2 ⟨rfl, hb2⟩; obtain ⟨x2, rfl⟩ := ext_of_grow hb2; clear hb2)))
    ((try simp only [Exit.inBlock, Exit.then]); refine post_of (by simp only [results, Try.results108]; go_simp; rfl) rfl (by (repeat (first | (with_reducible exact Grow.refl _) | assumption | refine Grow.ext ?_ _ | refine Grow.alloc ?_ _ | refine Grow.drew ?_ | refine Grow.setCell ?_ (by first | (simp; done) | (simp; omega)) _ | refine Grow.trans ?_ (by assumption)))) ?_)
    simp [locS, locO, H3.out, hp]
  · have H3 := Lib.hid h3
    replace h3 : (s.kind == 3) = false := by simp [h3]
    by_cases h1 : s.kind = 1
    · have H1 := Lib.hid h1
      have Hrv : Hid (rvOk s.r = true) := Lib.hid (by have h := Hok.out; unfold stOk at h; grind)
      have Hl : Hid (loc16 s.pl) := Lib.hid (pl_loc (by have h := Hok.out; unfold stOk at h; grind))
      have Hp : Hid (placed s.a = false) := Lib.hid (opdZ_placed (by have h := Hok.out; unfold stOk at h; grind))
      have Hpt := Lib.hid (rv_opds7 Hrv.out)
      have Hrl : Hid (s.r.kind = 4 ∨ s.r.kind = 5 → loc16 s.r.pl) := Lib.hid (fun h45 => pl_loc (by have h := Hrv.out; unfold rvOk at h; grind))
      have hp := Hp.out
      replace h1 : (s.kind == 1) = true := by simp [h1]
      obtain ⟨kd, ⟨lc, de, fi⟩, ⟨rk, op, bo, ra, rb, ⟨rl, rd, rf⟩⟩, ⟨ak, an, ⟨al, ad, af⟩⟩, sl⟩ := s
      obtain ⟨lc, rfl⟩ := Int.eq_ofNat_of_zero_le Hl.out.1
      have hqlc : lc < 16 := by have := Hl.out.2; simp at this; omega
      have hglc : ∀ l, (cnt16 l)[lc]? = some (.int .i64 (cw l lc)) := fun l => cnt16_get l lc hqlc
      have hslc : ∀ l, (cnt16 l).setIfInBounds lc (.int .i64 (cw (l ++ [(lc : Int)]) lc)) = cnt16 (l ++ [(lc : Int)]) := fun l => cnt16_set l lc hqlc
      have hs0lc : (cnt16 []).setIfInBounds lc (.int .i64 (cw [(lc : Int)] lc)) = cnt16 [(lc : Int)] := cnt16_set [] lc hqlc
      have hclc : ∀ l, wrap64 (cw l lc + 1) = cw (l ++ [(lc : Int)]) lc := fun l => cw_one l lc
      go_enter Try.func108, Try.ntmps108
      go_wp2_with (first | (go_at_call 110; ((with_reducible refine (ref04_Parts ⟨rk, op, bo, ra, rb, ⟨rl, rd, rf⟩⟩ _ hr).mono ?_); rintro e w1 ⟨v1, rfl, hs1, hb1⟩; obtain ⟨x1, rfl⟩ := ext_of_grow hb1; clear hb1; obtain ⟨a1, n1, cap1, rfl, Hn1, hm1, hcap1, hcm1, hs1⟩ := hs1.open)))
      clear e1
      have hS : ∀ l, Sl (Fresh (((w.alloc (Obj.cells #[.int .u8 kd, .int .i64 (lc : Int), .bool de, .int .u8 fi, .int .u8 rk, .int .u8 op, .int .u8 bo, .int .u8 ra.kind, .int .i64 ra.n, .int .i64 ra.pl.loc, .bool ra.pl.deref, .int .u8 ra.pl.field, .int .u8 rb.kind, .int .i64 rb.n, .int .i64 rb.pl.loc, .bool rb.pl.deref, .int .u8 rb.pl.field, .int .i64 rl, .bool rd, .int .u8 rf, .int .u8 ak, .int .i64 an, .int .i64 al, .bool ad, .int .u8 af, .int .i64 sl] 80)).alloc (.cells (cnt16 []) 124)).alloc (.cells (cnt16 [(lc : Int)]) 124))) (ext (((w.alloc (Obj.cells #[.int .u8 kd, .int .i64 (lc : Int), .bool de, .int .u8 fi, .int .u8 rk, .int .u8 op, .int .u8 bo, .int .u8 ra.kind, .int .i64 ra.n, .int .i64 ra.pl.loc, .bool ra.pl.deref, .int .u8 ra.pl.field, .int .u8 rb.kind, .int .i64 rb.n, .int .i64 rb.pl.loc, .bool rb.pl.deref, .int .u8 rb.pl.field, .int .i64 rl, .bool rd, .int .u8 rf, .int .u8 ak, .int .i64 an, .int .i64 al, .bool ad, .int .u8 af, .int .i64 sl] 80)).alloc (.cells (cnt16 []) 124)).alloc (.cells (cnt16 l) 124)) x1) (.slice a1 n1 cap1) (rvParts ⟨rk, op, bo, ra, rb, ⟨rl, rd, rf⟩⟩) := fun l =>
        hs1.keep (((AgrS.refl _ ((w.alloc (Obj.cells #[.int .u8 kd, .int .i64 (lc : Int), .bool de, .int .u8 fi, .int .u8 rk, .int .u8 op, .int .u8 bo, .int .u8 ra.kind, .int .i64 ra.n, .int .i64 ra.pl.loc, .bool ra.pl.deref, .int .u8 ra.pl.field, .int .u8 rb.kind, .int .i64 rb.n, .int .i64 rb.pl.loc, .bool rb.pl.deref, .int .u8 rb.pl.field, .int .i64 rl, .bool rd, .int .u8 rf, .int .u8 ak, .int .i64 an, .int .i64 al, .bool ad, .int .u8 af, .int .i64 sl] 80)).alloc (.cells (cnt16 []) 124))).alloc (by simp [Fr] <;> omega) _ _).ext x1).agr
      clear hs1
      go_loopw [5] (fun i wr => ∃ (k : Nat) (l : List Int) (y : Ext), k ≤ n1 ∧ i = .int .i64 k ∧ wr = ext (ext (((w.alloc (Obj.cells #[.int .u8 kd, .int .i64 (lc : Int), .bool de, .int .u8 fi, .int .u8 rk, .int .u8 op, .int .u8 bo, .int .u8 ra.kind, .int .i64 ra.n, .int .i64 ra.pl.loc, .bool ra.pl.deref, .int .u8 ra.pl.field, .int .u8 rb.kind, .int .i64 rb.n, .int .i64 rb.pl.loc, .bool rb.pl.deref, .int .u8 rb.pl.field, .int .i64 rl, .bool rd, .int .u8 rf, .int .u8 ak, .int .i64 an, .int .i64 al, .bool ad, .int .u8 af, .int .i64 sl] 80)).alloc (.cells (cnt16 []) 124)).alloc (.cells (cnt16 l) 124)) x1) y ∧ Hid (l = (lc : Int) :: ((rvParts ⟨rk, op, bo, ra, rb, ⟨rl, rd, rf⟩⟩).take k).flatMap locO)) (fun i _ => n1 - (intOf i).toNat)
      case atStart => exact ⟨0, [(lc : Int)], _, Nat.zero_le _, rfl, (ext_self _).symm, Lib.hid (by simp)⟩
      case round =>
        obtain ⟨k, l, y, hk, rfl, rfl, Hl2⟩ := hrel
        by_cases hlt : k < n1
        · have hs7 := hS l
          obtain ⟨b_o, off_o, o, rfl, ⟨Hg_o, hl_o, hw_o, c_o0, c_o1, c_o2, c_o3, c_o4, r_o0, r_o1⟩⟩ := hs7.opd k hlt
          have Ho := Lib.hid (Hpt.out o (List.mem_of_getElem? Hg_o.out))
          cases hpl : placed o
          · go_wp2_with (first | (go_at_call 125; ((with_reducible refine (ref04_Placed o _).mono ?_); rintro e w2 ⟨rfl, hb2⟩; obtain ⟨x2, rfl⟩ := ext_of_grow hb2; clear hb2)))
            go_roundw
            case rel => exact ⟨k + 1, l, ex4 (by omega) (by go_num) (by (repeat (first | (with_reducible exact Grow.refl _) | assumption | refine Grow.ext ?_ _ | refine Grow.alloc ?_ _ | refine Grow.drew ?_ | refine Grow.setCell ?_ (by first | (simp; done) | (simp; omega)) _ | refine Grow.trans ?_ (by assumption)))) (Lib.hid (by rw [flatMap_snoc Hg_o, Hl2.out]; simp [locO, hpl]))⟩
            case measure => simp [intOf]; omega
          · have Hlo := Lib.hid (placed_loc Ho.out hpl)
            obtain ⟨ok, on, ⟨olc, ode, ofi⟩⟩ := o
            obtain ⟨olc, rfl⟩ := Int.eq_ofNat_of_zero_le Hlo.out.1
            have hqolc : olc < 16 := by have := Hlo.out.2; simp at this; omega
            have hgolc : ∀ l, (cnt16 l)[olc]? = some (.int .i64 (cw l olc)) := fun l => cnt16_get l olc hqolc
            have hsolc : ∀ l, (cnt16 l).setIfInBounds olc (.int .i64 (cw (l ++ [(olc : Int)]) olc)) = cnt16 (l ++ [(olc : Int)]) := fun l => cnt16_set l olc hqolc
            have hs0olc : (cnt16 []).setIfInBounds olc (.int .i64 (cw [(olc : Int)] olc)) = cnt16 [(olc : Int)] := cnt16_set [] olc hqolc
            have hcolc : ∀ l, wrap64 (cw l olc + 1) = cw (l ++ [(olc : Int)]) olc := fun l => cw_one l olc
            go_wp2_with (first | (go_at_call 125; ((with_reducible refine (ref04_Placed ⟨ok, on, ⟨(olc : Int), ode, ofi⟩⟩ _).mono ?_); rintro e w2 ⟨rfl, hb2⟩; obtain ⟨x2, rfl⟩ := ext_of_grow hb2; clear hb2)))
            go_roundw
            case rel => exact ⟨k + 1, l ++ [(olc : Int)], ex4 (by omega) (by go_num) (by (repeat (first | (with_reducible exact Grow.refl _) | assumption | refine Grow.ext ?_ _ | refine Grow.alloc ?_ _ | refine Grow.drew ?_ | refine Grow.setCell ?_ (by first | (simp; done) | (simp; omega)) _ | refine Grow.trans ?_ (by assumption)))) (Lib.hid (by rw [flatMap_snoc Hg_o, Hl2.out]; simp [locO, hpl]))⟩
            case measure => simp [intOf]; omega
        · have Hl1 : Hid (l = (lc : Int) :: (rvParts ⟨rk, op, bo, ra, rb, ⟨rl, rd, rf⟩⟩).flatMap locO) := Lib.hid (by rw [Hl2.out, List.take_of_length_le (by rw [← Hn1.out]; omega)])
          clear Hl2
          by_cases h45 : rk = 4 ∨ rk = 5
          · have Hr2 := Lib.hid (Hrl.out h45)
            have H45 := Lib.hid h45
            have h45' : ((rk == 4) = true) ∨ ((rk == 4) = false ∧ (rk == 5) = true) := by rcases h45 with h | h <;> simp [h]
            clear h45
            obtain ⟨rl, rfl⟩ := Int.eq_ofNat_of_zero_le Hr2.out.1
            have hqrl : rl < 16 := by have := Hr2.out.2; simp at this; omega
            have hgrl : ∀ l, (cnt16 l)[rl]? = some (.int .i64 (cw l rl)) := fun l => cnt16_get l rl hqrl
            have hsrl : ∀ l, (cnt16 l).setIfInBounds rl (.int .i64 (cw (l ++ [(rl : Int)]) rl)) = cnt16 (l ++ [(rl : Int)]) := fun l => cnt16_set l rl hqrl
            have hs0rl : (cnt16 []).setIfInBounds rl (.int .i64 (cw [(rl : Int)] rl)) = cnt16 [(rl : Int)] := cnt16_set [] rl hqrl
            have hcrl : ∀ l, wrap64 (cw l rl + 1) = cw (l ++ [(rl : Int)]) rl := fun l => cw_one l rl
            rcases h45' with h4 | ⟨h4, h5⟩
            all_goals
              go_wp2_with (first | (go_at_call 125; ((with_reducible refine (ref04_Placed ⟨ak, an, ⟨al, ad, af⟩⟩ _).mono ?_); rintro e w2 ⟨rfl, hb2⟩; obtain ⟨x2, rfl⟩ := ext_of_grow hb2; clear hb2)))
              ((try simp only [Exit.inBlock, Exit.then]); refine post_of (by simp only [results, Try.results108]; go_simp; rfl) rfl (by (repeat (first | (with_reducible exact Grow.refl _) | assumption | refine Grow.ext ?_ _ | refine Grow.alloc ?_ _ | refine Grow.drew ?_ | refine Grow.setCell ?_ (by first | (simp; done) | (simp; omega)) _ | refine Grow.trans ?_ (by assumption)))) ?_)
              rw [Hl1.out]; simp [locS, locO, H1.out, hp, H45.out]
          · have H45 := Lib.hid h45
            have h4 : (rk == 4) = false := by simp; omega
            have h5 : (rk == 5) = false := by simp; omega
            clear h45
            go_wp2_with (first | (go_at_call 125; ((with_reducible refine (ref04_Placed ⟨ak, an, ⟨al, ad, af⟩⟩ _).mono ?_); rintro e w2 ⟨rfl, hb2⟩; obtain ⟨x2, rfl⟩ := ext_of_grow hb2; clear hb2)))
            ((try simp only [Exit.inBlock, Exit.then]); refine post_of (by simp only [results, Try.results108]; go_simp; rfl) rfl (by (repeat (first | (with_reducible exact Grow.refl _) | assumption | refine Grow.ext ?_ _ | refine Grow.alloc ?_ _ | refine Grow.drew ?_ | refine Grow.setCell ?_ (by first | (simp; done) | (simp; omega)) _ | refine Grow.trans ?_ (by assumption)))) ?_)
            rw [Hl1.out]; simp [locS, locO, H1.out, hp, H45.out]
    · have H1 := Lib.hid h1
      have Ha : Hid (opdErr s.a = 0) := Lib.hid (by have h := Hok.out; have h1 := H1.out; have h3 := H3.out; unfold stOk at h; grind)
      replace h1 : (s.kind == 1) = false := by simp [h1]
      cases hp : placed s.a
      · go_enter Try.func108, Try.ntmps108
        go_wp2_with (first | (go_at_call 125; ((with_reducible refine (ref04_Placed s.a _).mono ?_); rintro e w2 ⟨rfl, hb2⟩; obtain ⟨x2, rfl⟩ := ext_of_grow hb2; clear hb2)))
        ((try simp only [Exit.inBlock, Exit.then]); refine post_of (by simp only [results, Try.results108]; go_simp; rfl) rfl (by (repeat (first | (with_reducible exact Grow.refl _) | assumption | refine Grow.ext ?_ _ | refine Grow.alloc ?_ _ | refine Grow.drew ?_ | refine Grow.setCell ?_ (by first | (simp; done) | (simp; omega)) _ | refine Grow.trans ?_ (by assumption)))) ?_)
        simp [locS, locO, H1.out, H3.out, hp]
      · have Hl := Lib.hid (placed_loc Ha.out hp)
        obtain ⟨kd, ⟨lc, de, fi⟩, ⟨rk, op, bo, ra, rb, ⟨rl, rd, rf⟩⟩, ⟨ak, an, ⟨al, ad, af⟩⟩, sl⟩ := s
        obtain ⟨al, rfl⟩ := Int.eq_ofNat_of_zero_le Hl.out.1
        have hqal : al < 16 := by have := Hl.out.2; simp at this; omega
        have hgal : ∀ l, (cnt16 l)[al]? = some (.int .i64 (cw l al)) := fun l => cnt16_get l al hqal
        have hsal : ∀ l, (cnt16 l).setIfInBounds al (.int .i64 (cw (l ++ [(al : Int)]) al)) = cnt16 (l ++ [(al : Int)]) := fun l => cnt16_set l al hqal
        have hs0al : (cnt16 []).setIfInBounds al (.int .i64 (cw [(al : Int)] al)) = cnt16 [(al : Int)] := cnt16_set [] al hqal
        have hcal : ∀ l, wrap64 (cw l al + 1) = cw (l ++ [(al : Int)]) al := fun l => cw_one l al
        go_enter Try.func108, Try.ntmps108
        go_wp2_with (first | (go_at_call 125; ((with_reducible refine (ref04_Placed ⟨ak, an, ⟨al, ad, af⟩⟩ _).mono ?_); rintro e w2 ⟨rfl, hb2⟩; obtain ⟨x2, rfl⟩ := ext_of_grow hb2; clear hb2)))
        ((try simp only [Exit.inBlock, Exit.then]); refine post_of (by simp only [results, Try.results108]; go_simp; rfl) rfl (by (repeat (first | (with_reducible exact Grow.refl _) | assumption | refine Grow.ext ?_ _ | refine Grow.alloc ?_ _ | refine Grow.drew ?_ | refine Grow.setCell ?_ (by first | (simp; done) | (simp; omega)) _ | refine Grow.trans ?_ (by assumption)))) ?_)
        simp [locS, locO, H1.out, H3.out, hp]
end Go.Proofs.Ytiikhfjdpaofdaa
