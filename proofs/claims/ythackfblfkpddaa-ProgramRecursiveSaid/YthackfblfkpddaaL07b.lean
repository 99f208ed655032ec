/- Layer 7: the visitors of places. -/
import Derived.Test.YthackfblfkpddaaL07
namespace Go.Proofs.Ythackfblfkpddaa
open Go.RowKit
set_option linter.unusedSimpArgs false
set_option linter.unusedVariables false

set_option maxHeartbeats 1000000 in
theorem fn_operands {S : Type} {k : Nat} {c1 c2 : Value} {W : S → World} {step : S → Pl → Bool → S} {G : Pl → Prop} (hk : k = 91 ∨ k = 95) (hon : On k c1 c2 W step G)
    (l : List Opd) (v : Value) (may : Bool) (s : S) {F : Nat → Prop} (hl : ∀ s, Sl F (W s) v l) (hG : ∀ o ∈ l, o.kind ≠ 1 → G o.pl) :
    Calls Try.prog 107 #[v, .bool may, .func (.func k) #[] #[c1, c2]] (W s) (Told W (visFold step s (visOs may l))) := by
  obtain ⟨a, n, cap, rfl, Hn, hm, hcap, hcm, _⟩ := (hl s).open
  rcases hk with rfl | rfl
  all_goals
    go_enter Try.func107, Try.ntmps107
    go_wp2_with fail
    go_loopw [10] (fun i wr => ∃ (q : Nat) (s' : S) (y : Ext), q ≤ n ∧ i = .int .i64 q ∧ wr = ext (W s') y ∧ Hid (s' = visFold step s (visOs may (l.take q)))) (fun i _ => n - (intOf i).toNat)
    case atStart => exact ⟨0, s, _, Nat.zero_le _, rfl, (ext_self _).symm, rfl⟩
    case round =>
      obtain ⟨q, s', y, hq, rfl, rfl, Hs⟩ := hrel
      by_cases hlt : q < n
      · have hls := hl s'
        obtain ⟨b_o, off_o, o, rfl, ⟨Hg_o, hl_o, hw_o, c_o0, c_o1, c_o2, c_o3, c_o4, r_o0, r_o1⟩⟩ := hls.opd q hlt
        have Hm := Lib.hid (List.mem_of_getElem? Hg_o.out)
        have Hvs := Lib.hid (visOs_snoc (may := may) Hg_o)
        by_cases hc : o.kind = 1
        · have Hc := Lib.hid hc
          replace hc : (o.kind != 1) = false := by simp [hc]
          go_wp2_with fail
          go_roundw
          case rel =>
            obtain ⟨y2, hy2⟩ := ext_of_grow (W := W s') (w := (ext (W s') y).alloc (Obj.cells #[.int .u8 o.kind, .int .i64 o.n, .int .i64 o.pl.loc, .bool o.pl.deref, .int .u8 o.pl.field] 28)) (by (repeat (first | (with_reducible exact Grow.refl _) | assumption | refine Grow.ext ?_ _ | refine Grow.alloc ?_ _ | refine Grow.drew ?_ | refine Grow.setCell ?_ (by first | (simp; done) | (simp; omega)) _ | refine Grow.trans ?_ (by assumption))))
            exact ⟨q + 1, s', y2, by omega, by go_num, hy2, by show _ = _; rw [Hvs.out, visFold_append, ← Hs.out]; simp [visO, Hc.out, visFold]⟩
          case measure => simp [intOf]; omega
        · have Hc := Lib.hid hc
          replace hc : (o.kind != 1) = true := by simp [hc]
          have Hp := Lib.hid (hG o Hm.out Hc.out)
          cases may
          all_goals (try cases h3 : (o.kind == 3))
          all_goals
            go_wp2_with (first
              | (go_at_call 91; refine (((hon.ext y).alloc _).at s' o.pl _ hw_o.pl Hp.out).mono ?_; rintro e w1 ⟨rfl, y1, rfl⟩)
              | (go_at_call 95; refine (((hon.ext y).alloc _).at s' o.pl _ hw_o.pl Hp.out).mono ?_; rintro e w1 ⟨rfl, y1, rfl⟩))
            go_roundw
            case rel =>
              obtain ⟨y2, hy2⟩ := ext_of_grow (W := W (step s' o.pl _)) (w := ext ((ext (W (step s' o.pl _)) y).alloc (Obj.cells #[.int .u8 o.kind, .int .i64 o.n, .int .i64 o.pl.loc, .bool o.pl.deref, .int .u8 o.pl.field] 28)) y1) (by (repeat (first | (with_reducible exact Grow.refl _) | assumption | refine Grow.ext ?_ _ | refine Grow.alloc ?_ _ | refine Grow.drew ?_ | refine Grow.setCell ?_ (by first | (simp; done) | (simp; omega)) _ | refine Grow.trans ?_ (by assumption))))
              refine ⟨q + 1, _, y2, by omega, by go_num, hy2, ?_⟩
              show _ = _; rw [Hvs.out, visFold_append, ← Hs.out]; simp only [beq_iff_eq, beq_eq_false_iff_ne] at h3; simp [visO, Hc.out, visFold, h3]
            case measure => simp [intOf]; omega
      · go_wp2_with fail
        go_end0
        exact ⟨rfl, y, by rw [Hs.out, List.take_of_length_le (by rw [← Hn.out]; omega)]⟩
end Go.Proofs.Ythackfblfkpddaa
