/- Layer 7, the reference: how often a local is moved whole. -/
import Derived.Test.YtiikhfjdpaofdaaL07u
namespace Go.Proofs.Ytiikhfjdpaofdaa
open Go.RowKit
set_option linter.unusedSimpArgs false
set_option linter.unusedVariables false

def isMv (o : Opd) (t : Int) : Bool := decide (o.kind = 3 ∧ o.n = 0 ∧ o.pl.loc = t ∧ o.pl.deref = false ∧ o.pl.field = 0)
def isPl (p : Pl) (t : Int) : Bool := decide (p.loc = t ∧ p.deref = false ∧ p.field = 0)
theorem eqm_Opd (w : World) (o : Opd) (t : Int) : (binOp .eql 63 (.agg #[.int .u8 o.kind, .int .i64 o.n, .int .i64 o.pl.loc, .bool o.pl.deref, .int .u8 o.pl.field]) (.agg #[.int .u8 3, .int .i64 0, .int .i64 t, .bool false, .int .u8 0])).run Try.prog w = .ok (.bool (isMv o t)) w := by
  rw [eql_Opd]; congr 2
  rw [Bool.eq_iff_iff]; unfold isMv; simp
attribute [-go_sem] eql_Opd
attribute [local go_sem 2000] eqm_Opd
def mvO (o : Opd) : List Int := if o.kind = 3 ∧ o.n = 0 ∧ o.pl.deref = false ∧ o.pl.field = 0 then [o.pl.loc] else []
def mvL (l : List Opd) : List Int := l.flatMap mvO
theorem mvO_yes {o : Opd} {t : Nat} (h : isMv o t = true) : mvO o = [(t : Int)] := by
  unfold isMv at h; simp only [decide_eq_true_eq] at h; unfold mvO; rw [if_pos ⟨h.1, h.2.1, h.2.2.2⟩, h.2.2.1]
theorem mvO_no {o : Opd} {t : Nat} (h : isMv o t = false) : (mvO o).count (t : Int) = 0 := by
  unfold isMv at h; simp only [decide_eq_false_iff_not] at h; unfold mvO
  split
  · rename_i q
    rw [List.count_singleton, if_neg]; simp; intro e; exact h ⟨q.1, q.2.1, e, q.2.2⟩
  · rfl
theorem cw_app (l m : List Int) (t : Nat) : wrap64 (cw l t + cw m t) = cw (l ++ m) t := by
  unfold cw; rw [List.count_append]; unfold wrap64; omega
theorem cw_zero {l m : List Int} {t : Nat} (h : m.count (t : Int) = 0) : cw (l ++ m) t = cw l t := by
  unfold cw; rw [List.count_append, h]; rfl
set_option maxHeartbeats 1000000 in
theorem ref07_passes (l : List Opd) (v : Value) (t : Nat) (w : World) {F : Nat → Prop} (hl : Sl F w v l) :
    Calls Try.prog 109 #[v, .int .i64 t] w (Ret w (.int .i64 (cw (mvL l) t))) := by
  obtain ⟨a, n, cap, rfl, Hn, hm, hcap, hcm, hl⟩ := hl.open
  go_enter Try.func109, Try.ntmps109
  go_wp2_with fail
  go_loopw [5, 6] (fun c i wr => ∃ (k : Nat) (x : Int), k ≤ n ∧ c = .int .i64 x ∧ i = .int .i64 k ∧ Grow w wr ∧ Hid (x = cw (mvL (l.take k)) t)) (fun _ i _ => n - (intOf i).toNat)
  case atStart => exact ⟨0, 0, Nat.zero_le _, rfl, rfl, (by (repeat (first | (with_reducible exact Grow.refl _) | assumption | refine Grow.ext ?_ _ | refine Grow.alloc ?_ _ | refine Grow.drew ?_ | refine Grow.setCell ?_ (by first | (simp; done) | (simp; omega)) _ | refine Grow.trans ?_ (by assumption)))), Lib.hid (by simp [mvL, cw_nil])⟩
  case round =>
    obtain ⟨k, x, hk, rfl, rfl, hb1, Hx⟩ := hrel
    (obtain ⟨x1, rfl⟩ := ext_of_grow hb1; clear hb1)
    by_cases hlt : k < n
    · obtain ⟨b_o, off_o, o, rfl, ⟨Hg_o, hl_o, hw_o, c_o0, c_o1, c_o2, c_o3, c_o4, r_o0, r_o1⟩⟩ := hl.opd k hlt
      cases hmv : isMv o t
      · go_wp2_with fail
        go_roundw
        case rel => exact ⟨k + 1, x, by omega, rfl, by go_num, (by (repeat (first | (with_reducible exact Grow.refl _) | assumption | refine Grow.ext ?_ _ | refine Grow.alloc ?_ _ | refine Grow.drew ?_ | refine Grow.setCell ?_ (by first | (simp; done) | (simp; omega)) _ | refine Grow.trans ?_ (by assumption)))), Lib.hid (by rw [Hx.out]; unfold mvL; rw [flatMap_snoc Hg_o, cw_zero (mvO_no hmv)])⟩
        case measure => simp [intOf]; omega
      · go_wp2_with fail
        go_roundw
        case rel => exact ⟨k + 1, wrap64 (x + 1), by omega, rfl, by go_num, (by (repeat (first | (with_reducible exact Grow.refl _) | assumption | refine Grow.ext ?_ _ | refine Grow.alloc ?_ _ | refine Grow.drew ?_ | refine Grow.setCell ?_ (by first | (simp; done) | (simp; omega)) _ | refine Grow.trans ?_ (by assumption)))), Lib.hid (by rw [Hx.out, cw_one]; unfold mvL; rw [flatMap_snoc Hg_o, mvO_yes hmv])⟩
        case measure => simp [intOf]; omega
    · go_wp2_with fail
      go_ret
      refine Ret.int ?_ (by (repeat (first | (with_reducible exact Grow.refl _) | assumption | refine Grow.ext ?_ _ | refine Grow.alloc ?_ _ | refine Grow.drew ?_ | refine Grow.setCell ?_ (by first | (simp; done) | (simp; omega)) _ | refine Grow.trans ?_ (by assumption))))
      rw [Hx.out, List.take_of_length_le (by rw [← Hn.out]; omega)]
end Go.Proofs.Ytiikhfjdpaofdaa
