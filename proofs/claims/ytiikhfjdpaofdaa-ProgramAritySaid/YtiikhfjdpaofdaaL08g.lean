/- Layer 8: the functions that are reached. -/
import Derived.Test.YtiikhfjdpaofdaaL08f
namespace Go.Proofs.Ytiikhfjdpaofdaa
open Go.RowKit
set_option linter.unusedSimpArgs false
set_option linter.unusedVariables false

/-- c is 0, or reached from it. -/
def reachB (p : Pr) : Nat → Bool := rnds (gr p) p.funcs.length 8 (fun x => x == 0)
theorem reachB_iff {p : Pr} (h : prErr p = 0) (c : Nat) : reachB p c = true ↔ (c = 0 ∨ Rch (gr p) 0 c) := by
  unfold reachB
  rw [rnds_from (pr_ok h).2.1 (gr_lt h)]
  constructor
  · rintro (h | ⟨i, hi, hr⟩)
    · exact Or.inl (by simpa using h)
    · obtain rfl : i = 0 := by simpa using hi
      exact Or.inr hr
  · rintro (h | h)
    · exact Or.inl (by simp [h])
    · exact Or.inr ⟨0, by simp, h⟩
def reachUpto (p : Pr) (q : Nat) : List Int := ((List.range q).filter (reachB p)).map (fun c : Nat => (c : Int))
def reachL (p : Pr) : List Int := reachUpto p p.funcs.length
theorem reachUpto_succ (p : Pr) (q : Nat) : reachUpto p (q + 1) = reachUpto p q ++ (if reachB p q = true then [(q : Int)] else []) := by
  unfold reachUpto; rw [List.range_succ, List.filter_append, List.map_append]
  cases h : reachB p q <;> simp [h]
theorem reachUpto_len (p : Pr) (q : Nat) : (reachUpto p q).length ≤ q := by
  unfold reachUpto; rw [List.length_map]
  have := List.length_filter_le (reachB p) (List.range q); simpa using this
theorem reachUpto_one {p : Pr} (h : prErr p = 0) : reachUpto p 1 = [0] := by
  have : reachB p 0 = true := (reachB_iff h 0).2 (Or.inl rfl)
  rw [reachUpto_succ, this]; rfl
theorem program_from0 (p : Pr) (pv : Value) (w : World) {F : Nat → Prop} (hp : Sl F w pv p.funcs) (hok : prErr p = 0) (hs : 0 < p.funcs.length) :
    Calls Try.prog 51 #[p.v pv, .int .i64 0] w (RetP w fun v w' => ∃ B m S, v = .map (some B) ∧ MapB w' B m S ∧ w.heap.size ≤ B ∧ ∀ c : Nat, S (c : Int) = true ↔ Rch (gr p) 0 c) := program_from p pv 0 w hp hok hs
set_option maxRecDepth 100000 in
set_option maxHeartbeats 2000000 in
theorem program_Reached (p : Pr) (pv : Value) (w : World) {F : Nat → Prop} (hp : Sl F w pv p.funcs) (hok : prErr p = 0) :
    Calls Try.prog 21 #[p.v pv] w (RetP w fun v w' => ∃ u, v = .tuple #[u, .int .i64 0] ∧ Sl (Fresh w) w' u (reachL p)) := by
  obtain ⟨a, n, cap, rfl, Hn, hm, hcap, hcm, hp⟩ := hp.open
  have Hok := Lib.hid hok
  have hok' : (prErr p != 0) = false := by simp [hok]
  have H8 := Lib.hid (pr_ok hok)
  clear hok
  have hn8 : n ≤ 8 := by have := H8.out.2.1; rw [← Hn.out] at this; exact this
  have hn1 : 1 ≤ n := by have := H8.out.1; rw [← Hn.out] at this; exact this
  have H0 : Hid (0 < p.funcs.length) := Lib.hid (by have := H8.out.1; omega)
  go_enter Try.func21, Try.ntmps21
  go_wp2_with (first | (go_at_call 25; ((with_reducible refine (program_Check p _ _ (hp.mono (by (repeat (first | (with_reducible exact Grow.refl _) | assumption | refine Grow.ext ?_ _ | refine Grow.alloc ?_ _ | refine Grow.drew ?_ | refine Grow.setCell ?_ (by first | (simp; done) | (simp; omega)) _ | refine Grow.trans ?_ (by assumption)))))).mono ?_); rintro e w1 ⟨rfl, hb1⟩; obtain ⟨x1, rfl⟩ := ext_of_grow hb1; clear hb1)) | (go_at_call 51; go_must (with_reducible refine (program_from0 p _ _ (hp.mono (by (repeat (first | (with_reducible exact Grow.refl _) | assumption | refine Grow.ext ?_ _ | refine Grow.alloc ?_ _ | refine Grow.drew ?_ | refine Grow.setCell ?_ (by first | (simp; done) | (simp; omega)) _ | refine Grow.trans ?_ (by assumption))))) Hok.out H0.out).mono ?_); rintro e w2 ⟨v2, rfl, ⟨B, m, S, rfl, hMB, hB, hS⟩, hb2⟩; obtain ⟨x2, rfl⟩ := ext_of_grow hb2; clear hb2; have HS := Lib.hid hS; clear hS))
  obtain ⟨base, hbase⟩ : ∃ base, base = (ext (ext (w.alloc (Obj.cells #[.slice a n cap] 24)) x1) x2).heap.size := ⟨_, rfl⟩
  have hBb : B < base := by rw [hbase]; exact hMB.lt
  have hb0 : w.heap.size + 1 ≤ base := by rw [hbase]; simp; omega
  have Hbase := Lib.hid hbase
  go_loopw [6, 7] (fun tv i wr => ∃ (q : Nat) (x : Ext), 1 ≤ q ∧ q ≤ n ∧ i = .int .i64 q ∧ wr = ext (w.alloc (Obj.cells #[.slice a n cap] 24)) x ∧ base ≤ wr.heap.size ∧ MapB wr B m S ∧ Own (fun _ => False) base 3 wr tv (reachUpto p q)) (fun _ i _ => n - (intOf i).toNat)
  case atStart =>
    obtain ⟨y, hy⟩ := ext_of_grow (W := w.alloc (Obj.cells #[.slice a n cap] 24)) (w := (ext (ext (w.alloc (Obj.cells #[.slice a n cap] 24)) x1) x2).alloc (.cells #[.int .i64 0] 3)) (by (repeat (first | (with_reducible exact Grow.refl _) | assumption | refine Grow.ext ?_ _ | refine Grow.alloc ?_ _ | refine Grow.drew ?_ | refine Grow.setCell ?_ (by first | (simp; done) | (simp; omega)) _ | refine Grow.trans ?_ (by assumption))))
    refine ⟨1, y, Nat.le_refl _, hn1, rfl, hy, ?_, ?_, ?_⟩
    · rw [alloc_size, ← hbase]; omega
    · exact hMB.mono (by (repeat (first | (with_reducible exact Grow.refl _) | assumption | refine Grow.ext ?_ _ | refine Grow.alloc ?_ _ | refine Grow.drew ?_ | refine Grow.setCell ?_ (by first | (simp; done) | (simp; omega)) _ | refine Grow.trans ?_ (by assumption))))
    · rw [reachUpto_one Hok.out, show (⟨_, 0, none⟩ : Addr) = ⟨base, 0, none⟩ by rw [hbase]; simp]
      refine Own.lit1 ⟨by omega, by omega⟩ ?_ (Nat.le_refl _)
      rw [hbase]
      show (Array.push _ _)[_]? = _
      rw [Array.getElem?_push, if_pos rfl]
  case round =>
    obtain ⟨q, x, hq1, hq, rfl, rfl, hbs, hMB2, hown⟩ := hrel
    clear hMB hbase
    by_cases hlt : q < n
    · have hlook := hMB2.look (c := (q : Int)) ⟨by omega, by omega⟩
      have Hr : Hid (reachB p q = S (q : Int)) := Lib.hid (by
        rw [Bool.eq_iff_iff, reachB_iff Hok.out, HS.out q]
        constructor
        · rintro (h | h); omega; exact h
        · exact Or.inr)
      have hln := reachUpto_len p q
      cases hSq : S (q : Int)
      · go_wp2_with fail
        go_roundw
        case rel => exact ⟨q + 1, x, by omega, by omega, by go_num, rfl, hbs, hMB2, by rw [reachUpto_succ, Hr.out, hSq]; simpa using hown⟩
        case measure => simp [intOf]; omega
      · have hw64 : I64 (q : Int) := ⟨by omega, by omega⟩
        have hb1 : (w.alloc (Obj.cells #[.slice a n cap] 24)).heap.size ≤ base := by rw [alloc_size]; exact hb0
        go_wp2_with (first | (at_builtin; go_must (refine wpList_app2 slT_int rfl rfl rfl hown (by (repeat (first | (with_reducible exact Grow.refl _) | assumption | refine Grow.ext ?_ _ | refine Grow.alloc ?_ _ | refine Grow.drew ?_ | refine Grow.setCell ?_ (by first | (simp; done) | (simp; omega)) _ | refine Grow.trans ?_ (by assumption)))) hb1 (Nat.le_trans hbs (by rw [alloc_size]; omega)) rfl (y := (q : Int)) hw64 (by (repeat (refine CellsAt.cons (by go_simp) ?_)); exact CellsAt.nil _ _ _) (by omega) (by omega) ?_); intro tv' x' hown' hgr' hob'))
        go_roundw
        case rel =>
          refine ⟨q + 1, x', by omega, by omega, by go_num, rfl, Nat.le_trans hbs hgr'.size, hMB2.agr (hgr'.block _ hMB2.lt (fun e => by have := (hown.row_lt B e.symm).1; omega)), ?_⟩
          rw [reachUpto_succ, Hr.out, hSq]; exact hown'
        case measure => simp [intOf]; omega
    · obtain rfl : q = n := by omega
      go_wp2_with fail
      refine postP_of (by simp only [results, Try.results21]; go_simp <;> rfl) rfl (by (repeat (first | (with_reducible exact Grow.refl _) | assumption | refine Grow.ext ?_ _ | refine Grow.alloc ?_ _ | refine Grow.drew ?_ | refine Grow.setCell ?_ (by first | (simp; done) | (simp; omega)) _ | refine Grow.trans ?_ (by assumption)))) ⟨_, rfl, ?_⟩
      have e : reachL p = reachUpto p q := by unfold reachL; rw [← Hn.out]
      rw [e]
      exact hown.sl.wide (fun b hb hF => by rcases hF with hF | hF; exact hF.elim; exact Or.inr (by omega))
end Go.Proofs.Ytiikhfjdpaofdaa
