/- Layer 4: operands and rvalues. Layer 4: the operands of rvalues. -/
import Derived.Test.YthackfblfkpddaaL13
import Derived.Deep.Light
namespace Go.Proofs.Ythackfblfkpddaa
open Go.RowKit
set_option linter.unusedSimpArgs false
set_option linter.unusedVariables false

abbrev PlZ (p : Pl) : Prop := p.loc = 0 ∧ p.deref = false ∧ p.field = 0
abbrev OpdZ (o : Opd) : Prop := o.kind = 0 ∧ o.n = 0 ∧ PlZ o.pl
abbrev OpdOk (o : Opd) : Prop := (o.kind = 1 ∧ PlZ o.pl) ∨ ((o.kind = 2 ∨ o.kind = 3) ∧ o.n = 0 ∧ PlOk o.pl)
def opdErr (o : Opd) : Int := if OpdOk o then 0 else 8
theorem opdErr_iff (t : Opd) : opdErr t = 0 ↔ OpdOk t := by unfold opdErr; split <;> simp_all
theorem opdErr_or (t : Opd) : opdErr t = 0 ∨ opdErr t = 8 := by unfold opdErr; split <;> simp

set_option maxHeartbeats 400000 in
theorem value_CheckOperand (o : Opd) (w : World) :
    Calls Try.prog 58 #[o.v] w (Ret w (.int .i64 (opdErr o))) := by
  go_enter Try.func58, Try.ntmps58
  go_wp2_with (first | (go_at_call 59; ((with_reducible refine (place_Check o.pl _).mono ?_); rintro e w1 ⟨rfl, hb1⟩; obtain ⟨x1, rfl⟩ := ext_of_grow hb1; clear hb1)))
  all_goals go_ret
  all_goals (refine Ret.int ?_ (by (repeat (first | (with_reducible exact Grow.refl _) | assumption | refine Grow.ext ?_ _ | refine Grow.alloc ?_ _ | refine Grow.drew ?_ | refine Grow.setCell ?_ (by first | (simp; done) | (simp; omega)) _ | refine Grow.trans ?_ (by assumption)))))
  all_goals (have h0 := plErr_or o.pl; have h1 := plErr_iff o.pl; unfold opdErr; grind)

set_option maxHeartbeats 400000 in
theorem ref04_CheckOperand (o : Opd) (w : World) :
    Calls Try.prog 111 #[o.v] w (Ret w (.int .i64 (opdErr o))) := by
  go_enter Try.func111, Try.ntmps111
  go_wp2_with (first | (go_at_call 109; ((with_reducible refine (ref03_Check o.pl _).mono ?_); rintro e w1 ⟨rfl, hb1⟩; obtain ⟨x1, rfl⟩ := ext_of_grow hb1; clear hb1)))
  all_goals go_ret
  all_goals (refine Ret.int ?_ (by (repeat (first | (with_reducible exact Grow.refl _) | assumption | refine Grow.ext ?_ _ | refine Grow.alloc ?_ _ | refine Grow.drew ?_ | refine Grow.setCell ?_ (by first | (simp; done) | (simp; omega)) _ | refine Grow.trans ?_ (by assumption)))))
  all_goals (have h0 := plErr_or o.pl; have h1 := plErr_iff o.pl; unfold opdErr; grind)

def opdZ (o : Opd) : Bool := decide (OpdZ o)
set_option maxHeartbeats 400000 in
theorem ref04_none (o : Opd) (w : World) :
    Calls Try.prog 114 #[o.v] w (Ret w (.bool (opdZ o))) := by
  go_enter Try.func114, Try.ntmps114
  go_wp2
  all_goals go_ret
  all_goals (refine Ret.bool ?_ (by (repeat (first | (with_reducible exact Grow.refl _) | assumption | refine Grow.ext ?_ _ | refine Grow.alloc ?_ _ | refine Grow.drew ?_ | refine Grow.setCell ?_ (by first | (simp; done) | (simp; omega)) _ | refine Grow.trans ?_ (by assumption)))))
  all_goals (unfold opdZ; grind)

def opdOk2 (a b : Opd) : Bool := decide (opdErr a = 0) && decide (opdErr b = 0)
set_option maxHeartbeats 400000 in
theorem ref04_right (a b : Opd) (w : World) :
    Calls Try.prog 115 #[a.v, b.v] w (Ret w (.bool (opdOk2 a b))) := by
  go_enter Try.func115, Try.ntmps115
  go_wp2_with (first | (go_at_call 111; ((with_reducible refine (ref04_CheckOperand a _).mono ?_); rintro e w1 ⟨rfl, hb1⟩; obtain ⟨x1, rfl⟩ := ext_of_grow hb1; clear hb1)) | (go_at_call 111; ((with_reducible refine (ref04_CheckOperand b _).mono ?_); rintro e w2 ⟨rfl, hb2⟩; obtain ⟨x2, rfl⟩ := ext_of_grow hb2; clear hb2)))
  all_goals go_ret
  all_goals (refine Ret.bool ?_ (by (repeat (first | (with_reducible exact Grow.refl _) | assumption | refine Grow.ext ?_ _ | refine Grow.alloc ?_ _ | refine Grow.drew ?_ | refine Grow.setCell ?_ (by first | (simp; done) | (simp; omega)) _ | refine Grow.trans ?_ (by assumption)))))
  all_goals (unfold opdOk2; grind)

def plZ (p : Pl) : Bool := decide (PlZ p)
def rvOk (r : Rv) : Bool :=
  if r.kind = 1 then decide (opdErr r.a = 0) && opdZ r.b && plZ r.pl && decide (r.op = 0) && decide (r.bo = 0)
  else if r.kind = 2 then decide (opdErr r.a = 0) && decide (opdErr r.b = 0) && plZ r.pl && decide (1 ≤ r.op) && decide (r.op ≤ 6) && decide (r.bo = 0)
  else if r.kind = 3 then decide (opdErr r.a = 0) && decide (opdErr r.b = 0) && plZ r.pl && decide (r.op = 0) && decide (r.bo = 0)
  else if r.kind = 4 then opdZ r.a && opdZ r.b && decide (plErr r.pl = 0) && decide (r.op = 0) && decide (1 ≤ r.bo) && decide (r.bo ≤ 3)
  else if r.kind = 5 then opdZ r.a && opdZ r.b && decide (plErr r.pl = 0) && decide (r.op = 0) && decide (r.bo = 0)
  else false
def rvErr (r : Rv) : Int := if rvOk r = true then 0 else 8
theorem rvErr_iff (t : Rv) : rvErr t = 0 ↔ rvOk t = true := by unfold rvErr; split <;> simp_all
theorem rvErr_or (t : Rv) : rvErr t = 0 ∨ rvErr t = 8 := by unfold rvErr; split <;> simp

set_option maxHeartbeats 1000000 in
theorem ref04_Valid (r : Rv) (w : World) :
    Calls Try.prog 113 #[r.v] w (Ret w (.bool (rvOk r))) := by
  go_enter Try.func113, Try.ntmps113
  go_wp2_with (first | (go_at_call 111; ((with_reducible refine (ref04_CheckOperand r.a _).mono ?_); rintro e w1 ⟨rfl, hb1⟩; obtain ⟨x1, rfl⟩ := ext_of_grow hb1; clear hb1)) | (go_at_call 114; ((with_reducible refine (ref04_none r.b _).mono ?_); rintro e w2 ⟨rfl, hb2⟩; obtain ⟨x2, rfl⟩ := ext_of_grow hb2; clear hb2)) | (go_at_call 114; ((with_reducible refine (ref04_none r.a _).mono ?_); rintro e w3 ⟨rfl, hb3⟩; obtain ⟨x3, rfl⟩ := ext_of_grow hb3; clear hb3)) | (go_at_call 115; ((with_reducible refine (ref04_right r.a r.b _).mono ?_); rintro e w4 ⟨rfl, hb4⟩; obtain ⟨x4, rfl⟩ := ext_of_grow hb4; clear hb4)) | (go_at_call 109; ((with_reducible refine (ref03_Check r.pl _).mono ?_); rintro e w5 ⟨rfl, hb5⟩; obtain ⟨x5, rfl⟩ := ext_of_grow hb5; clear hb5)))
  all_goals go_ret
  all_goals (refine Ret.bool ?_ (by (repeat (first | (with_reducible exact Grow.refl _) | assumption | refine Grow.ext ?_ _ | refine Grow.alloc ?_ _ | refine Grow.drew ?_ | refine Grow.setCell ?_ (by first | (simp; done) | (simp; omega)) _ | refine Grow.trans ?_ (by assumption)))))
  all_goals (unfold rvOk plZ PlZ; grind [opdOk2])

set_option maxHeartbeats 400000 in
theorem ref04_Check (r : Rv) (w : World) :
    Calls Try.prog 110 #[r.v] w (Ret w (.int .i64 (rvErr r))) := by
  go_enter Try.func110, Try.ntmps110
  go_wp2_with (first | (go_at_call 113; ((with_reducible refine (ref04_Valid r _).mono ?_); rintro e w1 ⟨rfl, hb1⟩; obtain ⟨x1, rfl⟩ := ext_of_grow hb1; clear hb1)))
  all_goals go_ret
  all_goals (refine Ret.int ?_ (by (repeat (first | (with_reducible exact Grow.refl _) | assumption | refine Grow.ext ?_ _ | refine Grow.alloc ?_ _ | refine Grow.drew ?_ | refine Grow.setCell ?_ (by first | (simp; done) | (simp; omega)) _ | refine Grow.trans ?_ (by assumption)))))
  all_goals (unfold rvErr; grind)
def rvParts (r : Rv) : List Opd := if r.kind = 1 then [r.a] else if r.kind = 2 ∨ r.kind = 3 then [r.a, r.b] else []
abbrev Fresh (w : World) : Nat → Prop := Fr (fun _ => False) w.heap.size

set_option maxHeartbeats 400000 in
theorem ref04_Parts (r : Rv) (w : World) (hr : r.wf) :
    Calls Try.prog 88 #[r.v] w (RetP w fun v w' => Sl (Fresh w) w' v (rvParts r)) := by
  obtain ⟨k, op, bo, a, b, pl⟩ := r
  have ha := hr.a; have hb := hr.b; clear hr
  go_enter Try.func88, Try.ntmps88
  go_wp2
  all_goals (refine postP_of (by simp only [results, Try.results88]; go_simp; rfl) rfl (by (repeat (first | (with_reducible exact Grow.refl _) | assumption | refine Grow.ext ?_ _ | refine Grow.alloc ?_ _ | refine Grow.drew ?_ | refine Grow.setCell ?_ (by first | (simp; done) | (simp; omega)) _ | refine Grow.trans ?_ (by assumption)))) ?_)
  · rw [show rvParts ⟨k, op, bo, a, b, pl⟩ = [a] from by grind [rvParts]]
    exact Sl.one (by simp [Fr]) (by simp) (by omega) (by omega) ⟨rfl, ha⟩ (by (repeat (refine CellsAt.cons (by go_simp) ?_)); exact CellsAt.nil _ _ _)
  · rw [show rvParts ⟨2, op, bo, a, b, pl⟩ = [a, b] from by grind [rvParts]]
    exact Sl.two (by simp [Fr]) (by simp) (by omega) (by omega) ⟨rfl, ha⟩ (by (repeat (refine CellsAt.cons (by go_simp) ?_)); exact CellsAt.nil _ _ _) ⟨rfl, hb⟩ (by (repeat (refine CellsAt.cons (by go_simp) ?_)); exact CellsAt.nil _ _ _)
  · rw [show rvParts ⟨k, op, bo, a, b, pl⟩ = [a, b] from by grind [rvParts]]
    exact Sl.two (by simp [Fr]) (by simp) (by omega) (by omega) ⟨rfl, ha⟩ (by (repeat (refine CellsAt.cons (by go_simp) ?_)); exact CellsAt.nil _ _ _) ⟨rfl, hb⟩ (by (repeat (refine CellsAt.cons (by go_simp) ?_)); exact CellsAt.nil _ _ _)
  · rw [show rvParts ⟨k, op, bo, a, b, pl⟩ = [] from by grind [rvParts]]
    exact Sl.nil _ _

set_option maxHeartbeats 400000 in
theorem value_parts (r : Rv) (w : World) (hr : r.wf) :
    Calls Try.prog 57 #[r.v] w (RetP w fun v w' => Sl (Fresh w) w' v (rvParts r)) := by
  obtain ⟨k, op, bo, a, b, pl⟩ := r
  have ha := hr.a; have hb := hr.b; clear hr
  go_enter Try.func57, Try.ntmps57
  go_wp2
  all_goals (refine postP_of (by simp only [results, Try.results57]; go_simp; rfl) rfl (by (repeat (first | (with_reducible exact Grow.refl _) | assumption | refine Grow.ext ?_ _ | refine Grow.alloc ?_ _ | refine Grow.drew ?_ | refine Grow.setCell ?_ (by first | (simp; done) | (simp; omega)) _ | refine Grow.trans ?_ (by assumption)))) ?_)
  · rw [show rvParts ⟨k, op, bo, a, b, pl⟩ = [a] from by grind [rvParts]]
    exact Sl.one (by simp [Fr]) (by simp) (by omega) (by omega) ⟨rfl, ha⟩ (by (repeat (refine CellsAt.cons (by go_simp) ?_)); exact CellsAt.nil _ _ _)
  · rw [show rvParts ⟨k, op, bo, a, b, pl⟩ = [a, b] from by grind [rvParts]]
    exact Sl.two (by simp [Fr]) (by simp) (by omega) (by omega) ⟨rfl, ha⟩ (by (repeat (refine CellsAt.cons (by go_simp) ?_)); exact CellsAt.nil _ _ _) ⟨rfl, hb⟩ (by (repeat (refine CellsAt.cons (by go_simp) ?_)); exact CellsAt.nil _ _ _)
  · rw [show rvParts ⟨k, op, bo, a, b, pl⟩ = [a, b] from by grind [rvParts]]
    exact Sl.two (by simp [Fr]) (by simp) (by omega) (by omega) ⟨rfl, ha⟩ (by (repeat (refine CellsAt.cons (by go_simp) ?_)); exact CellsAt.nil _ _ _) ⟨rfl, hb⟩ (by (repeat (refine CellsAt.cons (by go_simp) ?_)); exact CellsAt.nil _ _ _)
  · rw [show rvParts ⟨k, op, bo, a, b, pl⟩ = [] from by grind [rvParts]]
    exact Sl.nil _ _

abbrev opd0 : Opd := ⟨0, 0, ⟨0, false, 0⟩⟩
def ownA (l : List Opd) (j : Nat) : Opd := if 1 ≤ j then l.getD 0 opd0 else opd0
def ownB (l : List Opd) (j : Nat) : Opd := if 2 ≤ j then l.getD 1 opd0 else opd0
theorem rvParts_le (r : Rv) : (rvParts r).length ≤ 2 := by unfold rvParts; split; simp; split <;> simp
theorem own_step0 {l : List Opd} {x : Opd} (h : Hid (l[0]? = some x)) : x = ownA l 1 ∧ ownB l 0 = ownB l 1 := by
  unfold ownA ownB; simp [List.getD_eq_getElem?_getD, h.out]
theorem own_step1 {l : List Opd} {x : Opd} {j : Nat} (hj : j = 1) (h : Hid (l[j]? = some x)) : ownA l j = ownA l (j + 1) ∧ x = ownB l (j + 1) := by
  subst hj; unfold ownA ownB; simp [List.getD_eq_getElem?_getD, h.out]

theorem rv_bad {r : Rv} {y : Opd} (h : y ∈ rvParts r) (hy : opdErr y ≠ 0) : rvErr r = 8 := by
  unfold rvParts at h
  unfold rvErr rvOk
  grind

set_option maxHeartbeats 1000000 in
theorem value_Check (r : Rv) (w : World) (hr : r.wf) :
    Calls Try.prog 29 #[r.v] w (Ret w (.int .i64 (rvErr r))) := by
  obtain ⟨l, Hl⟩ : ∃ l, Hid (l = rvParts r) := ⟨_, rfl⟩
  have hl2 : l.length ≤ 2 := by rw [Hl.out]; exact rvParts_le r
  go_enter Try.func29, Try.ntmps29
  go_wp2_with (first | (go_at_call 57; ((with_reducible refine (value_parts r _ hr).mono ?_); rintro e w1 ⟨v1, rfl, hs1, hb1⟩; obtain ⟨x1, rfl⟩ := ext_of_grow hb1; clear hb1; rw [← Hl.out] at hs1; obtain ⟨a1, n1, cap1, rfl, Hn1, hm1, hcap1, hcm1, hs1⟩ := hs1.open)))
  have hn2 : n1 ≤ 2 := by rw [Hn1.out]; exact hl2
  simp only [Fresh, alloc_size] at hs1
  go_loopw [16] (fun i wr => ∃ (j : Nat) (oa ob : Opd), j ≤ n1 ∧ i = .int .i64 j ∧
      (∃ x, wr = ext ((w.alloc (.cells #[.int .u8 r.kind, .int .u8 r.op, .int .u8 r.bo, .int .u8 r.a.kind, .int .i64 r.a.n, .int .i64 r.a.pl.loc, .bool r.a.pl.deref, .int .u8 r.a.pl.field, .int .u8 r.b.kind, .int .i64 r.b.n, .int .i64 r.b.pl.loc, .bool r.b.pl.deref, .int .u8 r.b.pl.field, .int .i64 r.pl.loc, .bool r.pl.deref, .int .u8 r.pl.field] 33)).alloc
        (.cells #[.int .u8 r.kind, .int .u8 0, .int .u8 0, .int .u8 oa.kind, .int .i64 oa.n, .int .i64 oa.pl.loc, .bool oa.pl.deref, .int .u8 oa.pl.field, .int .u8 ob.kind, .int .i64 ob.n, .int .i64 ob.pl.loc, .bool ob.pl.deref, .int .u8 ob.pl.field, .int .i64 0, .bool false, .int .u8 0] 33)) x) ∧
      Sl (Fr (fun _ => False) (w.heap.size + 1 + 1)) wr (.slice a1 n1 cap1) l ∧ Hid (oa = ownA l j ∧ ob = ownB l j) ∧ Hid ((l.take j).all (fun o => decide (opdErr o = 0)) = true)) (fun i _ => n1 - (intOf i).toNat)
  case atStart => exact ⟨0, opd0, opd0, Nat.zero_le _, rfl, ⟨x1, rfl⟩, hs1, ⟨rfl, rfl⟩, by rfl⟩
  case round =>
    obtain ⟨j, oa, ob, hj, rfl, ⟨x, rfl⟩, hs, Ho, Ha⟩ := hrel
    by_cases hlt : j < n1
    · obtain ⟨b_y, off_y, y, rfl, ⟨Hg_y, hl_y, hw_y, c_y0, c_y1, c_y2, c_y3, c_y4, r_y0, r_y1⟩⟩ := hs.opd j hlt
      go_wp2_with (first | (go_at_call 58; ((with_reducible refine (value_CheckOperand y _).mono ?_); rintro e w2 ⟨rfl, hb2⟩; obtain ⟨x2, rfl⟩ := ext_of_grow hb2; clear hb2)))
      · go_ret
        refine Ret.int ?_ (by (repeat (first | (with_reducible exact Grow.refl _) | assumption | refine Grow.ext ?_ _ | refine Grow.alloc ?_ _ | refine Grow.drew ?_ | refine Grow.setCell ?_ (by first | (simp; done) | (simp; omega)) _ | refine Grow.trans ?_ (by assumption))))
        clear c_y0 c_y1 c_y2 c_y3 c_y4 r_y0 r_y1
        have hy : y ∈ rvParts r := by rw [← Hl.out]; exact List.mem_of_getElem? Hg_y.out
        go_light
        rw [rv_bad hy (by grind)]
        have := opdErr_or y; grind
      · have hj0 : j = 0 := by go_light; grind
        subst hj0
        go_roundw
        case rel =>
          exact ⟨1, y, ob, by omega, by go_num, ext_of_grow (by (repeat (first | (with_reducible exact Grow.refl _) | assumption | refine Grow.ext ?_ _ | refine Grow.alloc ?_ _ | refine Grow.drew ?_ | refine Grow.setCell ?_ (by first | (simp; done) | (simp; omega)) _ | refine Grow.trans ?_ (by assumption)))), hs.keep (((AgrS.ext (AgrS.alloc (AgrS.refl _ _) (by simp [Fr]) _ _) x).agr).grow (by (repeat (first | (with_reducible exact Grow.refl _) | assumption | refine Grow.ext ?_ _ | refine Grow.alloc ?_ _ | refine Grow.drew ?_ | refine Grow.setCell ?_ (by first | (simp; done) | (simp; omega)) _ | refine Grow.trans ?_ (by assumption))))), ⟨(own_step0 Hg_y).1, Ho.out.2.trans (own_step0 Hg_y).2⟩, all_step Hg_y Ha (by clear c_y0 c_y1 c_y2 c_y3 c_y4 r_y0 r_y1; go_light; grind)⟩
        case measure => simp [intOf]; omega
      · have hj1 : j = 1 := by go_light; grind
        go_roundw
        case rel =>
          exact ⟨j + 1, oa, y, by omega, by go_num, ext_of_grow (by (repeat (first | (with_reducible exact Grow.refl _) | assumption | refine Grow.ext ?_ _ | refine Grow.alloc ?_ _ | refine Grow.drew ?_ | refine Grow.setCell ?_ (by first | (simp; done) | (simp; omega)) _ | refine Grow.trans ?_ (by assumption)))), hs.keep (((AgrS.ext (AgrS.alloc (AgrS.refl _ _) (by simp [Fr]) _ _) x).agr).grow (by (repeat (first | (with_reducible exact Grow.refl _) | assumption | refine Grow.ext ?_ _ | refine Grow.alloc ?_ _ | refine Grow.drew ?_ | refine Grow.setCell ?_ (by first | (simp; done) | (simp; omega)) _ | refine Grow.trans ?_ (by assumption))))), ⟨Ho.out.1.trans (own_step1 hj1 Hg_y).1, (own_step1 hj1 Hg_y).2⟩, all_step Hg_y Ha (by clear c_y0 c_y1 c_y2 c_y3 c_y4 r_y0 r_y1; go_light; grind)⟩
        case measure => simp [intOf]; omega
    · have Hall : Hid ((rvParts r).all (fun o => decide (opdErr o = 0)) = true) := by rw [← Hl.out]; exact all_end Hn1 (by omega) Ha
      have hjn : j = n1 := by omega
      have Hoa : Hid (oa = ownA (rvParts r) (rvParts r).length ∧ ob = ownB (rvParts r) (rvParts r).length) := by
        have e1 := Hn1.out; have e2 := Hl.out; have e3 := Ho.out; rw [← e2, ← e1, ← hjn]; exact e3
      clear Ho Ha hs hs1 Hl Hn1 hl2 hn2
      obtain ⟨k, op, bo, a, b, pl⟩ := r
      by_cases h5 : k = 1 ∨ k = 2 ∨ k = 3 ∨ k = 4 ∨ k = 5
      · rcases h5 with rfl | rfl | rfl | rfl | rfl
        all_goals
          have Hoa' := Hoa.out
          simp [rvParts, ownA, ownB] at Hoa'
          obtain ⟨rfl, rfl⟩ := Hoa'
          go_wp2_with (first | (go_at_call 59; ((with_reducible refine (place_Check pl _).mono ?_); rintro e w3 ⟨rfl, hb3⟩; obtain ⟨x3, rfl⟩ := ext_of_grow hb3; clear hb3)))
        all_goals go_ret
        all_goals (refine Ret.int ?_ (by (repeat (first | (with_reducible exact Grow.refl _) | assumption | refine Grow.ext ?_ _ | refine Grow.alloc ?_ _ | refine Grow.drew ?_ | refine Grow.setCell ?_ (by first | (simp; done) | (simp; omega)) _ | refine Grow.trans ?_ (by assumption)))))
        all_goals (go_light; have h6 := Hall.out; have h7 := plErr_or pl; clear hr Hoa Hall; simp [rvParts] at h6; unfold rvErr rvOk plZ PlZ opdZ OpdZ PlZ; grind)
      · have h1 : (k == 1) = false := by simp; omega
        have h2 : (k == 2) = false := by simp; omega
        have h3 : (k == 3) = false := by simp; omega
        have h4 : (k == 4) = false := by simp; omega
        have h6 : (k == 5) = false := by simp; omega
        go_wp2_with fail
        all_goals go_ret
        all_goals (refine Ret.int ?_ (by (repeat (first | (with_reducible exact Grow.refl _) | assumption | refine Grow.ext ?_ _ | refine Grow.alloc ?_ _ | refine Grow.drew ?_ | refine Grow.setCell ?_ (by first | (simp; done) | (simp; omega)) _ | refine Grow.trans ?_ (by assumption)))))
        all_goals (go_light; unfold rvErr rvOk; grind)
end Go.Proofs.Ythackfblfkpddaa
