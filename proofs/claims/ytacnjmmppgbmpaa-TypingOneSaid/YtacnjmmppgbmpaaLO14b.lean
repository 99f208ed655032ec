/- Layer 14: the law of one type, its longer locals. -/
import Derived.Test.YtacnjmmppgbmpaaLO14
import Derived.Test.YtacnjmmppgbmpaaL14j
import Derived.Test.YtacnjmmppgbmpaaLA14
import Derived.Test.YtacnjmmppgbmpaaOwn2
import Derived.Test.YtacnjmmppgbmpaaReg2
import Derived.Deep.DeepCutAuto
namespace Go.Proofs.Ytacnjmmppgbmpaa
open Go.RowKit
set_option linter.unusedSimpArgs false
set_option linter.unusedVariables false

theorem ty_one : ∀ (G : Nat → Prop) (w : World) (x : Ty) cs, Rp.R G w x cs → ∀ u ∈ cs, u.oneCell' = true := by
  rintro G w x cs ⟨rfl, _⟩ u hu
  simp [Ty.c] at hu; rcases hu with rfl | rfl <;> rfl

theorem one_op {ts : List Ty} {o : Opd} {t : Ty} {e : Int} (v : Value) (w : World) {F : Nat → Prop} (hv : Sl F w v ts) (h : operandTy ts o = (t, e)) :
    Calls Try.prog 9 #[v, o.v] w (Ret w (.tuple #[t.v, .int .i64 e])) := by
  have := typing_Operand v ts o w hv; rw [h] at this; exact this
theorem one_rv {ts : List Ty} {r : Rv} {t : Ty} {e : Int} (v : Value) (w : World) {F : Nat → Prop} (hv : Sl F w v ts) (hr : r.wf) (h : rvalueTy ts r = (t, e)) :
    Calls Try.prog 11 #[v, r.v] w (Ret w (.tuple #[t.v, .int .i64 e])) := by
  have := typing_Rvalue v ts r w hv hr; rw [h] at this; exact this
theorem one_st {ts : List Ty} {s : St} {e : Int} (v : Value) (w : World) {F : Nat → Prop} (hv : Sl F w v ts) (hs : s.wf) (h : stmtErr ts s = e) :
    Calls Try.prog 15 #[v, s.v] w (Ret w (.int .i64 e)) := by
  have := typing_Stmt v ts s w hv hs; rw [h] at this; exact this
theorem one_pl {ts : List Ty} {p : Pl} {t : Ty} {e : Int} (v : Value) (w : World) {F : Nat → Prop} (hv : Sl F w v ts) (h : plaTy ts p = (t, e)) :
    Calls Try.prog 16 #[v, p.v] w (Ret w (.tuple #[t.v, .int .i64 e])) := by
  have := placing_Type v ts p w hv; rw [h] at this; exact this
theorem one_wr {ts : List Ty} {p : Pl} {e : Int} (v : Value) (w : World) {F : Nat → Prop} (hv : Sl F w v ts) (h : plaWr ts p = e) :
    Calls Try.prog 17 #[v, p.v] w (Ret w (.int .i64 e)) := by
  have := placing_Write v ts p w hv; rw [h] at this; exact this

set_option maxRecDepth 100000 in
set_option maxHeartbeats 8000000 in
theorem one_walk (v : Value) (ts : List Ty) (m : Ty) (o : Opd) (r : Rv) (p : Pl) (w : World) {F : Nat → Prop} (hv : Sl F w v ts) (hm : m.wf) (ho : o.wf) (hr : r.wf) (hp : p.wf) (hsz : ts.length * 2 ≤ 140737488351232)
    (ta tb tc td tt : Ty) (ea eb ec ed es et ew : Int) (hA : operandTy ts o = (ta, ea)) (hB : operandTy (ts ++ [m]) o = (tb, eb)) (hC : rvalueTy ts r = (tc, ec)) (hD : rvalueTy (ts ++ [m]) r = (td, ed))
    (hS : stmtErr ts (asSt p r) = es) (hT : plaTy ts p = (tt, et)) (hWr : plaWr ts p = ew)
    (hlo : (locErr ts != 0) = true ∨ (locErr ts != 0) = false ∧ (locErr (ts ++ [m]) != 0) = true ∨ (locErr ts != 0) = false ∧ (locErr (ts ++ [m]) != 0) = false ∧
      ((ea = 0 ∧ eb = 0 ∧ tb = ta) ∨ ((ea != 0) = true ∧ (ea == 0) = false)) ∧
      (((ec != 0) = true ∧ (ec == 0) = false ∧ (es != 0) = true) ∨ (ec = 0 ∧ ed = 0 ∧ td = tc ∧ es = 0 ∧ et = 0 ∧ tt = tc ∧ ew = 0) ∨ (ec = 0 ∧ ed = 0 ∧ td = tc ∧ (es == 0) = false ∧ (et == 0) = false) ∨
        (ec = 0 ∧ ed = 0 ∧ td = tc ∧ (es == 0) = false ∧ et = 0 ∧ tyEq tt tc = false) ∨ (ec = 0 ∧ ed = 0 ∧ td = tc ∧ (es == 0) = false ∧ et = 0 ∧ tt = tc ∧ (ew == 0) = false))) :
    Calls Try.prog 4 #[v, m.v, o.v, r.v, p.v] w (Ret w (.bool true)) := by
  obtain ⟨a, n, cap, rfl, Hn, hmx, hcap, hcm, hv⟩ := hv.open
  go_enter Try.func4, Try.ntmps4
  go_upto_region 2 with (first | (go_at_call 13; ((with_reducible refine (law14_alive _).mono ?_); rintro e w1 ⟨rfl, hb1⟩; obtain ⟨x1, rfl⟩ := ext_of_grow hb1; clear hb1)))
  go_cut [12] (fun v wc => ∃ F', Grow (ext ((((w.alloc (Obj.cells #[.int .u8 m.kind, .int .u8 m.to] 30)).alloc (Obj.cells #[.int .u8 o.kind, .int .i64 o.n, .int .i64 o.pl.loc, .bool o.pl.deref, .int .u8 o.pl.field] 26)).alloc (Obj.cells #[.int .u8 r.kind, .int .u8 r.op, .int .u8 r.bo, .int .u8 r.a.kind, .int .i64 r.a.n, .int .i64 r.a.pl.loc, .bool r.a.pl.deref, .int .u8 r.a.pl.field, .int .u8 r.b.kind, .int .i64 r.b.n, .int .i64 r.b.pl.loc, .bool r.b.pl.deref, .int .u8 r.b.pl.field, .int .i64 r.pl.loc, .bool r.pl.deref, .int .u8 r.pl.field] 28)).alloc (Obj.cells #[.int .i64 p.loc, .bool p.deref, .int .u8 p.field] 24)) x1) wc ∧ Sl F' wc v (ts ++ [m]))
  case first =>
    have hv0 : Sl F (ext ((((w.alloc (Obj.cells #[.int .u8 m.kind, .int .u8 m.to] 30)).alloc (Obj.cells #[.int .u8 o.kind, .int .i64 o.n, .int .i64 o.pl.loc, .bool o.pl.deref, .int .u8 o.pl.field] 26)).alloc (Obj.cells #[.int .u8 r.kind, .int .u8 r.op, .int .u8 r.bo, .int .u8 r.a.kind, .int .i64 r.a.n, .int .i64 r.a.pl.loc, .bool r.a.pl.deref, .int .u8 r.a.pl.field, .int .u8 r.b.kind, .int .i64 r.b.n, .int .i64 r.b.pl.loc, .bool r.b.pl.deref, .int .u8 r.b.pl.field, .int .i64 r.pl.loc, .bool r.pl.deref, .int .u8 r.pl.field] 28)).alloc (Obj.cells #[.int .i64 p.loc, .bool p.deref, .int .u8 p.field] 24)) x1) (.slice a n cap) ts := hv.mono (by (repeat (first | (with_reducible exact Grow.refl _) | assumption | refine Grow.ext ?_ _ | refine Grow.alloc ?_ _ | refine Grow.drew ?_ | refine Grow.setCell ?_ (by first | (simp; done) | (simp; omega)) _ | refine Grow.trans ?_ (by assumption))))
    have hr0 : row? (ext ((((w.alloc (Obj.cells #[.int .u8 m.kind, .int .u8 m.to] 30)).alloc (Obj.cells #[.int .u8 o.kind, .int .i64 o.n, .int .i64 o.pl.loc, .bool o.pl.deref, .int .u8 o.pl.field] 26)).alloc (Obj.cells #[.int .u8 r.kind, .int .u8 r.op, .int .u8 r.bo, .int .u8 r.a.kind, .int .i64 r.a.n, .int .i64 r.a.pl.loc, .bool r.a.pl.deref, .int .u8 r.a.pl.field, .int .u8 r.b.kind, .int .i64 r.b.n, .int .i64 r.b.pl.loc, .bool r.b.pl.deref, .int .u8 r.b.pl.field, .int .i64 r.pl.loc, .bool r.pl.deref, .int .u8 r.pl.field] 28)).alloc (Obj.cells #[.int .i64 p.loc, .bool p.deref, .int .u8 p.field] 24)) x1) w.heap.size 0 2 = some [.int .u8 m.kind, .int .u8 m.to] := by go_simp
    have hl0 : LtW w.heap.size (ext ((((w.alloc (Obj.cells #[.int .u8 m.kind, .int .u8 m.to] 30)).alloc (Obj.cells #[.int .u8 o.kind, .int .i64 o.n, .int .i64 o.pl.loc, .bool o.pl.deref, .int .u8 o.pl.field] 26)).alloc (Obj.cells #[.int .u8 r.kind, .int .u8 r.op, .int .u8 r.bo, .int .u8 r.a.kind, .int .i64 r.a.n, .int .i64 r.a.pl.loc, .bool r.a.pl.deref, .int .u8 r.a.pl.field, .int .u8 r.b.kind, .int .i64 r.b.n, .int .i64 r.b.pl.loc, .bool r.b.pl.deref, .int .u8 r.b.pl.field, .int .i64 r.pl.loc, .bool r.pl.deref, .int .u8 r.pl.field] 28)).alloc (Obj.cells #[.int .i64 p.loc, .bool p.deref, .int .u8 p.field] 24)) x1) := inferInstance
    generalize hW0 : (ext ((((w.alloc (Obj.cells #[.int .u8 m.kind, .int .u8 m.to] 30)).alloc (Obj.cells #[.int .u8 o.kind, .int .i64 o.n, .int .i64 o.pl.loc, .bool o.pl.deref, .int .u8 o.pl.field] 26)).alloc (Obj.cells #[.int .u8 r.kind, .int .u8 r.op, .int .u8 r.bo, .int .u8 r.a.kind, .int .i64 r.a.n, .int .i64 r.a.pl.loc, .bool r.a.pl.deref, .int .u8 r.a.pl.field, .int .u8 r.b.kind, .int .i64 r.b.n, .int .i64 r.b.pl.loc, .bool r.b.pl.deref, .int .u8 r.b.pl.field, .int .i64 r.pl.loc, .bool r.pl.deref, .int .u8 r.pl.field] 28)).alloc (Obj.cells #[.int .i64 p.loc, .bool p.deref, .int .u8 p.field] 24)) x1) = W0 at *
    clear hv hW0
    have hv := hv0; clear hv0
    refine wp_region_H 7 (by kernel_rfl) (by rfl) ?_
    refine H_quiet 1 rfl (by decide +kernel) (by first | exact Or.inl rfl | exact Or.inr rfl) (by (repeat (first | (with_reducible exact Grow.refl _) | assumption | refine Grow.ext ?_ _ | refine Grow.alloc ?_ _ | refine Grow.drew ?_ | refine Grow.setCell ?_ (by first | (simp; done) | (simp; omega)) _ | refine Grow.trans ?_ (by assumption)))) ?_
    (first | go_big_quiet_step (fail) | (refine wpQuiet_step (fun K hK => ?_); go_simp; split <;> (refine hK _ ?_; clear hK K)))
    refine wpQuiet_nil ?_
    refine H_quiet 3 rfl (by decide +kernel) (by first | exact Or.inl rfl | exact Or.inr rfl) (by (repeat (first | (with_reducible exact Grow.refl _) | assumption | refine Grow.ext ?_ _ | refine Grow.alloc ?_ _ | refine Grow.drew ?_ | refine Grow.setCell ?_ (by first | (simp; done) | (simp; omega)) _ | refine Grow.trans ?_ (by assumption)))) ?_
    (first | go_big_quiet_step (fail) | (refine wpQuiet_step (fun K hK => ?_); go_simp; split <;> (refine hK _ ?_; clear hK K)))
    refine wpQuiet_nil ?_
    refine H_two 0 4 rfl rfl (by decide +kernel) ?_ ?_
    · intro K hK
      go_wp2_with fail
      refine hK _ _ (by (repeat (first | (with_reducible exact Grow.refl _) | assumption | refine Grow.ext ?_ _ | refine Grow.alloc ?_ _ | refine Grow.drew ?_ | refine Grow.setCell ?_ (by first | (simp; done) | (simp; omega)) _ | refine Grow.trans ?_ (by assumption)))) ?_
      clear hK K
      refine H_two 2 4 rfl rfl (by decide +kernel) ?_ ?_
      · intro K hK
        have hB0 : W0.heap.size ≤ (W0.drew.alloc (.cells #[] 30)).heap.size := by simp
        have hO0 : Own (α := Ty) (fun _ => False) W0.heap.size 30 (W0.drew.alloc (.cells #[] 30)) (.slice (some ⟨W0.heap.size, 0, none⟩) 0 0) [] := Own.zero (by show (Array.push W0.heap _)[_]? = _; simp) (Nat.le_refl _)
        refine wpList_appS (α := Ty) (W := W0) (base := W0.heap.size) (F := fun _ => False) (Gy := fun _ => False) slT_Type ty_one rfl rfl rfl rfl (by (repeat (first | (with_reducible exact Grow.refl _) | assumption | refine Grow.ext ?_ _ | refine Grow.alloc ?_ _ | refine Grow.drew ?_ | refine Grow.setCell ?_ (by first | (simp; done) | (simp; omega)) _ | refine Grow.trans ?_ (by assumption)))) (Nat.le_refl _) hB0 (xs := []) hO0 (ys := ts) (hv.mono (by (repeat (first | (with_reducible exact Grow.refl _) | assumption | refine Grow.ext ?_ _ | refine Grow.alloc ?_ _ | refine Grow.drew ?_ | refine Grow.setCell ?_ (by first | (simp; done) | (simp; omega)) _ | refine Grow.trans ?_ (by assumption))))) (fun _ _ h => h) (fun _ h => h.elim) (by have := Hn.out; simp; omega) (by have := Hn.out; simp; omega) ?_
        intro v2 w2 hW2 hg2 hO2
        refine wpList_nil ?_
        refine hK _ _ hW2 ?_
        clear hK K
        refine H_one 4 rfl (by decide +kernel) ?_
        intro K hK
        go_wp2_with fail
        have hW3 : Grow W0 (w2.alloc (.cells #[.int .u8 m.kind, .int .u8 m.to] 30)) := hW2.alloc _
        refine hK _ _ hW3 ?_
        clear hK K
        have hO3 := hO2.mono (Grow.alloc (Grow.refl w2) (.cells #[.int .u8 m.kind, .int .u8 m.to] 30))
        have hM : Sl (fun _ => True) (w2.alloc (.cells #[.int .u8 m.kind, .int .u8 m.to] 30)) (.slice (some ⟨w2.heap.size, 0, none⟩) 1 1) [m] := Sl.one trivial (by simp) (by omega) (by omega) ⟨rfl, hm⟩ (by (repeat (refine CellsAt.cons (by go_simp) ?_)); exact CellsAt.nil _ _ _)
        refine H_one 5 rfl (by decide +kernel) ?_
        intro K hK
        refine wpList_appS (α := Ty) (W := W0) (base := W0.heap.size) (F := fun _ => False) (Gy := fun _ => False) slT_Type ty_one rfl rfl rfl rfl hW3 (Nat.le_refl _) hW3.size (xs := ts) hO3 (ys := [m]) hM (fun _ _ h => h) (fun _ h => h.elim) (by have := Hn.out; simp; omega) (by have := Hn.out; simp; omega) ?_
        intro v4 w4 hW4 hg4 hO4
        refine wpList_nil ?_
        refine hK _ _ hW4 ?_
        clear hK K
        refine H_one 6 rfl (by decide +kernel) ?_
        intro K hK
        go_wp2_with fail
        refine hK _ _ hW4 ?_
        clear hK K
        refine H_end (by decide +kernel) ?_
        go_wp2_with fail
        go_meet
        case rel => exact ⟨_, hW4, hO4.sl⟩
      · intro K hK
        go_wp2_with fail
        refine hK _ _ (by (repeat (first | (with_reducible exact Grow.refl _) | assumption | refine Grow.ext ?_ _ | refine Grow.alloc ?_ _ | refine Grow.drew ?_ | refine Grow.setCell ?_ (by first | (simp; done) | (simp; omega)) _ | refine Grow.trans ?_ (by assumption)))) ?_
        clear hK K
        refine H_one 2 rfl (by decide +kernel) ?_
        intro K hK
        have hB0 : W0.heap.size ≤ ((W0.drew.alloc (.cells #[] 30)).alloc (.cells #[.int .u8 m.kind, .int .u8 m.to] 30)).heap.size := by simp; omega
        have hO0 : Own (α := Ty) (fun _ => False) W0.heap.size 30 ((W0.drew.alloc (.cells #[] 30)).alloc (.cells #[.int .u8 m.kind, .int .u8 m.to] 30)) (.slice (some ⟨W0.heap.size, 0, none⟩) 0 0) [] := Own.zero (by show (Array.push (Array.push W0.heap _) _)[_]? = _; first | (simp [Array.getElem?_push]; done) | (rw [Array.getElem?_push, if_pos (by simp)])) (by omega)
        have hM0 : Sl (fun b => b = (W0.heap.size + 1)) ((W0.drew.alloc (.cells #[] 30)).alloc (.cells #[.int .u8 m.kind, .int .u8 m.to] 30)) (.slice (some ⟨(W0.heap.size + 1), 0, none⟩) 1 1) [m] := Sl.one rfl (by simp; try omega) (by omega) (by omega) ⟨rfl, hm⟩ (by (repeat (refine CellsAt.cons (by go_simp) ?_)); exact CellsAt.nil _ _ _)
        refine wpList_appS (α := Ty) (W := W0) (base := W0.heap.size) (F := fun _ => False) (Gy := fun _ => False) slT_Type ty_one rfl rfl rfl rfl (by (repeat (first | (with_reducible exact Grow.refl _) | assumption | refine Grow.ext ?_ _ | refine Grow.alloc ?_ _ | refine Grow.drew ?_ | refine Grow.setCell ?_ (by first | (simp; done) | (simp; omega)) _ | refine Grow.trans ?_ (by assumption)))) (Nat.le_refl _) hB0 (xs := []) hO0 (ys := ts) (hv.mono (by (repeat (first | (with_reducible exact Grow.refl _) | assumption | refine Grow.ext ?_ _ | refine Grow.alloc ?_ _ | refine Grow.drew ?_ | refine Grow.setCell ?_ (by first | (simp; done) | (simp; omega)) _ | refine Grow.trans ?_ (by assumption))))) (fun _ _ h => h) (fun _ h => h.elim) (by have := Hn.out; simp; omega) (by have := Hn.out; simp; omega) ?_
        intro v2 w3 hW3 hg2 hO3
        refine wpList_nil ?_
        refine hK _ _ hW3 ?_
        clear hK K
        have hg2 : World.grownBy ((W0.drew.alloc (.cells #[] 30)).alloc (.cells #[.int .u8 m.kind, .int .u8 m.to] 30)) w3 (some W0.heap.size) := hg2
        have hM := hM0.keep (fun k hk hlt => hg2.block k hlt (by subst hk; simp))
        refine H_one 5 rfl (by decide +kernel) ?_
        intro K hK
        refine wpList_appS (α := Ty) (W := W0) (base := W0.heap.size) (F := fun _ => False) (Gy := fun _ => False) slT_Type ty_one rfl rfl rfl rfl hW3 (Nat.le_refl _) hW3.size (xs := ts) hO3 (ys := [m]) hM (fun _ _ h => h) (fun _ h => h.elim) (by have := Hn.out; simp; omega) (by have := Hn.out; simp; omega) ?_
        intro v4 w4 hW4 hg4 hO4
        refine wpList_nil ?_
        refine hK _ _ hW4 ?_
        clear hK K
        refine H_one 6 rfl (by decide +kernel) ?_
        intro K hK
        go_wp2_with fail
        refine hK _ _ hW4 ?_
        clear hK K
        refine H_end (by decide +kernel) ?_
        go_wp2_with fail
        go_meet
        case rel => exact ⟨_, hW4, hO4.sl⟩
    · intro K hK
      go_wp2_with fail
      refine hK _ _ (by (repeat (first | (with_reducible exact Grow.refl _) | assumption | refine Grow.ext ?_ _ | refine Grow.alloc ?_ _ | refine Grow.drew ?_ | refine Grow.setCell ?_ (by first | (simp; done) | (simp; omega)) _ | refine Grow.trans ?_ (by assumption)))) ?_
      clear hK K
      refine H_one 0 rfl (by decide +kernel) ?_
      intro K hK
      go_wp2_with fail
      refine hK _ _ (by (repeat (first | (with_reducible exact Grow.refl _) | assumption | refine Grow.ext ?_ _ | refine Grow.alloc ?_ _ | refine Grow.drew ?_ | refine Grow.setCell ?_ (by first | (simp; done) | (simp; omega)) _ | refine Grow.trans ?_ (by assumption)))) ?_
      clear hK K
      refine H_one 2 rfl (by decide +kernel) ?_
      intro K hK
      have hB0 : W0.heap.size ≤ ((W0.drew.alloc (.cells #[.int .u8 m.kind, .int .u8 m.to] 30)).alloc (.cells #[] 30)).heap.size := by simp; omega
      have hO0 : Own (α := Ty) (fun _ => False) W0.heap.size 30 ((W0.drew.alloc (.cells #[.int .u8 m.kind, .int .u8 m.to] 30)).alloc (.cells #[] 30)) (.slice (some ⟨(W0.heap.size + 1), 0, none⟩) 0 0) [] := Own.zero (by show (Array.push (Array.push W0.heap _) _)[_]? = _; first | (simp [Array.getElem?_push]; done) | (rw [Array.getElem?_push, if_pos (by simp)])) (by omega)
      have hM0 : Sl (fun b => b = W0.heap.size) ((W0.drew.alloc (.cells #[.int .u8 m.kind, .int .u8 m.to] 30)).alloc (.cells #[] 30)) (.slice (some ⟨W0.heap.size, 0, none⟩) 1 1) [m] := Sl.one rfl (by simp; try omega) (by omega) (by omega) ⟨rfl, hm⟩ (by (repeat (refine CellsAt.cons (by go_simp) ?_)); exact CellsAt.nil _ _ _)
      refine wpList_appS (α := Ty) (W := W0) (base := W0.heap.size) (F := fun _ => False) (Gy := fun _ => False) slT_Type ty_one rfl rfl rfl rfl (by (repeat (first | (with_reducible exact Grow.refl _) | assumption | refine Grow.ext ?_ _ | refine Grow.alloc ?_ _ | refine Grow.drew ?_ | refine Grow.setCell ?_ (by first | (simp; done) | (simp; omega)) _ | refine Grow.trans ?_ (by assumption)))) (Nat.le_refl _) hB0 (xs := []) hO0 (ys := ts) (hv.mono (by (repeat (first | (with_reducible exact Grow.refl _) | assumption | refine Grow.ext ?_ _ | refine Grow.alloc ?_ _ | refine Grow.drew ?_ | refine Grow.setCell ?_ (by first | (simp; done) | (simp; omega)) _ | refine Grow.trans ?_ (by assumption))))) (fun _ _ h => h) (fun _ h => h.elim) (by have := Hn.out; simp; omega) (by have := Hn.out; simp; omega) ?_
      intro v2 w3 hW3 hg2 hO3
      refine wpList_nil ?_
      refine hK _ _ hW3 ?_
      clear hK K
      have hg2 : World.grownBy ((W0.drew.alloc (.cells #[.int .u8 m.kind, .int .u8 m.to] 30)).alloc (.cells #[] 30)) w3 (some (W0.heap.size + 1)) := hg2
      have hM := hM0.keep (fun k hk hlt => hg2.block k hlt (by subst hk; simp))
      refine H_one 5 rfl (by decide +kernel) ?_
      intro K hK
      refine wpList_appS (α := Ty) (W := W0) (base := W0.heap.size) (F := fun _ => False) (Gy := fun _ => False) slT_Type ty_one rfl rfl rfl rfl hW3 (Nat.le_refl _) hW3.size (xs := ts) hO3 (ys := [m]) hM (fun _ _ h => h) (fun _ h => h.elim) (by have := Hn.out; simp; omega) (by have := Hn.out; simp; omega) ?_
      intro v4 w4 hW4 hg4 hO4
      refine wpList_nil ?_
      refine hK _ _ hW4 ?_
      clear hK K
      refine H_one 6 rfl (by decide +kernel) ?_
      intro K hK
      go_wp2_with fail
      refine hK _ _ hW4 ?_
      clear hK K
      refine H_end (by decide +kernel) ?_
      go_wp2_with fail
      go_meet
      case rel => exact ⟨_, hW4, hO4.sl⟩
  case rest =>
    obtain ⟨F', hb0, hL⟩ := hcut
    obtain ⟨xc, rfl⟩ := ext_of_grow hb0
    obtain ⟨la, ln, lcap, rfl, HLn, hlm, hlcap, hlcm, hL⟩ := hL.open
    have hwu : (useRv o).wf := by
      have z : U8 0 := by constructor <;> decide
      have z1 : I64 0 := by constructor <;> decide
      exact ⟨(⟨by decide, by decide⟩ : U8 1), z, z, ho, ⟨z, z1, ⟨z1, z⟩⟩, ⟨z1, z⟩⟩
    have hws : (asSt p r).wf := by
      have z : U8 0 := by constructor <;> decide
      have z1 : I64 0 := by constructor <;> decide
      exact ⟨(⟨by decide, by decide⟩ : U8 1), hp, hr, ⟨z, z1, ⟨z1, z⟩⟩, z1⟩
    by_cases h30 : n ≤ 30
    · rcases hlo with hl | ⟨hl, hl'⟩ | ⟨hl, hl', hAB, hCD⟩
      · go_wp2_with (first | (go_at_call 14; ((with_reducible refine (ref13_Check _ ts _ (hv.mono (by (repeat (first | (with_reducible exact Grow.refl _) | assumption | refine Grow.ext ?_ _ | refine Grow.alloc ?_ _ | refine Grow.drew ?_ | refine Grow.setCell ?_ (by first | (simp; done) | (simp; omega)) _ | refine Grow.trans ?_ (by assumption)))))).mono ?_); rintro e w2 ⟨rfl, hb2⟩; obtain ⟨x2, rfl⟩ := ext_of_grow hb2; clear hb2)))
        all_goals (go_ret; exact Ret.bool rfl (by (repeat (first | (with_reducible exact Grow.refl _) | assumption | refine Grow.ext ?_ _ | refine Grow.alloc ?_ _ | refine Grow.drew ?_ | refine Grow.setCell ?_ (by first | (simp; done) | (simp; omega)) _ | refine Grow.trans ?_ (by assumption)))))
      · go_wp2_with (first | (go_at_call 14; ((with_reducible refine (ref13_Check _ ts _ (hv.mono (by (repeat (first | (with_reducible exact Grow.refl _) | assumption | refine Grow.ext ?_ _ | refine Grow.alloc ?_ _ | refine Grow.drew ?_ | refine Grow.setCell ?_ (by first | (simp; done) | (simp; omega)) _ | refine Grow.trans ?_ (by assumption)))))).mono ?_); rintro e w2 ⟨rfl, hb2⟩; obtain ⟨x2, rfl⟩ := ext_of_grow hb2; clear hb2)) | (go_at_call 14; ((with_reducible refine (ref13_Check _ (ts ++ [m]) _ (hL.mono (by (repeat (first | (with_reducible exact Grow.refl _) | assumption | refine Grow.ext ?_ _ | refine Grow.alloc ?_ _ | refine Grow.drew ?_ | refine Grow.setCell ?_ (by first | (simp; done) | (simp; omega)) _ | refine Grow.trans ?_ (by assumption)))))).mono ?_); rintro e w3 ⟨rfl, hb3⟩; obtain ⟨x3, rfl⟩ := ext_of_grow hb3; clear hb3)))
        all_goals (go_ret; exact Ret.bool rfl (by (repeat (first | (with_reducible exact Grow.refl _) | assumption | refine Grow.ext ?_ _ | refine Grow.alloc ?_ _ | refine Grow.drew ?_ | refine Grow.setCell ?_ (by first | (simp; done) | (simp; omega)) _ | refine Grow.trans ?_ (by assumption)))))
      · rcases hAB with ⟨rfl, rfl, rfl⟩ | ⟨a1, a2⟩ <;> rcases hCD with ⟨c1, c2, c3⟩ | ⟨rfl, rfl, rfl, rfl, rfl, rfl, rfl⟩ | ⟨rfl, rfl, rfl, c1, c2⟩ | ⟨rfl, rfl, rfl, c1, rfl, c2⟩ | ⟨rfl, rfl, rfl, c1, rfl, rfl, c2⟩
        all_goals
          go_wp2_with (first | (go_at_call 14; ((with_reducible refine (ref13_Check _ ts _ (hv.mono (by (repeat (first | (with_reducible exact Grow.refl _) | assumption | refine Grow.ext ?_ _ | refine Grow.alloc ?_ _ | refine Grow.drew ?_ | refine Grow.setCell ?_ (by first | (simp; done) | (simp; omega)) _ | refine Grow.trans ?_ (by assumption)))))).mono ?_); rintro e w2 ⟨rfl, hb2⟩; obtain ⟨x2, rfl⟩ := ext_of_grow hb2; clear hb2)) | (go_at_call 14; ((with_reducible refine (ref13_Check _ (ts ++ [m]) _ (hL.mono (by (repeat (first | (with_reducible exact Grow.refl _) | assumption | refine Grow.ext ?_ _ | refine Grow.alloc ?_ _ | refine Grow.drew ?_ | refine Grow.setCell ?_ (by first | (simp; done) | (simp; omega)) _ | refine Grow.trans ?_ (by assumption)))))).mono ?_); rintro e w3 ⟨rfl, hb3⟩; obtain ⟨x3, rfl⟩ := ext_of_grow hb3; clear hb3)) | (go_at_call 9; ((with_reducible refine (one_op _ _ (hv.mono (by (repeat (first | (with_reducible exact Grow.refl _) | assumption | refine Grow.ext ?_ _ | refine Grow.alloc ?_ _ | refine Grow.drew ?_ | refine Grow.setCell ?_ (by first | (simp; done) | (simp; omega)) _ | refine Grow.trans ?_ (by assumption))))) hA).mono ?_); rintro e w4 ⟨rfl, hb4⟩; obtain ⟨x4, rfl⟩ := ext_of_grow hb4; clear hb4)) | (go_at_call 9; ((with_reducible refine (one_op _ _ (hL.mono (by (repeat (first | (with_reducible exact Grow.refl _) | assumption | refine Grow.ext ?_ _ | refine Grow.alloc ?_ _ | refine Grow.drew ?_ | refine Grow.setCell ?_ (by first | (simp; done) | (simp; omega)) _ | refine Grow.trans ?_ (by assumption))))) hB).mono ?_); rintro e w5 ⟨rfl, hb5⟩; obtain ⟨x5, rfl⟩ := ext_of_grow hb5; clear hb5)) | (go_at_call 11; ((with_reducible refine (one_rv _ _ (hv.mono (by (repeat (first | (with_reducible exact Grow.refl _) | assumption | refine Grow.ext ?_ _ | refine Grow.alloc ?_ _ | refine Grow.drew ?_ | refine Grow.setCell ?_ (by first | (simp; done) | (simp; omega)) _ | refine Grow.trans ?_ (by assumption))))) hr hC).mono ?_); rintro e w6 ⟨rfl, hb6⟩; obtain ⟨x6, rfl⟩ := ext_of_grow hb6; clear hb6)) | (go_at_call 11; ((with_reducible refine (one_rv _ _ (hL.mono (by (repeat (first | (with_reducible exact Grow.refl _) | assumption | refine Grow.ext ?_ _ | refine Grow.alloc ?_ _ | refine Grow.drew ?_ | refine Grow.setCell ?_ (by first | (simp; done) | (simp; omega)) _ | refine Grow.trans ?_ (by assumption))))) hr hD).mono ?_); rintro e w7 ⟨rfl, hb7⟩; obtain ⟨x7, rfl⟩ := ext_of_grow hb7; clear hb7)) | (go_at_call 11; ((with_reducible refine (one_rv _ _ (hv.mono (by (repeat (first | (with_reducible exact Grow.refl _) | assumption | refine Grow.ext ?_ _ | refine Grow.alloc ?_ _ | refine Grow.drew ?_ | refine Grow.setCell ?_ (by first | (simp; done) | (simp; omega)) _ | refine Grow.trans ?_ (by assumption))))) hwu (use_ty.trans hA)).mono ?_); rintro e w8 ⟨rfl, hb8⟩; obtain ⟨x8, rfl⟩ := ext_of_grow hb8; clear hb8)) | (go_at_call 15; ((with_reducible refine (one_st _ _ (hv.mono (by (repeat (first | (with_reducible exact Grow.refl _) | assumption | refine Grow.ext ?_ _ | refine Grow.alloc ?_ _ | refine Grow.drew ?_ | refine Grow.setCell ?_ (by first | (simp; done) | (simp; omega)) _ | refine Grow.trans ?_ (by assumption))))) hws hS).mono ?_); rintro e w9 ⟨rfl, hb9⟩; obtain ⟨x9, rfl⟩ := ext_of_grow hb9; clear hb9)) | (go_at_call 16; ((with_reducible refine (one_pl _ _ (hv.mono (by (repeat (first | (with_reducible exact Grow.refl _) | assumption | refine Grow.ext ?_ _ | refine Grow.alloc ?_ _ | refine Grow.drew ?_ | refine Grow.setCell ?_ (by first | (simp; done) | (simp; omega)) _ | refine Grow.trans ?_ (by assumption))))) hT).mono ?_); rintro e w10 ⟨rfl, hb10⟩; obtain ⟨x10, rfl⟩ := ext_of_grow hb10; clear hb10)) | (go_at_call 17; ((with_reducible refine (one_wr _ _ (hv.mono (by (repeat (first | (with_reducible exact Grow.refl _) | assumption | refine Grow.ext ?_ _ | refine Grow.alloc ?_ _ | refine Grow.drew ?_ | refine Grow.setCell ?_ (by first | (simp; done) | (simp; omega)) _ | refine Grow.trans ?_ (by assumption))))) hWr).mono ?_); rintro e w11 ⟨rfl, hb11⟩; obtain ⟨x11, rfl⟩ := ext_of_grow hb11; clear hb11)))
        all_goals go_ret
        all_goals (refine Ret.bool ?_ (by (repeat (first | (with_reducible exact Grow.refl _) | assumption | refine Grow.ext ?_ _ | refine Grow.alloc ?_ _ | refine Grow.drew ?_ | refine Grow.setCell ?_ (by first | (simp; done) | (simp; omega)) _ | refine Grow.trans ?_ (by assumption)))))
        all_goals (go_light; first | rfl | (simp; done) | (simp_all; done) | (unfold tyEq at c2; grind) | grind)
    · go_wp2_with fail
      all_goals (first | (exfalso; omega) | (go_ret; exact Ret.bool rfl (by (repeat (first | (with_reducible exact Grow.refl _) | assumption | refine Grow.ext ?_ _ | refine Grow.alloc ?_ _ | refine Grow.drew ?_ | refine Grow.setCell ?_ (by first | (simp; done) | (simp; omega)) _ | refine Grow.trans ?_ (by assumption))))))
end Go.Proofs.Ytacnjmmppgbmpaa
