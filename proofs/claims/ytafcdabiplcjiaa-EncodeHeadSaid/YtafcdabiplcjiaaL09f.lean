/- Layer 9: what the writer's methods write: rvalues, statements, jumps. -/
import Derived.Test.YtafcdabiplcjiaaL09e
namespace Go.Proofs.Ytafcdabiplcjiaa
open Go.RowKit
set_option linter.unusedSimpArgs false
set_option linter.unusedVariables false

theorem cells_opd {W : World} {o : Opd} {t : TypeId} : CellsAt (W.alloc (.cells #[.int .u8 o.kind, .int .i64 o.n, .int .i64 o.pl.loc, .bool o.pl.deref, .int .u8 o.pl.field] t)) W.heap.size 0 o.c := by
  (repeat (refine CellsAt.cons (by simp only [alloc_cell_at]; rfl) ?_)); exact CellsAt.nil _ _ _
/-- One operand. -/
theorem Ws.op1 {b N : Nat} {w0 w A : World} {o' : Obj} {bs : List Nat} (h : Ws 77 b N w0 w bs) (hg : Grow (A.alloc o') w) (hA : A.heap.size = N) (hb : b < N) {o : Opd} (hw : o.wf) (hok : opdErr o = 0) (hlen : bs.length + 20 ≤ 1000000000) {t : TypeId} {g : Nat} (hgw : g = w.heap.size) :
    Calls Try.prog 89 #[.pointer (some ⟨b, 0, none⟩), .slice (some ⟨g, 0, none⟩) 1 1] (w.alloc (.cells #[.int .u8 o.kind, .int .i64 o.n, .int .i64 o.pl.loc, .bool o.pl.deref, .int .u8 o.pl.field] t)) (fun e w' => e = .returned (.tuple #[]) ∧ ∃ (A' : World) (x' : Ext), w' = ext (A'.alloc o') x' ∧ A'.heap.size = N ∧ Ws 77 b N w0 w' (bs ++ encOpd o)) := by
  subst hgw
  obtain ⟨v, hv⟩ := h.wri
  have hgr : Grow w (w.alloc (.cells #[.int .u8 o.kind, .int .i64 o.n, .int .i64 o.pl.loc, .bool o.pl.deref, .int .u8 o.pl.field] t)) := Grow.alloc (Grow.refl _) _
  have hsl : Sl (fun k => k = w.heap.size) (w.alloc (.cells #[.int .u8 o.kind, .int .i64 o.n, .int .i64 o.pl.loc, .bool o.pl.deref, .int .u8 o.pl.field] t)) (.slice (some ⟨w.heap.size, 0, none⟩) 1 1) [o] := Sl.one rfl (by simp) (by omega) (by omega) ⟨rfl, hw⟩ cells_opd
  refine (writer_operand b _ [o] _ v bs (hv.grow hgr) hsl (fun k hk hlt => by
    subst hk
    exact ⟨by have := hv.lt; omega, fun e => by rw [rowOf_grow hgr hv.lt] at e; have := hv.row_lt _ e; omega⟩) (fun m hm => by simp at hm; subst hm; exact hok) (by simpa using hlen)).mono ?_
  rintro e w' ⟨rfl, hw', hc⟩
  exact ⟨rfl, h.step hg hA hb (by simpa [encOps] using hw') ((Chg.of_grow hgr hv.lt).trans hc)⟩
/-- Two operands. -/
theorem Ws.op2 {b N : Nat} {w0 w A : World} {o' : Obj} {bs : List Nat} (h : Ws 77 b N w0 w bs) (hg : Grow (A.alloc o') w) (hA : A.heap.size = N) (hb : b < N) {o p : Opd} (hw : o.wf) (hp : p.wf) (hok : opdErr o = 0) (hokp : opdErr p = 0) (hlen : bs.length + 40 ≤ 1000000000) {t : TypeId} {g : Nat} (hgw : g = w.heap.size) :
    Calls Try.prog 89 #[.pointer (some ⟨b, 0, none⟩), .slice (some ⟨g, 0, none⟩) 2 2] (w.alloc (.cells #[.int .u8 o.kind, .int .i64 o.n, .int .i64 o.pl.loc, .bool o.pl.deref, .int .u8 o.pl.field, .int .u8 p.kind, .int .i64 p.n, .int .i64 p.pl.loc, .bool p.pl.deref, .int .u8 p.pl.field] t)) (fun e w' => e = .returned (.tuple #[]) ∧ ∃ (A' : World) (x' : Ext), w' = ext (A'.alloc o') x' ∧ A'.heap.size = N ∧ Ws 77 b N w0 w' (bs ++ (encOpd o ++ encOpd p))) := by
  subst hgw
  obtain ⟨v, hv⟩ := h.wri
  have hgr : Grow w (w.alloc (.cells #[.int .u8 o.kind, .int .i64 o.n, .int .i64 o.pl.loc, .bool o.pl.deref, .int .u8 o.pl.field, .int .u8 p.kind, .int .i64 p.n, .int .i64 p.pl.loc, .bool p.pl.deref, .int .u8 p.pl.field] t)) := Grow.alloc (Grow.refl _) _
  have hsl : Sl (fun k => k = w.heap.size) (w.alloc (.cells #[.int .u8 o.kind, .int .i64 o.n, .int .i64 o.pl.loc, .bool o.pl.deref, .int .u8 o.pl.field, .int .u8 p.kind, .int .i64 p.n, .int .i64 p.pl.loc, .bool p.pl.deref, .int .u8 p.pl.field] t)) (.slice (some ⟨w.heap.size, 0, none⟩) 2 2) [o, p] := Sl.two rfl (by simp) (by omega) (by omega) ⟨rfl, hw⟩ (by (repeat (refine CellsAt.cons (by simp only [alloc_cell_at]; rfl) ?_)); exact CellsAt.nil _ _ _) ⟨rfl, hp⟩ (by (repeat (refine CellsAt.cons (by simp only [alloc_cell_at]; rfl) ?_)); exact CellsAt.nil _ _ _)
  refine (writer_operand b _ [o, p] _ v bs (hv.grow hgr) hsl (fun k hk hlt => by
    subst hk
    exact ⟨by have := hv.lt; omega, fun e => by rw [rowOf_grow hgr hv.lt] at e; have := hv.row_lt _ e; omega⟩) (fun m hm => by simp at hm; rcases hm with rfl | rfl; exact hok; exact hokp) (by simpa using hlen)).mono ?_
  rintro e w' ⟨rfl, hw', hc⟩
  exact ⟨rfl, h.step hg hA hb (by simpa [encOps] using hw') ((Chg.of_grow hgr hv.lt).trans hc)⟩
/-- The operands of a slice of old memory. -/
theorem Ws.ops {b N : Nat} {w0 w A : World} {o : Obj} {bs : List Nat} (h : Ws 77 b N w0 w bs) (hg : Grow (A.alloc o) w) (hA : A.heap.size = N) (hb : b < N) {lv : Value} {l : List Opd} (hl : Sl (fun k => k < b) w lv l) (hok : ∀ o ∈ l, opdErr o = 0) (hlen : bs.length + 20 * l.length ≤ 1000000000) :
    Calls Try.prog 89 #[.pointer (some ⟨b, 0, none⟩), lv] w (fun e w' => e = .returned (.tuple #[]) ∧ ∃ (A' : World) (x' : Ext), w' = ext (A'.alloc o) x' ∧ A'.heap.size = N ∧ Ws 77 b N w0 w' (bs ++ encOps l)) := by
  obtain ⟨v, hv⟩ := h.wri
  exact (writer_operand b lv l w v bs hv hl (fun k hk _ => ⟨Nat.ne_of_lt hk, fun e => by have := hv.row_lt _ e; omega⟩) hok hlen).mono (by rintro e w' ⟨rfl, hw', hc⟩; exact ⟨rfl, h.step hg hA hb hw' hc⟩)
set_option maxRecDepth 100000 in
set_option maxHeartbeats 4000000 in
theorem writer_rvalue (b : Nat) (r : Rv) (w : World) (v : Value) (bs : List Nat) (hW : Wri 77 b w v bs) (hr : r.wf) (hok : rvOk r = true) (hlen : bs.length + 60 ≤ 1000000000) :
    Calls Try.prog 88 #[.pointer (some ⟨b, 0, none⟩), r.v] w (Wrote 77 b w (bs ++ encRv r)) := by
  have hk := rvOk_kind hok
  obtain ⟨k, op, bo, a, c, pl⟩ := r
  have hb := hW.lt
  have hs0 := Ws.start (o := (Obj.cells #[.int .u8 (⟨k, op, bo, a, c, pl⟩ : Rv).kind, .int .u8 (⟨k, op, bo, a, c, pl⟩ : Rv).op, .int .u8 (⟨k, op, bo, a, c, pl⟩ : Rv).bo, .int .u8 (⟨k, op, bo, a, c, pl⟩ : Rv).a.kind, .int .i64 (⟨k, op, bo, a, c, pl⟩ : Rv).a.n, .int .i64 (⟨k, op, bo, a, c, pl⟩ : Rv).a.pl.loc, .bool (⟨k, op, bo, a, c, pl⟩ : Rv).a.pl.deref, .int .u8 (⟨k, op, bo, a, c, pl⟩ : Rv).a.pl.field, .int .u8 (⟨k, op, bo, a, c, pl⟩ : Rv).b.kind, .int .i64 (⟨k, op, bo, a, c, pl⟩ : Rv).b.n, .int .i64 (⟨k, op, bo, a, c, pl⟩ : Rv).b.pl.loc, .bool (⟨k, op, bo, a, c, pl⟩ : Rv).b.pl.deref, .int .u8 (⟨k, op, bo, a, c, pl⟩ : Rv).b.pl.field, .int .i64 (⟨k, op, bo, a, c, pl⟩ : Rv).pl.loc, .bool (⟨k, op, bo, a, c, pl⟩ : Rv).pl.deref, .int .u8 (⟨k, op, bo, a, c, pl⟩ : Rv).pl.field] 52)) hW
  have hq1 := vput_le k.toNat
  have hq2 := vput_le op.toNat
  have hq3 := vput_le bo.toNat
  have hq4 := encOpd_le a
  have hq5 := encOpd_le c
  have ho1 := hr.op.1; have ho2 := hr.op.2
  have hc1 := hr.bo.1; have hc2 := hr.bo.2
  simp only at hk ho1 ho2 hc1 hc2
  have Hr := Lib.hid hr; clear hr
  rcases hk with rfl | rfl | rfl | rfl | rfl
  · have Hk : Hid (opdErr a = 0) := Lib.hid (by simp [rvOk] at hok; exact hok.1.1.1.1)
    have He : Hid (bs ++ encRv ⟨1, op, bo, a, c, pl⟩ = bs ++ vput (1 : Int).toNat ++ encOpd a) := Lib.hid (by simp [encRv])
    go_enter Try.func88, Try.ntmps88
    go_wp2_with (first | (go_at_call 38; ((with_reducible refine (Ws.put1 hs0 (by (repeat (first | (with_reducible exact Grow.refl _) | assumption | refine Grow.ext ?_ _ | refine Grow.alloc ?_ _ | refine Grow.drew ?_ | refine Grow.setCell ?_ (by first | (simp; done) | (simp; omega)) _ | refine Grow.trans ?_ (by assumption)))) rfl hb (by omega) (by omega) (by (try simp only [List.length_append]); omega) (by first | (simp; done) | (simp; omega))).mono ?_); rintro e w1 ⟨rfl, A1, x1, rfl, hA1, hs1⟩; haveI hE1 : EqW _ A1 := ⟨hA1.symm⟩)) | (go_at_call 89; ((with_reducible refine (Ws.op1 hs1 (by (repeat (first | (with_reducible exact Grow.refl _) | assumption | refine Grow.ext ?_ _ | refine Grow.alloc ?_ _ | refine Grow.drew ?_ | refine Grow.setCell ?_ (by first | (simp; done) | (simp; omega)) _ | refine Grow.trans ?_ (by assumption)))) hA1 hb Hr.out.a Hk.out (by (try simp only [List.length_append]); omega) (by first | (simp; done) | (simp; omega))).mono ?_); rintro e w2 ⟨rfl, A2, x2, rfl, hA2, hs2⟩; haveI hE2 : EqW _ A2 := ⟨hA2.symm⟩)))
    go_end0
    exact ⟨rfl, by rw [He.out]; exact hs2.wri, hs2.chg'⟩
  · have Hk : Hid (opdErr a = 0 ∧ opdErr c = 0) := Lib.hid (by simp [rvOk] at hok; exact ⟨hok.1.1.1.1.1, hok.1.1.1.1.2⟩)
    have He : Hid (bs ++ encRv ⟨2, op, bo, a, c, pl⟩ = bs ++ vput (2 : Int).toNat ++ vput op.toNat ++ (encOpd a ++ encOpd c)) := Lib.hid (by simp [encRv])
    go_enter Try.func88, Try.ntmps88
    go_wp2_with (first | (go_at_call 38; ((with_reducible refine (Ws.put1 hs0 (by (repeat (first | (with_reducible exact Grow.refl _) | assumption | refine Grow.ext ?_ _ | refine Grow.alloc ?_ _ | refine Grow.drew ?_ | refine Grow.setCell ?_ (by first | (simp; done) | (simp; omega)) _ | refine Grow.trans ?_ (by assumption)))) rfl hb (by omega) (by omega) (by (try simp only [List.length_append]); omega) (by first | (simp; done) | (simp; omega))).mono ?_); rintro e w1 ⟨rfl, A1, x1, rfl, hA1, hs1⟩; haveI hE1 : EqW _ A1 := ⟨hA1.symm⟩)) | (go_at_call 38; ((with_reducible refine (Ws.put1 hs1 (by (repeat (first | (with_reducible exact Grow.refl _) | assumption | refine Grow.ext ?_ _ | refine Grow.alloc ?_ _ | refine Grow.drew ?_ | refine Grow.setCell ?_ (by first | (simp; done) | (simp; omega)) _ | refine Grow.trans ?_ (by assumption)))) hA1 hb (by omega) (by omega) (by (try simp only [List.length_append]); omega) (by first | (simp; done) | (simp; omega))).mono ?_); rintro e w2 ⟨rfl, A2, x2, rfl, hA2, hs2⟩; haveI hE2 : EqW _ A2 := ⟨hA2.symm⟩)) | (go_at_call 89; ((with_reducible refine (Ws.op2 hs2 (by (repeat (first | (with_reducible exact Grow.refl _) | assumption | refine Grow.ext ?_ _ | refine Grow.alloc ?_ _ | refine Grow.drew ?_ | refine Grow.setCell ?_ (by first | (simp; done) | (simp; omega)) _ | refine Grow.trans ?_ (by assumption)))) hA2 hb Hr.out.a Hr.out.b Hk.out.1 Hk.out.2 (by (try simp only [List.length_append]); omega) (by first | (simp; done) | (simp; omega))).mono ?_); rintro e w3 ⟨rfl, A3, x3, rfl, hA3, hs3⟩; haveI hE3 : EqW _ A3 := ⟨hA3.symm⟩)))
    go_end0
    exact ⟨rfl, by rw [He.out]; exact hs3.wri, hs3.chg'⟩
  · have Hk : Hid (opdErr a = 0 ∧ opdErr c = 0) := Lib.hid (by simp [rvOk] at hok; exact ⟨hok.1.1.1.1, hok.1.1.1.2⟩)
    have He : Hid (bs ++ encRv ⟨3, op, bo, a, c, pl⟩ = bs ++ vput (3 : Int).toNat ++ (encOpd a ++ encOpd c)) := Lib.hid (by simp [encRv])
    go_enter Try.func88, Try.ntmps88
    go_wp2_with (first | (go_at_call 38; ((with_reducible refine (Ws.put1 hs0 (by (repeat (first | (with_reducible exact Grow.refl _) | assumption | refine Grow.ext ?_ _ | refine Grow.alloc ?_ _ | refine Grow.drew ?_ | refine Grow.setCell ?_ (by first | (simp; done) | (simp; omega)) _ | refine Grow.trans ?_ (by assumption)))) rfl hb (by omega) (by omega) (by (try simp only [List.length_append]); omega) (by first | (simp; done) | (simp; omega))).mono ?_); rintro e w1 ⟨rfl, A1, x1, rfl, hA1, hs1⟩; haveI hE1 : EqW _ A1 := ⟨hA1.symm⟩)) | (go_at_call 89; ((with_reducible refine (Ws.op2 hs1 (by (repeat (first | (with_reducible exact Grow.refl _) | assumption | refine Grow.ext ?_ _ | refine Grow.alloc ?_ _ | refine Grow.drew ?_ | refine Grow.setCell ?_ (by first | (simp; done) | (simp; omega)) _ | refine Grow.trans ?_ (by assumption)))) hA1 hb Hr.out.a Hr.out.b Hk.out.1 Hk.out.2 (by (try simp only [List.length_append]); omega) (by first | (simp; done) | (simp; omega))).mono ?_); rintro e w2 ⟨rfl, A2, x2, rfl, hA2, hs2⟩; haveI hE2 : EqW _ A2 := ⟨hA2.symm⟩)))
    go_end0
    exact ⟨rfl, by rw [He.out]; exact hs2.wri, hs2.chg'⟩
  · have Hk : Hid (PlOk pl) := Lib.hid (by simp [rvOk] at hok; exact (plErr_iff _).1 hok.1.1.1.2)
    have He : Hid (bs ++ encRv ⟨4, op, bo, a, c, pl⟩ = bs ++ vput (4 : Int).toNat ++ vput bo.toNat ++ encPl pl) := Lib.hid (by simp [encRv])
    go_enter Try.func88, Try.ntmps88
    go_wp2_with (first | (go_at_call 38; ((with_reducible refine (Ws.put1 hs0 (by (repeat (first | (with_reducible exact Grow.refl _) | assumption | refine Grow.ext ?_ _ | refine Grow.alloc ?_ _ | refine Grow.drew ?_ | refine Grow.setCell ?_ (by first | (simp; done) | (simp; omega)) _ | refine Grow.trans ?_ (by assumption)))) rfl hb (by omega) (by omega) (by (try simp only [List.length_append]); omega) (by first | (simp; done) | (simp; omega))).mono ?_); rintro e w1 ⟨rfl, A1, x1, rfl, hA1, hs1⟩; haveI hE1 : EqW _ A1 := ⟨hA1.symm⟩)) | (go_at_call 38; ((with_reducible refine (Ws.put1 hs1 (by (repeat (first | (with_reducible exact Grow.refl _) | assumption | refine Grow.ext ?_ _ | refine Grow.alloc ?_ _ | refine Grow.drew ?_ | refine Grow.setCell ?_ (by first | (simp; done) | (simp; omega)) _ | refine Grow.trans ?_ (by assumption)))) hA1 hb (by omega) (by omega) (by (try simp only [List.length_append]); omega) (by first | (simp; done) | (simp; omega))).mono ?_); rintro e w2 ⟨rfl, A2, x2, rfl, hA2, hs2⟩; haveI hE2 : EqW _ A2 := ⟨hA2.symm⟩)) | (go_at_call 87; (have hz := Ws.place hs2 (by (repeat (first | (with_reducible exact Grow.refl _) | assumption | refine Grow.ext ?_ _ | refine Grow.alloc ?_ _ | refine Grow.drew ?_ | refine Grow.setCell ?_ (by first | (simp; done) | (simp; omega)) _ | refine Grow.trans ?_ (by assumption)))) hA2 hb Hk.out Hr.out.pl.field.1 (by (try simp only [List.length_append]); omega); refine hz.mono ?_; clear hz; rintro e w3 ⟨rfl, A3, x3, rfl, hA3, hs3⟩; haveI hE3 : EqW _ A3 := ⟨hA3.symm⟩)))
    go_end0
    exact ⟨rfl, by rw [He.out]; exact hs3.wri, hs3.chg'⟩
  · have Hk : Hid (PlOk pl) := Lib.hid (by simp [rvOk] at hok; exact (plErr_iff _).1 hok.1.1.2)
    have He : Hid (bs ++ encRv ⟨5, op, bo, a, c, pl⟩ = bs ++ vput (5 : Int).toNat ++ encPl pl) := Lib.hid (by simp [encRv])
    go_enter Try.func88, Try.ntmps88
    go_wp2_with (first | (go_at_call 38; ((with_reducible refine (Ws.put1 hs0 (by (repeat (first | (with_reducible exact Grow.refl _) | assumption | refine Grow.ext ?_ _ | refine Grow.alloc ?_ _ | refine Grow.drew ?_ | refine Grow.setCell ?_ (by first | (simp; done) | (simp; omega)) _ | refine Grow.trans ?_ (by assumption)))) rfl hb (by omega) (by omega) (by (try simp only [List.length_append]); omega) (by first | (simp; done) | (simp; omega))).mono ?_); rintro e w1 ⟨rfl, A1, x1, rfl, hA1, hs1⟩; haveI hE1 : EqW _ A1 := ⟨hA1.symm⟩)) | (go_at_call 87; (have hz := Ws.place hs1 (by (repeat (first | (with_reducible exact Grow.refl _) | assumption | refine Grow.ext ?_ _ | refine Grow.alloc ?_ _ | refine Grow.drew ?_ | refine Grow.setCell ?_ (by first | (simp; done) | (simp; omega)) _ | refine Grow.trans ?_ (by assumption)))) hA1 hb Hk.out Hr.out.pl.field.1 (by (try simp only [List.length_append]); omega); refine hz.mono ?_; clear hz; rintro e w2 ⟨rfl, A2, x2, rfl, hA2, hs2⟩; haveI hE2 : EqW _ A2 := ⟨hA2.symm⟩)))
    go_end0
    exact ⟨rfl, by rw [He.out]; exact hs2.wri, hs2.chg'⟩
end Go.Proofs.Ytafcdabiplcjiaa
