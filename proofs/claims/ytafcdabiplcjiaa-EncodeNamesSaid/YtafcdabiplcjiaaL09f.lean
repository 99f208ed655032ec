/- Layer 9: what the writer's methods write: rvalues, statements, jumps. Layer 9: what the writer's methods write: statements, jumps, functions. Layer 9: what the writer's methods write: jumps, functions. -/
import Derived.Test.YtafcdabiplcjiaaL09e
import Derived.Test.YtafcdabiplcjiaaL08b
namespace Go.Proofs.Ytafcdabiplcjiaa
open Go.RowKit
set_option linter.unusedSimpArgs false
set_option linter.unusedVariables false

theorem cells_opd {W : World} {o : Opd} {t : TypeId} : CellsAt (W.alloc (.cells #[.int .u8 o.kind, .int .i64 o.n, .int .i64 o.pl.loc, .bool o.pl.deref, .int .u8 o.pl.field] t)) W.heap.size 0 o.c := by
  (repeat (refine CellsAt.cons (by simp only [alloc_cell_at]; rfl) ?_)); exact CellsAt.nil _ _ _
/-- One operand. -/
theorem Ws.op1 {b N : Nat} {w0 w A : World} {o' : Obj} {bs : List Nat} (h : Ws 77 b N w0 w bs) (hg : Grow (A.alloc o') w) (hA : A.heap.size = N) (hb : b < N) {o : Opd} (hw : o.wf) (hok : opdErr o = 0) (hlen : bs.length + 20 ≤ 1000000000) {t : TypeId} {g : Nat} (hgw : g = w.heap.size) :
    Calls Try.prog 89 #[.pointer (some ⟨b, 0, none⟩), .slice (some ⟨g, 0, none⟩) 1 1] (w.alloc (.cells #[.int .u8 o.kind, .int .i64 o.n, .int .i64 o.pl.loc, .bool o.pl.deref, .int .u8 o.pl.field] t)) (fun e w' => e = .returned (.tuple #[]) ∧ ∃ (A' : World) (x' : Ext), w' = ext (A'.alloc o') x' ∧ A'.heap.size = N ∧ Ws 77 b N w0 w' (bs ++ encOpd o)) := by
  subst hgw
  obtain ⟨v, hv⟩ := h.wri
  have hgr : Grow w (w.alloc (.cells #[.int .u8 o.kind, .int .i64 o.n, .int .i64 o.pl.loc, .bool o.pl.deref, .int .u8 o.pl.field] t)) := Grow.alloc (Grow.refl _) _
  have hsl : Sl (fun k => k = w.heap.size) (w.alloc (.cells #[.int .u8 o.kind, .int .i64 o.n, .int .i64 o.pl.loc, .bool o.pl.deref, .int .u8 o.pl.field] t)) (.slice (some ⟨w.heap.size, 0, none⟩) 1 1) [o] := Sl.one rfl (by simp) (by omega) (by omega) ⟨rfl, hw⟩ cells_opd
  refine (writer_operand b _ [o] _ v bs (hv.grow hgr) hsl (fun k hk hlt => by
    subst hk
    exact ⟨by have := hv.lt; omega, fun e => by rw [rowOf_grow hgr hv.lt] at e; have := hv.row_lt _ e; omega⟩) (fun m hm => by simp at hm; subst hm; exact hok) (by simpa using hlen)).mono ?_
  rintro e w' ⟨rfl, hw', hc⟩
  exact ⟨rfl, h.step hg hA hb (by simpa [encOps] using hw') ((Chg.of_grow hgr hv.lt).trans hc)⟩
/-- Two operands. -/
theorem Ws.op2 {b N : Nat} {w0 w A : World} {o' : Obj} {bs : List Nat} (h : Ws 77 b N w0 w bs) (hg : Grow (A.alloc o') w) (hA : A.heap.size = N) (hb : b < N) {o p : Opd} (hw : o.wf) (hp : p.wf) (hok : opdErr o = 0) (hokp : opdErr p = 0) (hlen : bs.length + 40 ≤ 1000000000) {t : TypeId} {g : Nat} (hgw : g = w.heap.size) :
    Calls Try.prog 89 #[.pointer (some ⟨b, 0, none⟩), .slice (some ⟨g, 0, none⟩) 2 2] (w.alloc (.cells #[.int .u8 o.kind, .int .i64 o.n, .int .i64 o.pl.loc, .bool o.pl.deref, .int .u8 o.pl.field, .int .u8 p.kind, .int .i64 p.n, .int .i64 p.pl.loc, .bool p.pl.deref, .int .u8 p.pl.field] t)) (fun e w' => e = .returned (.tuple #[]) ∧ ∃ (A' : World) (x' : Ext), w' = ext (A'.alloc o') x' ∧ A'.heap.size = N ∧ Ws 77 b N w0 w' (bs ++ (encOpd o ++ encOpd p))) := by
  subst hgw
  obtain ⟨v, hv⟩ := h.wri
  have hgr : Grow w (w.alloc (.cells #[.int .u8 o.kind, .int .i64 o.n, .int .i64 o.pl.loc, .bool o.pl.deref, .int .u8 o.pl.field, .int .u8 p.kind, .int .i64 p.n, .int .i64 p.pl.loc, .bool p.pl.deref, .int .u8 p.pl.field] t)) := Grow.alloc (Grow.refl _) _
  have hsl : Sl (fun k => k = w.heap.size) (w.alloc (.cells #[.int .u8 o.kind, .int .i64 o.n, .int .i64 o.pl.loc, .bool o.pl.deref, .int .u8 o.pl.field, .int .u8 p.kind, .int .i64 p.n, .int .i64 p.pl.loc, .bool p.pl.deref, .int .u8 p.pl.field] t)) (.slice (some ⟨w.heap.size, 0, none⟩) 2 2) [o, p] := Sl.two rfl (by simp) (by omega) (by omega) ⟨rfl, hw⟩ (by (repeat (refine CellsAt.cons (by simp only [alloc_cell_at]; rfl) ?_)); exact CellsAt.nil _ _ _) ⟨rfl, hp⟩ (by (repeat (refine CellsAt.cons (by simp only [alloc_cell_at]; rfl) ?_)); exact CellsAt.nil _ _ _)
  refine (writer_operand b _ [o, p] _ v bs (hv.grow hgr) hsl (fun k hk hlt => by
    subst hk
    exact ⟨by have := hv.lt; omega, fun e => by rw [rowOf_grow hgr hv.lt] at e; have := hv.row_lt _ e; omega⟩) (fun m hm => by simp at hm; rcases hm with rfl | rfl; exact hok; exact hokp) (by simpa using hlen)).mono ?_
  rintro e w' ⟨rfl, hw', hc⟩
  exact ⟨rfl, h.step hg hA hb (by simpa [encOps] using hw') ((Chg.of_grow hgr hv.lt).trans hc)⟩
/-- The operands of a slice of old memory. -/
theorem Ws.ops {b N : Nat} {w0 w A : World} {o : Obj} {bs : List Nat} (h : Ws 77 b N w0 w bs) (hg : Grow (A.alloc o) w) (hA : A.heap.size = N) (hb : b < N) {lv : Value} {l : List Opd} (hl : Sl (fun k => k < b) w lv l) (hok : ∀ o ∈ l, opdErr o = 0) (hlen : bs.length + 20 * l.length ≤ 1000000000) :
    Calls Try.prog 89 #[.pointer (some ⟨b, 0, none⟩), lv] w (fun e w' => e = .returned (.tuple #[]) ∧ ∃ (A' : World) (x' : Ext), w' = ext (A'.alloc o) x' ∧ A'.heap.size = N ∧ Ws 77 b N w0 w' (bs ++ encOps l)) := by
  obtain ⟨v, hv⟩ := h.wri
  exact (writer_operand b lv l w v bs hv hl (fun k hk _ => ⟨Nat.ne_of_lt hk, fun e => by have := hv.row_lt _ e; omega⟩) hok hlen).mono (by rintro e w' ⟨rfl, hw', hc⟩; exact ⟨rfl, h.step hg hA hb hw' hc⟩)
set_option maxRecDepth 100000 in
set_option maxHeartbeats 4000000 in
theorem writer_rvalue (b : Nat) (r : Rv) (w : World) (v : Value) (bs : List Nat) (hW : Wri 77 b w v bs) (hr : r.wf) (hok : rvOk r = true) (hlen : bs.length + 60 ≤ 1000000000) :
    Calls Try.prog 88 #[.pointer (some ⟨b, 0, none⟩), r.v] w (Wrote 77 b w (bs ++ encRv r)) := by
  have hk := rvOk_kind hok
  obtain ⟨k, op, bo, a, c, pl⟩ := r
  have hb := hW.lt
  have hs0 := Ws.start (o := (Obj.cells #[.int .u8 (⟨k, op, bo, a, c, pl⟩ : Rv).kind, .int .u8 (⟨k, op, bo, a, c, pl⟩ : Rv).op, .int .u8 (⟨k, op, bo, a, c, pl⟩ : Rv).bo, .int .u8 (⟨k, op, bo, a, c, pl⟩ : Rv).a.kind, .int .i64 (⟨k, op, bo, a, c, pl⟩ : Rv).a.n, .int .i64 (⟨k, op, bo, a, c, pl⟩ : Rv).a.pl.loc, .bool (⟨k, op, bo, a, c, pl⟩ : Rv).a.pl.deref, .int .u8 (⟨k, op, bo, a, c, pl⟩ : Rv).a.pl.field, .int .u8 (⟨k, op, bo, a, c, pl⟩ : Rv).b.kind, .int .i64 (⟨k, op, bo, a, c, pl⟩ : Rv).b.n, .int .i64 (⟨k, op, bo, a, c, pl⟩ : Rv).b.pl.loc, .bool (⟨k, op, bo, a, c, pl⟩ : Rv).b.pl.deref, .int .u8 (⟨k, op, bo, a, c, pl⟩ : Rv).b.pl.field, .int .i64 (⟨k, op, bo, a, c, pl⟩ : Rv).pl.loc, .bool (⟨k, op, bo, a, c, pl⟩ : Rv).pl.deref, .int .u8 (⟨k, op, bo, a, c, pl⟩ : Rv).pl.field] 52)) hW
  have hq1 := vput_le k.toNat
  have hq2 := vput_le op.toNat
  have hq3 := vput_le bo.toNat
  have hq4 := encOpd_le a
  have hq5 := encOpd_le c
  have ho1 := hr.op.1; have ho2 := hr.op.2
  have hc1 := hr.bo.1; have hc2 := hr.bo.2
  simp only at hk ho1 ho2 hc1 hc2
  have Hr := Lib.hid hr; clear hr
  rcases hk with rfl | rfl | rfl | rfl | rfl
  · have Hk : Hid (opdErr a = 0) := Lib.hid (by simp [rvOk] at hok; exact hok.1.1.1.1)
    have He : Hid (bs ++ encRv ⟨1, op, bo, a, c, pl⟩ = bs ++ vput (1 : Int).toNat ++ encOpd a) := Lib.hid (by simp [encRv])
    go_enter Try.func88, Try.ntmps88
    go_wp2_with (first | (go_at_call 38; ((with_reducible refine (Ws.put1 hs0 (by (repeat (first | (with_reducible exact Grow.refl _) | assumption | refine Grow.ext ?_ _ | refine Grow.alloc ?_ _ | refine Grow.drew ?_ | refine Grow.setCell ?_ (by first | (simp; done) | (simp; omega)) _ | refine Grow.trans ?_ (by assumption)))) rfl hb (by omega) (by omega) (by (try simp only [List.length_append]); omega) (by first | (simp; done) | (simp; omega))).mono ?_); rintro e w1 ⟨rfl, A1, x1, rfl, hA1, hs1⟩; haveI hE1 : EqW _ A1 := ⟨hA1.symm⟩)) | (go_at_call 89; ((with_reducible refine (Ws.op1 hs1 (by (repeat (first | (with_reducible exact Grow.refl _) | assumption | refine Grow.ext ?_ _ | refine Grow.alloc ?_ _ | refine Grow.drew ?_ | refine Grow.setCell ?_ (by first | (simp; done) | (simp; omega)) _ | refine Grow.trans ?_ (by assumption)))) hA1 hb Hr.out.a Hk.out (by (try simp only [List.length_append]); omega) (by first | (simp; done) | (simp; omega))).mono ?_); rintro e w2 ⟨rfl, A2, x2, rfl, hA2, hs2⟩; haveI hE2 : EqW _ A2 := ⟨hA2.symm⟩)))
    go_end0
    exact ⟨rfl, by rw [He.out]; exact hs2.wri, hs2.chg'⟩
  · have Hk : Hid (opdErr a = 0 ∧ opdErr c = 0) := Lib.hid (by simp [rvOk] at hok; exact ⟨hok.1.1.1.1.1, hok.1.1.1.1.2⟩)
    have He : Hid (bs ++ encRv ⟨2, op, bo, a, c, pl⟩ = bs ++ vput (2 : Int).toNat ++ vput op.toNat ++ (encOpd a ++ encOpd c)) := Lib.hid (by simp [encRv])
    go_enter Try.func88, Try.ntmps88
    go_wp2_with (first | (go_at_call 38; ((with_reducible refine (Ws.put1 hs0 (by (repeat (first | (with_reducible exact Grow.refl _) | assumption | refine Grow.ext ?_ _ | refine Grow.alloc ?_ _ | refine Grow.drew ?_ | refine Grow.setCell ?_ (by first | (simp; done) | (simp; omega)) _ | refine Grow.trans ?_ (by assumption)))) rfl hb (by omega) (by omega) (by (try simp only [List.length_append]); omega) (by first | (simp; done) | (simp; omega))).mono ?_); rintro e w1 ⟨rfl, A1, x1, rfl, hA1, hs1⟩; haveI hE1 : EqW _ A1 := ⟨hA1.symm⟩)) | (go_at_call 38; ((with_reducible refine (Ws.put1 hs1 (by (repeat (first | (with_reducible exact Grow.refl _) | assumption | refine Grow.ext ?_ _ | refine Grow.alloc ?_ _ | refine Grow.drew ?_ | refine Grow.setCell ?_ (by first | (simp; done) | (simp; omega)) _ | refine Grow.trans ?_ (by assumption)))) hA1 hb (by omega) (by omega) (by (try simp only [List.length_append]); omega) (by first | (simp; done) | (simp; omega))).mono ?_); rintro e w2 ⟨rfl, A2, x2, rfl, hA2, hs2⟩; haveI hE2 : EqW _ A2 := ⟨hA2.symm⟩)) | (go_at_call 89; ((with_reducible refine (Ws.op2 hs2 (by (repeat (first | (with_reducible exact Grow.refl _) | assumption | refine Grow.ext ?_ _ | refine Grow.alloc ?_ _ | refine Grow.drew ?_ | refine Grow.setCell ?_ (by first | (simp; done) | (simp; omega)) _ | refine Grow.trans ?_ (by assumption)))) hA2 hb Hr.out.a Hr.out.b Hk.out.1 Hk.out.2 (by (try simp only [List.length_append]); omega) (by first | (simp; done) | (simp; omega))).mono ?_); rintro e w3 ⟨rfl, A3, x3, rfl, hA3, hs3⟩; haveI hE3 : EqW _ A3 := ⟨hA3.symm⟩)))
    go_end0
    exact ⟨rfl, by rw [He.out]; exact hs3.wri, hs3.chg'⟩
  · have Hk : Hid (opdErr a = 0 ∧ opdErr c = 0) := Lib.hid (by simp [rvOk] at hok; exact ⟨hok.1.1.1.1, hok.1.1.1.2⟩)
    have He : Hid (bs ++ encRv ⟨3, op, bo, a, c, pl⟩ = bs ++ vput (3 : Int).toNat ++ (encOpd a ++ encOpd c)) := Lib.hid (by simp [encRv])
    go_enter Try.func88, Try.ntmps88
    go_wp2_with (first | (go_at_call 38; ((with_reducible refine (Ws.put1 hs0 (by (repeat (first | (with_reducible exact Grow.refl _) | assumption | refine Grow.ext ?_ _ | refine Grow.alloc ?_ _ | refine Grow.drew ?_ | refine Grow.setCell ?_ (by first | (simp; done) | (simp; omega)) _ | refine Grow.trans ?_ (by assumption)))) rfl hb (by omega) (by omega) (by (try simp only [List.length_append]); omega) (by first | (simp; done) | (simp; omega))).mono ?_); rintro e w1 ⟨rfl, A1, x1, rfl, hA1, hs1⟩; haveI hE1 : EqW _ A1 := ⟨hA1.symm⟩)) | (go_at_call 89; ((with_reducible refine (Ws.op2 hs1 (by (repeat (first | (with_reducible exact Grow.refl _) | assumption | refine Grow.ext ?_ _ | refine Grow.alloc ?_ _ | refine Grow.drew ?_ | refine Grow.setCell ?_ (by first | (simp; done) | (simp; omega)) _ | refine Grow.trans ?_ (by assumption)))) hA1 hb Hr.out.a Hr.out.b Hk.out.1 Hk.out.2 (by (try simp only [List.length_append]); omega) (by first | (simp; done) | (simp; omega))).mono ?_); rintro e w2 ⟨rfl, A2, x2, rfl, hA2, hs2⟩; haveI hE2 : EqW _ A2 := ⟨hA2.symm⟩)))
    go_end0
    exact ⟨rfl, by rw [He.out]; exact hs2.wri, hs2.chg'⟩
  · have Hk : Hid (PlOk pl) := Lib.hid (by simp [rvOk] at hok; exact (plErr_iff _).1 hok.1.1.1.2)
    have He : Hid (bs ++ encRv ⟨4, op, bo, a, c, pl⟩ = bs ++ vput (4 : Int).toNat ++ vput bo.toNat ++ encPl pl) := Lib.hid (by simp [encRv])
    go_enter Try.func88, Try.ntmps88
    go_wp2_with (first | (go_at_call 38; ((with_reducible refine (Ws.put1 hs0 (by (repeat (first | (with_reducible exact Grow.refl _) | assumption | refine Grow.ext ?_ _ | refine Grow.alloc ?_ _ | refine Grow.drew ?_ | refine Grow.setCell ?_ (by first | (simp; done) | (simp; omega)) _ | refine Grow.trans ?_ (by assumption)))) rfl hb (by omega) (by omega) (by (try simp only [List.length_append]); omega) (by first | (simp; done) | (simp; omega))).mono ?_); rintro e w1 ⟨rfl, A1, x1, rfl, hA1, hs1⟩; haveI hE1 : EqW _ A1 := ⟨hA1.symm⟩)) | (go_at_call 38; ((with_reducible refine (Ws.put1 hs1 (by (repeat (first | (with_reducible exact Grow.refl _) | assumption | refine Grow.ext ?_ _ | refine Grow.alloc ?_ _ | refine Grow.drew ?_ | refine Grow.setCell ?_ (by first | (simp; done) | (simp; omega)) _ | refine Grow.trans ?_ (by assumption)))) hA1 hb (by omega) (by omega) (by (try simp only [List.length_append]); omega) (by first | (simp; done) | (simp; omega))).mono ?_); rintro e w2 ⟨rfl, A2, x2, rfl, hA2, hs2⟩; haveI hE2 : EqW _ A2 := ⟨hA2.symm⟩)) | (go_at_call 87; (have hz := Ws.place hs2 (by (repeat (first | (with_reducible exact Grow.refl _) | assumption | refine Grow.ext ?_ _ | refine Grow.alloc ?_ _ | refine Grow.drew ?_ | refine Grow.setCell ?_ (by first | (simp; done) | (simp; omega)) _ | refine Grow.trans ?_ (by assumption)))) hA2 hb Hk.out Hr.out.pl.field.1 (by (try simp only [List.length_append]); omega); refine hz.mono ?_; clear hz; rintro e w3 ⟨rfl, A3, x3, rfl, hA3, hs3⟩; haveI hE3 : EqW _ A3 := ⟨hA3.symm⟩)))
    go_end0
    exact ⟨rfl, by rw [He.out]; exact hs3.wri, hs3.chg'⟩
  · have Hk : Hid (PlOk pl) := Lib.hid (by simp [rvOk] at hok; exact (plErr_iff _).1 hok.1.1.2)
    have He : Hid (bs ++ encRv ⟨5, op, bo, a, c, pl⟩ = bs ++ vput (5 : Int).toNat ++ encPl pl) := Lib.hid (by simp [encRv])
    go_enter Try.func88, Try.ntmps88
    go_wp2_with (first | (go_at_call 38; ((with_reducible refine (Ws.put1 hs0 (by (repeat (first | (with_reducible exact Grow.refl _) | assumption | refine Grow.ext ?_ _ | refine Grow.alloc ?_ _ | refine Grow.drew ?_ | refine Grow.setCell ?_ (by first | (simp; done) | (simp; omega)) _ | refine Grow.trans ?_ (by assumption)))) rfl hb (by omega) (by omega) (by (try simp only [List.length_append]); omega) (by first | (simp; done) | (simp; omega))).mono ?_); rintro e w1 ⟨rfl, A1, x1, rfl, hA1, hs1⟩; haveI hE1 : EqW _ A1 := ⟨hA1.symm⟩)) | (go_at_call 87; (have hz := Ws.place hs1 (by (repeat (first | (with_reducible exact Grow.refl _) | assumption | refine Grow.ext ?_ _ | refine Grow.alloc ?_ _ | refine Grow.drew ?_ | refine Grow.setCell ?_ (by first | (simp; done) | (simp; omega)) _ | refine Grow.trans ?_ (by assumption)))) hA1 hb Hk.out Hr.out.pl.field.1 (by (try simp only [List.length_append]); omega); refine hz.mono ?_; clear hz; rintro e w2 ⟨rfl, A2, x2, rfl, hA2, hs2⟩; haveI hE2 : EqW _ A2 := ⟨hA2.symm⟩)))
    go_end0
    exact ⟨rfl, by rw [He.out]; exact hs2.wri, hs2.chg'⟩
/-- An rvalue is put. -/
theorem Ws.rvalue {b N : Nat} {w0 w A : World} {o : Obj} {bs : List Nat} (h : Ws 77 b N w0 w bs) (hg : Grow (A.alloc o) w) (hA : A.heap.size = N) (hb : b < N) {r : Rv} (hr : r.wf) (hok : rvOk r = true) (hlen : bs.length + 60 ≤ 1000000000) :
    Calls Try.prog 88 #[.pointer (some ⟨b, 0, none⟩), r.v] w (fun e w' => e = .returned (.tuple #[]) ∧ ∃ (A' : World) (x' : Ext), w' = ext (A'.alloc o) x' ∧ A'.heap.size = N ∧ Ws 77 b N w0 w' (bs ++ encRv r)) := by
  obtain ⟨v, hv⟩ := h.wri
  exact (writer_rvalue b r w v bs hv hr hok hlen).mono (by rintro e w' ⟨rfl, hw', hc⟩; exact ⟨rfl, h.step hg hA hb hw' hc⟩)
set_option maxRecDepth 100000 in
set_option maxHeartbeats 4000000 in
theorem writer_stmt (b : Nat) (s : St) (w : World) (v : Value) (bs : List Nat) (hW : Wri 77 b w v bs) (hr : s.wf) (hok : stErr s = 0) (hlen : bs.length + 80 ≤ 1000000000) :
    Calls Try.prog 51 #[.pointer (some ⟨b, 0, none⟩), s.v] w (Wrote 77 b w (bs ++ encSt s)) := by
  rw [stErr_iff] at hok
  have hk := stOk_kind hok
  obtain ⟨k, pl, r, a, l⟩ := s
  have hb := hW.lt
  have hs0 := Ws.start (o := (Obj.cells #[.int .u8 (⟨k, pl, r, a, l⟩ : St).kind, .int .i64 (⟨k, pl, r, a, l⟩ : St).pl.loc, .bool (⟨k, pl, r, a, l⟩ : St).pl.deref, .int .u8 (⟨k, pl, r, a, l⟩ : St).pl.field, .int .u8 (⟨k, pl, r, a, l⟩ : St).r.kind, .int .u8 (⟨k, pl, r, a, l⟩ : St).r.op, .int .u8 (⟨k, pl, r, a, l⟩ : St).r.bo, .int .u8 (⟨k, pl, r, a, l⟩ : St).r.a.kind, .int .i64 (⟨k, pl, r, a, l⟩ : St).r.a.n, .int .i64 (⟨k, pl, r, a, l⟩ : St).r.a.pl.loc, .bool (⟨k, pl, r, a, l⟩ : St).r.a.pl.deref, .int .u8 (⟨k, pl, r, a, l⟩ : St).r.a.pl.field, .int .u8 (⟨k, pl, r, a, l⟩ : St).r.b.kind, .int .i64 (⟨k, pl, r, a, l⟩ : St).r.b.n, .int .i64 (⟨k, pl, r, a, l⟩ : St).r.b.pl.loc, .bool (⟨k, pl, r, a, l⟩ : St).r.b.pl.deref, .int .u8 (⟨k, pl, r, a, l⟩ : St).r.b.pl.field, .int .i64 (⟨k, pl, r, a, l⟩ : St).r.pl.loc, .bool (⟨k, pl, r, a, l⟩ : St).r.pl.deref, .int .u8 (⟨k, pl, r, a, l⟩ : St).r.pl.field, .int .u8 (⟨k, pl, r, a, l⟩ : St).a.kind, .int .i64 (⟨k, pl, r, a, l⟩ : St).a.n, .int .i64 (⟨k, pl, r, a, l⟩ : St).a.pl.loc, .bool (⟨k, pl, r, a, l⟩ : St).a.pl.deref, .int .u8 (⟨k, pl, r, a, l⟩ : St).a.pl.field, .int .i64 (⟨k, pl, r, a, l⟩ : St).loc] 54)) hW
  have hq1 := vput_le k.toNat
  have hq2 := vput_le l.toNat
  have hq3 := encPl_le pl
  have hq4 := encOpd_le a
  have hq5 := encRv_le r
  simp only at hk
  have Hr := Lib.hid hr; clear hr
  rcases hk with rfl | rfl | rfl | rfl
  · have Hk : Hid (PlOk pl ∧ rvOk r = true) := Lib.hid (by simp [stOk] at hok; exact ⟨(plErr_iff _).1 hok.1.1.1, hok.1.1.2⟩)
    have He : Hid (bs ++ encSt ⟨1, pl, r, a, l⟩ = bs ++ vput (1 : Int).toNat ++ encPl pl ++ encRv r) := Lib.hid (by simp [encSt])
    go_enter Try.func51, Try.ntmps51
    go_wp2_with (first | (go_at_call 38; ((with_reducible refine (Ws.put1 hs0 (by (repeat (first | (with_reducible exact Grow.refl _) | assumption | refine Grow.ext ?_ _ | refine Grow.alloc ?_ _ | refine Grow.drew ?_ | refine Grow.setCell ?_ (by first | (simp; done) | (simp; omega)) _ | refine Grow.trans ?_ (by assumption)))) rfl hb (by omega) (by omega) (by (try simp only [List.length_append]); omega) (by first | (simp; done) | (simp; omega))).mono ?_); rintro e w1 ⟨rfl, A1, x1, rfl, hA1, hs1⟩; haveI hE1 : EqW _ A1 := ⟨hA1.symm⟩)) | (go_at_call 87; (have hz := Ws.place hs1 (by (repeat (first | (with_reducible exact Grow.refl _) | assumption | refine Grow.ext ?_ _ | refine Grow.alloc ?_ _ | refine Grow.drew ?_ | refine Grow.setCell ?_ (by first | (simp; done) | (simp; omega)) _ | refine Grow.trans ?_ (by assumption)))) hA1 hb Hk.out.1 Hr.out.pl.field.1 (by (try simp only [List.length_append]); omega); refine hz.mono ?_; clear hz; rintro e w2 ⟨rfl, A2, x2, rfl, hA2, hs2⟩; haveI hE2 : EqW _ A2 := ⟨hA2.symm⟩)) | (go_at_call 88; (have hz := Ws.rvalue hs2 (by (repeat (first | (with_reducible exact Grow.refl _) | assumption | refine Grow.ext ?_ _ | refine Grow.alloc ?_ _ | refine Grow.drew ?_ | refine Grow.setCell ?_ (by first | (simp; done) | (simp; omega)) _ | refine Grow.trans ?_ (by assumption)))) hA2 hb Hr.out.r Hk.out.2 (by (try simp only [List.length_append]); omega); refine hz.mono ?_; clear hz; rintro e w3 ⟨rfl, A3, x3, rfl, hA3, hs3⟩; haveI hE3 : EqW _ A3 := ⟨hA3.symm⟩)))
    go_end0
    exact ⟨rfl, by rw [He.out]; exact hs3.wri, hs3.chg'⟩
  · have Hk : Hid (opdErr a = 0) := Lib.hid (by simp [stOk] at hok; exact hok.1.2)
    have He : Hid (bs ++ encSt ⟨2, pl, r, a, l⟩ = bs ++ vput (2 : Int).toNat ++ encOpd a) := Lib.hid (by simp [encSt])
    go_enter Try.func51, Try.ntmps51
    go_wp2_with (first | (go_at_call 38; ((with_reducible refine (Ws.put1 hs0 (by (repeat (first | (with_reducible exact Grow.refl _) | assumption | refine Grow.ext ?_ _ | refine Grow.alloc ?_ _ | refine Grow.drew ?_ | refine Grow.setCell ?_ (by first | (simp; done) | (simp; omega)) _ | refine Grow.trans ?_ (by assumption)))) rfl hb (by omega) (by omega) (by (try simp only [List.length_append]); omega) (by first | (simp; done) | (simp; omega))).mono ?_); rintro e w1 ⟨rfl, A1, x1, rfl, hA1, hs1⟩; haveI hE1 : EqW _ A1 := ⟨hA1.symm⟩)) | (go_at_call 89; ((with_reducible refine (Ws.op1 hs1 (by (repeat (first | (with_reducible exact Grow.refl _) | assumption | refine Grow.ext ?_ _ | refine Grow.alloc ?_ _ | refine Grow.drew ?_ | refine Grow.setCell ?_ (by first | (simp; done) | (simp; omega)) _ | refine Grow.trans ?_ (by assumption)))) hA1 hb Hr.out.a Hk.out (by (try simp only [List.length_append]); omega) (by first | (simp; done) | (simp; omega))).mono ?_); rintro e w2 ⟨rfl, A2, x2, rfl, hA2, hs2⟩; haveI hE2 : EqW _ A2 := ⟨hA2.symm⟩)))
    go_end0
    exact ⟨rfl, by rw [He.out]; exact hs2.wri, hs2.chg'⟩
  · have Hk : Hid (opdErr a = 0) := Lib.hid (by simp [stOk] at hok; exact hok.1.2)
    have He : Hid (bs ++ encSt ⟨4, pl, r, a, l⟩ = bs ++ vput (4 : Int).toNat ++ encOpd a) := Lib.hid (by simp [encSt])
    go_enter Try.func51, Try.ntmps51
    go_wp2_with (first | (go_at_call 38; ((with_reducible refine (Ws.put1 hs0 (by (repeat (first | (with_reducible exact Grow.refl _) | assumption | refine Grow.ext ?_ _ | refine Grow.alloc ?_ _ | refine Grow.drew ?_ | refine Grow.setCell ?_ (by first | (simp; done) | (simp; omega)) _ | refine Grow.trans ?_ (by assumption)))) rfl hb (by omega) (by omega) (by (try simp only [List.length_append]); omega) (by first | (simp; done) | (simp; omega))).mono ?_); rintro e w1 ⟨rfl, A1, x1, rfl, hA1, hs1⟩; haveI hE1 : EqW _ A1 := ⟨hA1.symm⟩)) | (go_at_call 89; ((with_reducible refine (Ws.op1 hs1 (by (repeat (first | (with_reducible exact Grow.refl _) | assumption | refine Grow.ext ?_ _ | refine Grow.alloc ?_ _ | refine Grow.drew ?_ | refine Grow.setCell ?_ (by first | (simp; done) | (simp; omega)) _ | refine Grow.trans ?_ (by assumption)))) hA1 hb Hr.out.a Hk.out (by (try simp only [List.length_append]); omega) (by first | (simp; done) | (simp; omega))).mono ?_); rintro e w2 ⟨rfl, A2, x2, rfl, hA2, hs2⟩; haveI hE2 : EqW _ A2 := ⟨hA2.symm⟩)))
    go_end0
    exact ⟨rfl, by rw [He.out]; exact hs2.wri, hs2.chg'⟩
  · have hk1 : 0 ≤ l ∧ l < 16 := by simp [stOk] at hok; exact ⟨hok.1.2, hok.2⟩
    obtain ⟨hl1, hl2⟩ := hk1
    have He : Hid (bs ++ encSt ⟨3, pl, r, a, l⟩ = bs ++ vput (3 : Int).toNat ++ vput l.toNat) := Lib.hid (by simp [encSt])
    go_enter Try.func51, Try.ntmps51
    go_wp2_with (first | (go_at_call 38; ((with_reducible refine (Ws.put1 hs0 (by (repeat (first | (with_reducible exact Grow.refl _) | assumption | refine Grow.ext ?_ _ | refine Grow.alloc ?_ _ | refine Grow.drew ?_ | refine Grow.setCell ?_ (by first | (simp; done) | (simp; omega)) _ | refine Grow.trans ?_ (by assumption)))) rfl hb (by omega) (by omega) (by (try simp only [List.length_append]); omega) (by first | (simp; done) | (simp; omega))).mono ?_); rintro e w1 ⟨rfl, A1, x1, rfl, hA1, hs1⟩; haveI hE1 : EqW _ A1 := ⟨hA1.symm⟩)) | (go_at_call 38; ((with_reducible refine (Ws.put1 hs1 (by (repeat (first | (with_reducible exact Grow.refl _) | assumption | refine Grow.ext ?_ _ | refine Grow.alloc ?_ _ | refine Grow.drew ?_ | refine Grow.setCell ?_ (by first | (simp; done) | (simp; omega)) _ | refine Grow.trans ?_ (by assumption)))) hA1 hb (by omega) (by omega) (by (try simp only [List.length_append]); omega) (by first | (simp; done) | (simp; omega))).mono ?_); rintro e w2 ⟨rfl, A2, x2, rfl, hA2, hs2⟩; haveI hE2 : EqW _ A2 := ⟨hA2.symm⟩)))
    go_end0
    exact ⟨rfl, by rw [He.out]; exact hs2.wri, hs2.chg'⟩
set_option maxRecDepth 100000 in
set_option maxHeartbeats 4000000 in
theorem writer_jump (b : Nat) (j : Ju) (av : Value) (w : World) (v : Value) (bs : List Nat) (hW : Wri 77 b w v bs) (hr : j.wf) (hav : Sl (fun k => k < b) w av j.args) (hok : juErr j = 0) (hlen : bs.length + 260 ≤ 1000000000) :
    Calls Try.prog 52 #[.pointer (some ⟨b, 0, none⟩), j.v av] w (Wrote 77 b w (bs ++ encJu j)) := by
  obtain ⟨a, n, cap, rfl, Hn, hm, hcap, hcm, hav⟩ := hav.open
  rw [juErr_iff] at hok
  unfold juOk argsOk at hok; simp only [Bool.and_eq_true, List.all_eq_true, decide_eq_true_eq] at hok
  obtain ⟨hok, hargs⟩ := hok
  have hk := juPre_kind hok
  obtain ⟨k, oa, fn, next, els, args, dest⟩ := j
  have hb := hW.lt
  have hs0 := Ws.start (o := (Obj.cells #[.int .u8 (⟨k, oa, fn, next, els, args, dest⟩ : Ju).kind, .int .u8 (⟨k, oa, fn, next, els, args, dest⟩ : Ju).a.kind, .int .i64 (⟨k, oa, fn, next, els, args, dest⟩ : Ju).a.n, .int .i64 (⟨k, oa, fn, next, els, args, dest⟩ : Ju).a.pl.loc, .bool (⟨k, oa, fn, next, els, args, dest⟩ : Ju).a.pl.deref, .int .u8 (⟨k, oa, fn, next, els, args, dest⟩ : Ju).a.pl.field, .int .i64 (⟨k, oa, fn, next, els, args, dest⟩ : Ju).fn, .int .i64 (⟨k, oa, fn, next, els, args, dest⟩ : Ju).next, .int .i64 (⟨k, oa, fn, next, els, args, dest⟩ : Ju).els, .slice a n cap, .int .i64 (⟨k, oa, fn, next, els, args, dest⟩ : Ju).dest.loc, .bool (⟨k, oa, fn, next, els, args, dest⟩ : Ju).dest.deref, .int .u8 (⟨k, oa, fn, next, els, args, dest⟩ : Ju).dest.field] 49)) hW
  have hq1 := vput_le k.toNat
  have hq2 := vput_le fn.toNat
  have hq3 := vput_le next.toNat
  have hq4 := vput_le els.toNat
  have hq5 := encOpd_le oa
  have hq6 := encPl_le dest
  have hq7 := vput_le n
  have hq8 := encOps_le args
  simp only at hk hargs
  have Hargs := Lib.hid hargs; clear hargs
  have Hr := Lib.hid hr; clear hr
  have hn' : n = args.length := Hn.out
  rcases hk with rfl | rfl | rfl | rfl | rfl
  · have hk1 : 0 ≤ next ∧ next < 24 := by simp [juPre] at hok; exact blk_iff hok.1.2
    obtain ⟨hx1, hx2⟩ := hk1
    have He : Hid (bs ++ encJu ⟨1, oa, fn, next, els, args, dest⟩ = bs ++ vput (1 : Int).toNat ++ vput next.toNat) := Lib.hid (by simp [encJu])
    clear hn'
    go_enter Try.func52, Try.ntmps52
    go_wp2_with (first | (go_at_call 38; ((with_reducible refine (Ws.put1 hs0 (by (repeat (first | (with_reducible exact Grow.refl _) | assumption | refine Grow.ext ?_ _ | refine Grow.alloc ?_ _ | refine Grow.drew ?_ | refine Grow.setCell ?_ (by first | (simp; done) | (simp; omega)) _ | refine Grow.trans ?_ (by assumption)))) rfl hb (by omega) (by omega) (by (try simp only [List.length_append]); omega) (by first | (simp; done) | (simp; omega))).mono ?_); rintro e w1 ⟨rfl, A1, x1, rfl, hA1, hs1⟩; haveI hE1 : EqW _ A1 := ⟨hA1.symm⟩)) | (go_at_call 38; ((with_reducible refine (Ws.put1 hs1 (by (repeat (first | (with_reducible exact Grow.refl _) | assumption | refine Grow.ext ?_ _ | refine Grow.alloc ?_ _ | refine Grow.drew ?_ | refine Grow.setCell ?_ (by first | (simp; done) | (simp; omega)) _ | refine Grow.trans ?_ (by assumption)))) hA1 hb (by omega) (by omega) (by (try simp only [List.length_append]); omega) (by first | (simp; done) | (simp; omega))).mono ?_); rintro e w2 ⟨rfl, A2, x2, rfl, hA2, hs2⟩; haveI hE2 : EqW _ A2 := ⟨hA2.symm⟩)))
    go_end0
    exact ⟨rfl, by rw [He.out]; exact hs2.wri, hs2.chg'⟩
  · have hk1 : (opdErr oa = 0) ∧ (0 ≤ next ∧ next < 24) ∧ (0 ≤ els ∧ els < 24) := by simp [juPre] at hok; exact ⟨hok.1.1.2, blk_iff hok.1.2, blk_iff hok.2⟩
    obtain ⟨ho, ⟨hx1, hx2⟩, hx3, hx4⟩ := hk1
    have Ho := Lib.hid ho; clear ho
    have He : Hid (bs ++ encJu ⟨2, oa, fn, next, els, args, dest⟩ = bs ++ vput (2 : Int).toNat ++ encOpd oa ++ (vput next.toNat ++ vput els.toNat)) := Lib.hid (by simp [encJu])
    clear hn'
    go_enter Try.func52, Try.ntmps52
    go_wp2_with (first | (go_at_call 38; ((with_reducible refine (Ws.put1 hs0 (by (repeat (first | (with_reducible exact Grow.refl _) | assumption | refine Grow.ext ?_ _ | refine Grow.alloc ?_ _ | refine Grow.drew ?_ | refine Grow.setCell ?_ (by first | (simp; done) | (simp; omega)) _ | refine Grow.trans ?_ (by assumption)))) rfl hb (by omega) (by omega) (by (try simp only [List.length_append]); omega) (by first | (simp; done) | (simp; omega))).mono ?_); rintro e w1 ⟨rfl, A1, x1, rfl, hA1, hs1⟩; haveI hE1 : EqW _ A1 := ⟨hA1.symm⟩)) | (go_at_call 89; ((with_reducible refine (Ws.op1 hs1 (by (repeat (first | (with_reducible exact Grow.refl _) | assumption | refine Grow.ext ?_ _ | refine Grow.alloc ?_ _ | refine Grow.drew ?_ | refine Grow.setCell ?_ (by first | (simp; done) | (simp; omega)) _ | refine Grow.trans ?_ (by assumption)))) hA1 hb Hr.out.a Ho.out (by (try simp only [List.length_append]); omega) (by first | (simp; done) | (simp; omega))).mono ?_); rintro e w2 ⟨rfl, A2, x2, rfl, hA2, hs2⟩; haveI hE2 : EqW _ A2 := ⟨hA2.symm⟩)) | (go_at_call 38; ((with_reducible refine (Ws.put2 hs2 (by (repeat (first | (with_reducible exact Grow.refl _) | assumption | refine Grow.ext ?_ _ | refine Grow.alloc ?_ _ | refine Grow.drew ?_ | refine Grow.setCell ?_ (by first | (simp; done) | (simp; omega)) _ | refine Grow.trans ?_ (by assumption)))) hA2 hb (by omega) (by omega) (by omega) (by omega) (by (try simp only [List.length_append]); omega) (by first | (simp; done) | (simp; omega))).mono ?_); rintro e w3 ⟨rfl, A3, x3, rfl, hA3, hs3⟩; haveI hE3 : EqW _ A3 := ⟨hA3.symm⟩)))
    go_end0
    exact ⟨rfl, by rw [He.out]; exact hs3.wri, hs3.chg'⟩
  · have He : Hid (bs ++ encJu ⟨3, oa, fn, next, els, args, dest⟩ = bs ++ vput (3 : Int).toNat) := Lib.hid (by simp [encJu])
    clear hn'
    go_enter Try.func52, Try.ntmps52
    go_wp2_with (first | (go_at_call 38; ((with_reducible refine (Ws.put1 hs0 (by (repeat (first | (with_reducible exact Grow.refl _) | assumption | refine Grow.ext ?_ _ | refine Grow.alloc ?_ _ | refine Grow.drew ?_ | refine Grow.setCell ?_ (by first | (simp; done) | (simp; omega)) _ | refine Grow.trans ?_ (by assumption)))) rfl hb (by omega) (by omega) (by (try simp only [List.length_append]); omega) (by first | (simp; done) | (simp; omega))).mono ?_); rintro e w1 ⟨rfl, A1, x1, rfl, hA1, hs1⟩; haveI hE1 : EqW _ A1 := ⟨hA1.symm⟩)))
    go_end0
    exact ⟨rfl, by rw [He.out]; exact hs1.wri, hs1.chg'⟩
  · have He : Hid (bs ++ encJu ⟨5, oa, fn, next, els, args, dest⟩ = bs ++ vput (5 : Int).toNat) := Lib.hid (by simp [encJu])
    clear hn'
    go_enter Try.func52, Try.ntmps52
    go_wp2_with (first | (go_at_call 38; ((with_reducible refine (Ws.put1 hs0 (by (repeat (first | (with_reducible exact Grow.refl _) | assumption | refine Grow.ext ?_ _ | refine Grow.alloc ?_ _ | refine Grow.drew ?_ | refine Grow.setCell ?_ (by first | (simp; done) | (simp; omega)) _ | refine Grow.trans ?_ (by assumption)))) rfl hb (by omega) (by omega) (by (try simp only [List.length_append]); omega) (by first | (simp; done) | (simp; omega))).mono ?_); rintro e w1 ⟨rfl, A1, x1, rfl, hA1, hs1⟩; haveI hE1 : EqW _ A1 := ⟨hA1.symm⟩)))
    go_end0
    exact ⟨rfl, by rw [He.out]; exact hs1.wri, hs1.chg'⟩
  · have hk1 : (0 ≤ fn ∧ fn < 8) ∧ args.length ≤ 8 ∧ PlOk dest ∧ (0 ≤ next ∧ next < 24) := by simp [juPre] at hok; exact ⟨⟨hok.1.1.1.1.1.2, hok.1.1.1.1.2⟩, hok.1.1.1.2, (plErr_iff _).1 hok.1.1.2, blk_iff hok.1.2⟩
    obtain ⟨⟨hx1, hx2⟩, hx3, hp, hx4, hx5⟩ := hk1
    have Hp := Lib.hid hp; clear hp
    have He : Hid (bs ++ encJu ⟨4, oa, fn, next, els, args, dest⟩ = bs ++ vput (4 : Int).toNat ++ (vput fn.toNat ++ vput ((n : Int)).toNat) ++ encOps args ++ encPl dest ++ vput next.toNat) := Lib.hid (by simp [encJu, hn'])
    have hn8 : n ≤ 8 := by omega
    have hq7' : (vput ((n : Int)).toNat).length ≤ 10 := hq7
    have hq9 : (encOps args).length ≤ 160 := by omega
    have hq10 : 20 * args.length ≤ 160 := by omega
    clear hn' hx3 hq8
    go_enter Try.func52, Try.ntmps52
    go_wp2_with (first | (go_at_call 38; ((with_reducible refine (Ws.put1 hs0 (by (repeat (first | (with_reducible exact Grow.refl _) | assumption | refine Grow.ext ?_ _ | refine Grow.alloc ?_ _ | refine Grow.drew ?_ | refine Grow.setCell ?_ (by first | (simp; done) | (simp; omega)) _ | refine Grow.trans ?_ (by assumption)))) rfl hb (by omega) (by omega) (by (try simp only [List.length_append]); omega) (by first | (simp; done) | (simp; omega))).mono ?_); rintro e w1 ⟨rfl, A1, x1, rfl, hA1, hs1⟩; haveI hE1 : EqW _ A1 := ⟨hA1.symm⟩)) | (go_at_call 38; ((with_reducible refine (Ws.put2 hs1 (by (repeat (first | (with_reducible exact Grow.refl _) | assumption | refine Grow.ext ?_ _ | refine Grow.alloc ?_ _ | refine Grow.drew ?_ | refine Grow.setCell ?_ (by first | (simp; done) | (simp; omega)) _ | refine Grow.trans ?_ (by assumption)))) hA1 hb (by omega) (by omega) (by omega) (by omega) (by (try simp only [List.length_append]); omega) (by first | (simp; done) | (simp; omega))).mono ?_); rintro e w2 ⟨rfl, A2, x2, rfl, hA2, hs2⟩; haveI hE2 : EqW _ A2 := ⟨hA2.symm⟩)) | (go_at_call 89; (have hz := Ws.ops hs2 (by (repeat (first | (with_reducible exact Grow.refl _) | assumption | refine Grow.ext ?_ _ | refine Grow.alloc ?_ _ | refine Grow.drew ?_ | refine Grow.setCell ?_ (by first | (simp; done) | (simp; omega)) _ | refine Grow.trans ?_ (by assumption)))) hA2 hb (hav.keep (hs2.chg'.agr_lt hW)) Hargs.out (by (try simp only [List.length_append]); omega); refine hz.mono ?_; clear hz; rintro e w3 ⟨rfl, A3, x3, rfl, hA3, hs3⟩; haveI hE3 : EqW _ A3 := ⟨hA3.symm⟩)) | (go_at_call 87; (have hz := Ws.place hs3 (by (repeat (first | (with_reducible exact Grow.refl _) | assumption | refine Grow.ext ?_ _ | refine Grow.alloc ?_ _ | refine Grow.drew ?_ | refine Grow.setCell ?_ (by first | (simp; done) | (simp; omega)) _ | refine Grow.trans ?_ (by assumption)))) hA3 hb Hp.out Hr.out.dest.field.1 (by (try simp only [List.length_append]); omega); refine hz.mono ?_; clear hz; rintro e w4 ⟨rfl, A4, x4, rfl, hA4, hs4⟩; haveI hE4 : EqW _ A4 := ⟨hA4.symm⟩)) | (go_at_call 38; ((with_reducible refine (Ws.put1 hs4 (by (repeat (first | (with_reducible exact Grow.refl _) | assumption | refine Grow.ext ?_ _ | refine Grow.alloc ?_ _ | refine Grow.drew ?_ | refine Grow.setCell ?_ (by first | (simp; done) | (simp; omega)) _ | refine Grow.trans ?_ (by assumption)))) hA4 hb (by omega) (by omega) (by (try simp only [List.length_append]); omega) (by first | (simp; done) | (simp; omega))).mono ?_); rintro e w5 ⟨rfl, A5, x5, rfl, hA5, hs5⟩; haveI hE5 : EqW _ A5 := ⟨hA5.symm⟩)))
    go_end0
    exact ⟨rfl, by rw [He.out]; exact hs5.wri, hs5.chg'⟩
/-- Three numbers are put. -/
theorem Ws.put3 {b N : Nat} {w0 w A : World} {o : Obj} {bs : List Nat} (h : Ws 77 b N w0 w bs) (hg : Grow (A.alloc o) w) (hA : A.heap.size = N) (hb : b < N) {n m q : Int} (h0 : 0 ≤ n) (hn : n ≤ 9223372036854775807) (k0 : 0 ≤ m) (km : m ≤ 9223372036854775807) (q0 : 0 ≤ q) (qm : q ≤ 9223372036854775807) (hlen : bs.length + 30 ≤ 1000000000) {t : TypeId} {g : Nat} (hgw : g = w.heap.size) :
    Calls Try.prog 38 #[.pointer (some ⟨b, 0, none⟩), .slice (some ⟨g, 0, none⟩) 3 3] (w.alloc (.cells #[.int .i64 n, .int .i64 m, .int .i64 q] t)) (fun e w' => e = .returned (.tuple #[]) ∧ ∃ (A' : World) (x' : Ext), w' = ext (A'.alloc o) x' ∧ A'.heap.size = N ∧ Ws 77 b N w0 w' (bs ++ (vput n.toNat ++ (vput m.toNat ++ vput q.toNat)))) := by
  subst hgw
  obtain ⟨v, hv⟩ := h.wri
  have hgr : Grow w (w.alloc (.cells #[.int .i64 n, .int .i64 m, .int .i64 q] t)) := Grow.alloc (Grow.refl _) _
  have hsl : Sl (fun k => k = w.heap.size) (w.alloc (.cells #[.int .i64 n, .int .i64 m, .int .i64 q] t)) (.slice (some ⟨w.heap.size, 0, none⟩) 3 3) [n, m, q] := Sl.mk rfl rfl (by simp) (by omega) (by omega) fun i hi => by
    obtain rfl | rfl | rfl : i = 0 ∨ i = 1 ∨ i = 2 := by simp at hi; omega
    · exact ⟨_, ⟨rfl, by simp only [List.getElem_cons_zero]; omega, by simpa using hn⟩, CellsAt.cons (by simp only [alloc_cell_at]; rfl) (CellsAt.nil _ _ _)⟩
    · exact ⟨_, ⟨rfl, by simp only [List.getElem_cons_zero, List.getElem_cons_succ]; omega, by simpa using km⟩, CellsAt.cons (by simp only [alloc_cell_at]; rfl) (CellsAt.nil _ _ _)⟩
    · exact ⟨_, ⟨rfl, by simp only [List.getElem_cons_zero, List.getElem_cons_succ]; omega, by simpa using qm⟩, CellsAt.cons (by simp only [alloc_cell_at]; rfl) (CellsAt.nil _ _ _)⟩
  refine (writer_put b _ [n, m, q] _ v bs (hv.grow hgr) hsl (fun k hk hlt => by
    subst hk
    exact ⟨by have := hv.lt; omega, fun e => by rw [rowOf_grow hgr hv.lt] at e; have := hv.row_lt _ e; omega⟩) (fun z hm => by simp at hm; rcases hm with rfl | rfl | rfl; exact h0; exact k0; exact q0) (by simpa using hlen)).mono ?_
  rintro e w' ⟨rfl, hw', hc⟩
  exact ⟨rfl, h.step hg hA hb (by simpa [encNs] using hw') ((Chg.of_grow hgr hv.lt).trans hc)⟩
/-- A statement is put. -/
theorem Ws.stmt {b N : Nat} {w0 w A : World} {o : Obj} {bs : List Nat} (h : Ws 77 b N w0 w bs) (hg : Grow (A.alloc o) w) (hA : A.heap.size = N) (hb : b < N) {s : St} (hr : s.wf) (hok : stErr s = 0) (hlen : bs.length + 80 ≤ 1000000000) :
    Calls Try.prog 51 #[.pointer (some ⟨b, 0, none⟩), s.v] w (fun e w' => e = .returned (.tuple #[]) ∧ ∃ (A' : World) (x' : Ext), w' = ext (A'.alloc o) x' ∧ A'.heap.size = N ∧ Ws 77 b N w0 w' (bs ++ encSt s)) := by
  obtain ⟨v, hv⟩ := h.wri
  exact (writer_stmt b s w v bs hv hr hok hlen).mono (by rintro e w' ⟨rfl, hw', hc⟩; exact ⟨rfl, h.step hg hA hb hw' hc⟩)
/-- A jump is put. -/
theorem Ws.jump {b N : Nat} {w0 w A : World} {o : Obj} {bs : List Nat} (h : Ws 77 b N w0 w bs) (hg : Grow (A.alloc o) w) (hA : A.heap.size = N) (hb : b < N) {j : Ju} {av : Value} (hr : j.wf) (hav : Sl (fun k => k < b) w av j.args) (hok : juErr j = 0) (hlen : bs.length + 260 ≤ 1000000000) :
    Calls Try.prog 52 #[.pointer (some ⟨b, 0, none⟩), j.v av] w (fun e w' => e = .returned (.tuple #[]) ∧ ∃ (A' : World) (x' : Ext), w' = ext (A'.alloc o) x' ∧ A'.heap.size = N ∧ Ws 77 b N w0 w' (bs ++ encJu j)) := by
  obtain ⟨v, hv⟩ := h.wri
  exact (writer_jump b j av w v bs hv hr hav hok hlen).mono (by rintro e w' ⟨rfl, hw', hc⟩; exact ⟨rfl, h.step hg hA hb hw' hc⟩)
/-- What the bytes of a function ask of it. -/
structure FnE (f : Fn) : Prop where
  par : 0 ≤ f.params ∧ f.params ≤ 8
  nl : f.locals.length ≤ 16
  ty : ∀ t ∈ f.locals, TyOk t
  nb : f.blocks.length ≤ 24
  bk : ∀ b ∈ f.blocks, b.stmts.length ≤ 24 ∧ (∀ s ∈ b.stmts, stErr s = 0) ∧ juErr b.jump = 0
theorem juErr_args {j : Ju} (h : juErr j = 0) : j.args.length ≤ 8 := by
  rw [juErr_iff] at h
  unfold juOk at h; simp only [Bool.and_eq_true] at h
  have h := h.1
  unfold juPre at h; grind
theorem fnE_of {f : Fn} (h : fnErr f = 0) : FnE f := by
  obtain ⟨h1, h2, _⟩ := fn_good h
  have hp := made_par h2
  unfold small at h1; simp only [Bool.and_eq_true, decide_eq_true_eq, List.all_eq_true] at h1
  refine ⟨⟨hp.1, hp.2.1⟩, h1.1.1, fun t ht => ?_, h1.1.2, fun b hb => ⟨by have := h1.2 b hb; unfold smallBk at this; simpa using this, ?_⟩⟩
  · unfold madeB fnHead at h2; simp only [Bool.and_eq_true, decide_eq_true_eq, List.all_eq_true] at h2
    grind
  · obtain ⟨k, hk, rfl⟩ := List.getElem_of_mem hb
    exact made_at h2 (Lib.hid (List.getElem?_eq_getElem hk))
theorem tyNum_nn {t : Ty} (h : TyOk t) : 0 ≤ tyNum t ∧ tyNum t ≤ 7 := by
  rcases tyOk_cases h with rfl | rfl | rfl | rfl | rfl | rfl | rfl | rfl <;> decide +kernel
end Go.Proofs.Ytafcdabiplcjiaa
