/- Layer 9: what the writer's methods write: statements, jumps, functions. -/
import Derived.Test.YtafcdabiplcjiaaL09f
import Derived.Test.YtafcdabiplcjiaaL08b
namespace Go.Proofs.Ytafcdabiplcjiaa
open Go.RowKit
set_option linter.unusedSimpArgs false
set_option linter.unusedVariables false

/-- An rvalue is put. -/
theorem Ws.rvalue {b N : Nat} {w0 w A : World} {o : Obj} {bs : List Nat} (h : Ws 77 b N w0 w bs) (hg : Grow (A.alloc o) w) (hA : A.heap.size = N) (hb : b < N) {r : Rv} (hr : r.wf) (hok : rvOk r = true) (hlen : bs.length + 60 ≤ 1000000000) :
    Calls Try.prog 88 #[.pointer (some ⟨b, 0, none⟩), r.v] w (fun e w' => e = .returned (.tuple #[]) ∧ ∃ (A' : World) (x' : Ext), w' = ext (A'.alloc o) x' ∧ A'.heap.size = N ∧ Ws 77 b N w0 w' (bs ++ encRv r)) := by
  obtain ⟨v, hv⟩ := h.wri
  exact (writer_rvalue b r w v bs hv hr hok hlen).mono (by rintro e w' ⟨rfl, hw', hc⟩; exact ⟨rfl, h.step hg hA hb hw' hc⟩)
set_option maxRecDepth 100000 in
set_option maxHeartbeats 4000000 in
theorem writer_stmt (b : Nat) (s : St) (w : World) (v : Value) (bs : List Nat) (hW : Wri 77 b w v bs) (hr : s.wf) (hok : stErr s = 0) (hlen : bs.length + 80 ≤ 1000000000) :
    Calls Try.prog 51 #[.pointer (some ⟨b, 0, none⟩), s.v] w (Wrote 77 b w (bs ++ encSt s)) := by
  rw [stErr_iff] at hok
  have hk := stOk_kind hok
  obtain ⟨k, pl, r, a, l⟩ := s
  have hb := hW.lt
  have hs0 := Ws.start (o := (Obj.cells #[.int .u8 (⟨k, pl, r, a, l⟩ : St).kind, .int .i64 (⟨k, pl, r, a, l⟩ : St).pl.loc, .bool (⟨k, pl, r, a, l⟩ : St).pl.deref, .int .u8 (⟨k, pl, r, a, l⟩ : St).pl.field, .int .u8 (⟨k, pl, r, a, l⟩ : St).r.kind, .int .u8 (⟨k, pl, r, a, l⟩ : St).r.op, .int .u8 (⟨k, pl, r, a, l⟩ : St).r.bo, .int .u8 (⟨k, pl, r, a, l⟩ : St).r.a.kind, .int .i64 (⟨k, pl, r, a, l⟩ : St).r.a.n, .int .i64 (⟨k, pl, r, a, l⟩ : St).r.a.pl.loc, .bool (⟨k, pl, r, a, l⟩ : St).r.a.pl.deref, .int .u8 (⟨k, pl, r, a, l⟩ : St).r.a.pl.field, .int .u8 (⟨k, pl, r, a, l⟩ : St).r.b.kind, .int .i64 (⟨k, pl, r, a, l⟩ : St).r.b.n, .int .i64 (⟨k, pl, r, a, l⟩ : St).r.b.pl.loc, .bool (⟨k, pl, r, a, l⟩ : St).r.b.pl.deref, .int .u8 (⟨k, pl, r, a, l⟩ : St).r.b.pl.field, .int .i64 (⟨k, pl, r, a, l⟩ : St).r.pl.loc, .bool (⟨k, pl, r, a, l⟩ : St).r.pl.deref, .int .u8 (⟨k, pl, r, a, l⟩ : St).r.pl.field, .int .u8 (⟨k, pl, r, a, l⟩ : St).a.kind, .int .i64 (⟨k, pl, r, a, l⟩ : St).a.n, .int .i64 (⟨k, pl, r, a, l⟩ : St).a.pl.loc, .bool (⟨k, pl, r, a, l⟩ : St).a.pl.deref, .int .u8 (⟨k, pl, r, a, l⟩ : St).a.pl.field, .int .i64 (⟨k, pl, r, a, l⟩ : St).loc] 54)) hW
  have hq1 := vput_le k.toNat
  have hq2 := vput_le l.toNat
  have hq3 := encPl_le pl
  have hq4 := encOpd_le a
  have hq5 := encRv_le r
  simp only at hk
  have Hr := Lib.hid hr; clear hr
  rcases hk with rfl | rfl | rfl | rfl
  · have Hk : Hid (PlOk pl ∧ rvOk r = true) := Lib.hid (by simp [stOk] at hok; exact ⟨(plErr_iff _).1 hok.1.1.1, hok.1.1.2⟩)
    have He : Hid (bs ++ encSt ⟨1, pl, r, a, l⟩ = bs ++ vput (1 : Int).toNat ++ encPl pl ++ encRv r) := Lib.hid (by simp [encSt])
    go_enter Try.func51, Try.ntmps51
    go_wp2_with (first | (go_at_call 38; ((with_reducible refine (Ws.put1 hs0 (by (repeat (first | (with_reducible exact Grow.refl _) | assumption | refine Grow.ext ?_ _ | refine Grow.alloc ?_ _ | refine Grow.drew ?_ | refine Grow.setCell ?_ (by first | (simp; done) | (simp; omega)) _ | refine Grow.trans ?_ (by assumption)))) rfl hb (by omega) (by omega) (by (try simp only [List.length_append]); omega) (by first | (simp; done) | (simp; omega))).mono ?_); rintro e w1 ⟨rfl, A1, x1, rfl, hA1, hs1⟩; haveI hE1 : EqW _ A1 := ⟨hA1.symm⟩)) | (go_at_call 87; (have hz := Ws.place hs1 (by (repeat (first | (with_reducible exact Grow.refl _) | assumption | refine Grow.ext ?_ _ | refine Grow.alloc ?_ _ | refine Grow.drew ?_ | refine Grow.setCell ?_ (by first | (simp; done) | (simp; omega)) _ | refine Grow.trans ?_ (by assumption)))) hA1 hb Hk.out.1 Hr.out.pl.field.1 (by (try simp only [List.length_append]); omega); refine hz.mono ?_; clear hz; rintro e w2 ⟨rfl, A2, x2, rfl, hA2, hs2⟩; haveI hE2 : EqW _ A2 := ⟨hA2.symm⟩)) | (go_at_call 88; (have hz := Ws.rvalue hs2 (by (repeat (first | (with_reducible exact Grow.refl _) | assumption | refine Grow.ext ?_ _ | refine Grow.alloc ?_ _ | refine Grow.drew ?_ | refine Grow.setCell ?_ (by first | (simp; done) | (simp; omega)) _ | refine Grow.trans ?_ (by assumption)))) hA2 hb Hr.out.r Hk.out.2 (by (try simp only [List.length_append]); omega); refine hz.mono ?_; clear hz; rintro e w3 ⟨rfl, A3, x3, rfl, hA3, hs3⟩; haveI hE3 : EqW _ A3 := ⟨hA3.symm⟩)))
    go_end0
    exact ⟨rfl, by rw [He.out]; exact hs3.wri, hs3.chg'⟩
  · have Hk : Hid (opdErr a = 0) := Lib.hid (by simp [stOk] at hok; exact hok.1.2)
    have He : Hid (bs ++ encSt ⟨2, pl, r, a, l⟩ = bs ++ vput (2 : Int).toNat ++ encOpd a) := Lib.hid (by simp [encSt])
    go_enter Try.func51, Try.ntmps51
    go_wp2_with (first | (go_at_call 38; ((with_reducible refine (Ws.put1 hs0 (by (repeat (first | (with_reducible exact Grow.refl _) | assumption | refine Grow.ext ?_ _ | refine Grow.alloc ?_ _ | refine Grow.drew ?_ | refine Grow.setCell ?_ (by first | (simp; done) | (simp; omega)) _ | refine Grow.trans ?_ (by assumption)))) rfl hb (by omega) (by omega) (by (try simp only [List.length_append]); omega) (by first | (simp; done) | (simp; omega))).mono ?_); rintro e w1 ⟨rfl, A1, x1, rfl, hA1, hs1⟩; haveI hE1 : EqW _ A1 := ⟨hA1.symm⟩)) | (go_at_call 89; ((with_reducible refine (Ws.op1 hs1 (by (repeat (first | (with_reducible exact Grow.refl _) | assumption | refine Grow.ext ?_ _ | refine Grow.alloc ?_ _ | refine Grow.drew ?_ | refine Grow.setCell ?_ (by first | (simp; done) | (simp; omega)) _ | refine Grow.trans ?_ (by assumption)))) hA1 hb Hr.out.a Hk.out (by (try simp only [List.length_append]); omega) (by first | (simp; done) | (simp; omega))).mono ?_); rintro e w2 ⟨rfl, A2, x2, rfl, hA2, hs2⟩; haveI hE2 : EqW _ A2 := ⟨hA2.symm⟩)))
    go_end0
    exact ⟨rfl, by rw [He.out]; exact hs2.wri, hs2.chg'⟩
  · have Hk : Hid (opdErr a = 0) := Lib.hid (by simp [stOk] at hok; exact hok.1.2)
    have He : Hid (bs ++ encSt ⟨4, pl, r, a, l⟩ = bs ++ vput (4 : Int).toNat ++ encOpd a) := Lib.hid (by simp [encSt])
    go_enter Try.func51, Try.ntmps51
    go_wp2_with (first | (go_at_call 38; ((with_reducible refine (Ws.put1 hs0 (by (repeat (first | (with_reducible exact Grow.refl _) | assumption | refine Grow.ext ?_ _ | refine Grow.alloc ?_ _ | refine Grow.drew ?_ | refine Grow.setCell ?_ (by first | (simp; done) | (simp; omega)) _ | refine Grow.trans ?_ (by assumption)))) rfl hb (by omega) (by omega) (by (try simp only [List.length_append]); omega) (by first | (simp; done) | (simp; omega))).mono ?_); rintro e w1 ⟨rfl, A1, x1, rfl, hA1, hs1⟩; haveI hE1 : EqW _ A1 := ⟨hA1.symm⟩)) | (go_at_call 89; ((with_reducible refine (Ws.op1 hs1 (by (repeat (first | (with_reducible exact Grow.refl _) | assumption | refine Grow.ext ?_ _ | refine Grow.alloc ?_ _ | refine Grow.drew ?_ | refine Grow.setCell ?_ (by first | (simp; done) | (simp; omega)) _ | refine Grow.trans ?_ (by assumption)))) hA1 hb Hr.out.a Hk.out (by (try simp only [List.length_append]); omega) (by first | (simp; done) | (simp; omega))).mono ?_); rintro e w2 ⟨rfl, A2, x2, rfl, hA2, hs2⟩; haveI hE2 : EqW _ A2 := ⟨hA2.symm⟩)))
    go_end0
    exact ⟨rfl, by rw [He.out]; exact hs2.wri, hs2.chg'⟩
  · have hk1 : 0 ≤ l ∧ l < 16 := by simp [stOk] at hok; exact ⟨hok.1.2, hok.2⟩
    obtain ⟨hl1, hl2⟩ := hk1
    have He : Hid (bs ++ encSt ⟨3, pl, r, a, l⟩ = bs ++ vput (3 : Int).toNat ++ vput l.toNat) := Lib.hid (by simp [encSt])
    go_enter Try.func51, Try.ntmps51
    go_wp2_with (first | (go_at_call 38; ((with_reducible refine (Ws.put1 hs0 (by (repeat (first | (with_reducible exact Grow.refl _) | assumption | refine Grow.ext ?_ _ | refine Grow.alloc ?_ _ | refine Grow.drew ?_ | refine Grow.setCell ?_ (by first | (simp; done) | (simp; omega)) _ | refine Grow.trans ?_ (by assumption)))) rfl hb (by omega) (by omega) (by (try simp only [List.length_append]); omega) (by first | (simp; done) | (simp; omega))).mono ?_); rintro e w1 ⟨rfl, A1, x1, rfl, hA1, hs1⟩; haveI hE1 : EqW _ A1 := ⟨hA1.symm⟩)) | (go_at_call 38; ((with_reducible refine (Ws.put1 hs1 (by (repeat (first | (with_reducible exact Grow.refl _) | assumption | refine Grow.ext ?_ _ | refine Grow.alloc ?_ _ | refine Grow.drew ?_ | refine Grow.setCell ?_ (by first | (simp; done) | (simp; omega)) _ | refine Grow.trans ?_ (by assumption)))) hA1 hb (by omega) (by omega) (by (try simp only [List.length_append]); omega) (by first | (simp; done) | (simp; omega))).mono ?_); rintro e w2 ⟨rfl, A2, x2, rfl, hA2, hs2⟩; haveI hE2 : EqW _ A2 := ⟨hA2.symm⟩)))
    go_end0
    exact ⟨rfl, by rw [He.out]; exact hs2.wri, hs2.chg'⟩
end Go.Proofs.Ytafcdabiplcjiaa
