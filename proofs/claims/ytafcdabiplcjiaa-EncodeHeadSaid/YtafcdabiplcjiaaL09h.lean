/- Layer 9: what the writer's methods write: jumps, functions. -/
import Derived.Test.YtafcdabiplcjiaaL09g
import Derived.Test.YtafcdabiplcjiaaL08b
namespace Go.Proofs.Ytafcdabiplcjiaa
open Go.RowKit
set_option linter.unusedSimpArgs false
set_option linter.unusedVariables false

set_option maxRecDepth 100000 in
set_option maxHeartbeats 4000000 in
theorem writer_jump (b : Nat) (j : Ju) (av : Value) (w : World) (v : Value) (bs : List Nat) (hW : Wri 77 b w v bs) (hr : j.wf) (hav : Sl (fun k => k < b) w av j.args) (hok : juErr j = 0) (hlen : bs.length + 260 ≤ 1000000000) :
    Calls Try.prog 52 #[.pointer (some ⟨b, 0, none⟩), j.v av] w (Wrote 77 b w (bs ++ encJu j)) := by
  obtain ⟨a, n, cap, rfl, Hn, hm, hcap, hcm, hav⟩ := hav.open
  rw [juErr_iff] at hok
  unfold juOk argsOk at hok; simp only [Bool.and_eq_true, List.all_eq_true, decide_eq_true_eq] at hok
  obtain ⟨hok, hargs⟩ := hok
  have hk := juPre_kind hok
  obtain ⟨k, oa, fn, next, els, args, dest⟩ := j
  have hb := hW.lt
  have hs0 := Ws.start (o := (Obj.cells #[.int .u8 (⟨k, oa, fn, next, els, args, dest⟩ : Ju).kind, .int .u8 (⟨k, oa, fn, next, els, args, dest⟩ : Ju).a.kind, .int .i64 (⟨k, oa, fn, next, els, args, dest⟩ : Ju).a.n, .int .i64 (⟨k, oa, fn, next, els, args, dest⟩ : Ju).a.pl.loc, .bool (⟨k, oa, fn, next, els, args, dest⟩ : Ju).a.pl.deref, .int .u8 (⟨k, oa, fn, next, els, args, dest⟩ : Ju).a.pl.field, .int .i64 (⟨k, oa, fn, next, els, args, dest⟩ : Ju).fn, .int .i64 (⟨k, oa, fn, next, els, args, dest⟩ : Ju).next, .int .i64 (⟨k, oa, fn, next, els, args, dest⟩ : Ju).els, .slice a n cap, .int .i64 (⟨k, oa, fn, next, els, args, dest⟩ : Ju).dest.loc, .bool (⟨k, oa, fn, next, els, args, dest⟩ : Ju).dest.deref, .int .u8 (⟨k, oa, fn, next, els, args, dest⟩ : Ju).dest.field] 49)) hW
  have hq1 := vput_le k.toNat
  have hq2 := vput_le fn.toNat
  have hq3 := vput_le next.toNat
  have hq4 := vput_le els.toNat
  have hq5 := encOpd_le oa
  have hq6 := encPl_le dest
  have hq7 := vput_le n
  have hq8 := encOps_le args
  simp only at hk hargs
  have Hargs := Lib.hid hargs; clear hargs
  have Hr := Lib.hid hr; clear hr
  have hn' : n = args.length := Hn.out
  rcases hk with rfl | rfl | rfl | rfl | rfl
  · have hk1 : 0 ≤ next ∧ next < 24 := by simp [juPre] at hok; exact blk_iff hok.1.2
    obtain ⟨hx1, hx2⟩ := hk1
    have He : Hid (bs ++ encJu ⟨1, oa, fn, next, els, args, dest⟩ = bs ++ vput (1 : Int).toNat ++ vput next.toNat) := Lib.hid (by simp [encJu])
    clear hn'
    go_enter Try.func52, Try.ntmps52
    go_wp2_with (first | (go_at_call 38; ((with_reducible refine (Ws.put1 hs0 (by (repeat (first | (with_reducible exact Grow.refl _) | assumption | refine Grow.ext ?_ _ | refine Grow.alloc ?_ _ | refine Grow.drew ?_ | refine Grow.setCell ?_ (by first | (simp; done) | (simp; omega)) _ | refine Grow.trans ?_ (by assumption)))) rfl hb (by omega) (by omega) (by (try simp only [List.length_append]); omega) (by first | (simp; done) | (simp; omega))).mono ?_); rintro e w1 ⟨rfl, A1, x1, rfl, hA1, hs1⟩; haveI hE1 : EqW _ A1 := ⟨hA1.symm⟩)) | (go_at_call 38; ((with_reducible refine (Ws.put1 hs1 (by (repeat (first | (with_reducible exact Grow.refl _) | assumption | refine Grow.ext ?_ _ | refine Grow.alloc ?_ _ | refine Grow.drew ?_ | refine Grow.setCell ?_ (by first | (simp; done) | (simp; omega)) _ | refine Grow.trans ?_ (by assumption)))) hA1 hb (by omega) (by omega) (by (try simp only [List.length_append]); omega) (by first | (simp; done) | (simp; omega))).mono ?_); rintro e w2 ⟨rfl, A2, x2, rfl, hA2, hs2⟩; haveI hE2 : EqW _ A2 := ⟨hA2.symm⟩)))
    go_end0
    exact ⟨rfl, by rw [He.out]; exact hs2.wri, hs2.chg'⟩
  · have hk1 : (opdErr oa = 0) ∧ (0 ≤ next ∧ next < 24) ∧ (0 ≤ els ∧ els < 24) := by simp [juPre] at hok; exact ⟨hok.1.1.2, blk_iff hok.1.2, blk_iff hok.2⟩
    obtain ⟨ho, ⟨hx1, hx2⟩, hx3, hx4⟩ := hk1
    have Ho := Lib.hid ho; clear ho
    have He : Hid (bs ++ encJu ⟨2, oa, fn, next, els, args, dest⟩ = bs ++ vput (2 : Int).toNat ++ encOpd oa ++ (vput next.toNat ++ vput els.toNat)) := Lib.hid (by simp [encJu])
    clear hn'
    go_enter Try.func52, Try.ntmps52
    go_wp2_with (first | (go_at_call 38; ((with_reducible refine (Ws.put1 hs0 (by (repeat (first | (with_reducible exact Grow.refl _) | assumption | refine Grow.ext ?_ _ | refine Grow.alloc ?_ _ | refine Grow.drew ?_ | refine Grow.setCell ?_ (by first | (simp; done) | (simp; omega)) _ | refine Grow.trans ?_ (by assumption)))) rfl hb (by omega) (by omega) (by (try simp only [List.length_append]); omega) (by first | (simp; done) | (simp; omega))).mono ?_); rintro e w1 ⟨rfl, A1, x1, rfl, hA1, hs1⟩; haveI hE1 : EqW _ A1 := ⟨hA1.symm⟩)) | (go_at_call 89; ((with_reducible refine (Ws.op1 hs1 (by (repeat (first | (with_reducible exact Grow.refl _) | assumption | refine Grow.ext ?_ _ | refine Grow.alloc ?_ _ | refine Grow.drew ?_ | refine Grow.setCell ?_ (by first | (simp; done) | (simp; omega)) _ | refine Grow.trans ?_ (by assumption)))) hA1 hb Hr.out.a Ho.out (by (try simp only [List.length_append]); omega) (by first | (simp; done) | (simp; omega))).mono ?_); rintro e w2 ⟨rfl, A2, x2, rfl, hA2, hs2⟩; haveI hE2 : EqW _ A2 := ⟨hA2.symm⟩)) | (go_at_call 38; ((with_reducible refine (Ws.put2 hs2 (by (repeat (first | (with_reducible exact Grow.refl _) | assumption | refine Grow.ext ?_ _ | refine Grow.alloc ?_ _ | refine Grow.drew ?_ | refine Grow.setCell ?_ (by first | (simp; done) | (simp; omega)) _ | refine Grow.trans ?_ (by assumption)))) hA2 hb (by omega) (by omega) (by omega) (by omega) (by (try simp only [List.length_append]); omega) (by first | (simp; done) | (simp; omega))).mono ?_); rintro e w3 ⟨rfl, A3, x3, rfl, hA3, hs3⟩; haveI hE3 : EqW _ A3 := ⟨hA3.symm⟩)))
    go_end0
    exact ⟨rfl, by rw [He.out]; exact hs3.wri, hs3.chg'⟩
  · have He : Hid (bs ++ encJu ⟨3, oa, fn, next, els, args, dest⟩ = bs ++ vput (3 : Int).toNat) := Lib.hid (by simp [encJu])
    clear hn'
    go_enter Try.func52, Try.ntmps52
    go_wp2_with (first | (go_at_call 38; ((with_reducible refine (Ws.put1 hs0 (by (repeat (first | (with_reducible exact Grow.refl _) | assumption | refine Grow.ext ?_ _ | refine Grow.alloc ?_ _ | refine Grow.drew ?_ | refine Grow.setCell ?_ (by first | (simp; done) | (simp; omega)) _ | refine Grow.trans ?_ (by assumption)))) rfl hb (by omega) (by omega) (by (try simp only [List.length_append]); omega) (by first | (simp; done) | (simp; omega))).mono ?_); rintro e w1 ⟨rfl, A1, x1, rfl, hA1, hs1⟩; haveI hE1 : EqW _ A1 := ⟨hA1.symm⟩)))
    go_end0
    exact ⟨rfl, by rw [He.out]; exact hs1.wri, hs1.chg'⟩
  · have He : Hid (bs ++ encJu ⟨5, oa, fn, next, els, args, dest⟩ = bs ++ vput (5 : Int).toNat) := Lib.hid (by simp [encJu])
    clear hn'
    go_enter Try.func52, Try.ntmps52
    go_wp2_with (first | (go_at_call 38; ((with_reducible refine (Ws.put1 hs0 (by (repeat (first | (with_reducible exact Grow.refl _) | assumption | refine Grow.ext ?_ _ | refine Grow.alloc ?_ _ | refine Grow.drew ?_ | refine Grow.setCell ?_ (by first | (simp; done) | (simp; omega)) _ | refine Grow.trans ?_ (by assumption)))) rfl hb (by omega) (by omega) (by (try simp only [List.length_append]); omega) (by first | (simp; done) | (simp; omega))).mono ?_); rintro e w1 ⟨rfl, A1, x1, rfl, hA1, hs1⟩; haveI hE1 : EqW _ A1 := ⟨hA1.symm⟩)))
    go_end0
    exact ⟨rfl, by rw [He.out]; exact hs1.wri, hs1.chg'⟩
  · have hk1 : (0 ≤ fn ∧ fn < 8) ∧ args.length ≤ 8 ∧ PlOk dest ∧ (0 ≤ next ∧ next < 24) := by simp [juPre] at hok; exact ⟨⟨hok.1.1.1.1.1.2, hok.1.1.1.1.2⟩, hok.1.1.1.2, (plErr_iff _).1 hok.1.1.2, blk_iff hok.1.2⟩
    obtain ⟨⟨hx1, hx2⟩, hx3, hp, hx4, hx5⟩ := hk1
    have Hp := Lib.hid hp; clear hp
    have He : Hid (bs ++ encJu ⟨4, oa, fn, next, els, args, dest⟩ = bs ++ vput (4 : Int).toNat ++ (vput fn.toNat ++ vput ((n : Int)).toNat) ++ encOps args ++ encPl dest ++ vput next.toNat) := Lib.hid (by simp [encJu, hn'])
    have hn8 : n ≤ 8 := by omega
    have hq7' : (vput ((n : Int)).toNat).length ≤ 10 := hq7
    have hq9 : (encOps args).length ≤ 160 := by omega
    have hq10 : 20 * args.length ≤ 160 := by omega
    clear hn' hx3 hq8
    go_enter Try.func52, Try.ntmps52
    go_wp2_with (first | (go_at_call 38; ((with_reducible refine (Ws.put1 hs0 (by (repeat (first | (with_reducible exact Grow.refl _) | assumption | refine Grow.ext ?_ _ | refine Grow.alloc ?_ _ | refine Grow.drew ?_ | refine Grow.setCell ?_ (by first | (simp; done) | (simp; omega)) _ | refine Grow.trans ?_ (by assumption)))) rfl hb (by omega) (by omega) (by (try simp only [List.length_append]); omega) (by first | (simp; done) | (simp; omega))).mono ?_); rintro e w1 ⟨rfl, A1, x1, rfl, hA1, hs1⟩; haveI hE1 : EqW _ A1 := ⟨hA1.symm⟩)) | (go_at_call 38; ((with_reducible refine (Ws.put2 hs1 (by (repeat (first | (with_reducible exact Grow.refl _) | assumption | refine Grow.ext ?_ _ | refine Grow.alloc ?_ _ | refine Grow.drew ?_ | refine Grow.setCell ?_ (by first | (simp; done) | (simp; omega)) _ | refine Grow.trans ?_ (by assumption)))) hA1 hb (by omega) (by omega) (by omega) (by omega) (by (try simp only [List.length_append]); omega) (by first | (simp; done) | (simp; omega))).mono ?_); rintro e w2 ⟨rfl, A2, x2, rfl, hA2, hs2⟩; haveI hE2 : EqW _ A2 := ⟨hA2.symm⟩)) | (go_at_call 89; (have hz := Ws.ops hs2 (by (repeat (first | (with_reducible exact Grow.refl _) | assumption | refine Grow.ext ?_ _ | refine Grow.alloc ?_ _ | refine Grow.drew ?_ | refine Grow.setCell ?_ (by first | (simp; done) | (simp; omega)) _ | refine Grow.trans ?_ (by assumption)))) hA2 hb (hav.keep (hs2.chg'.agr_lt hW)) Hargs.out (by (try simp only [List.length_append]); omega); refine hz.mono ?_; clear hz; rintro e w3 ⟨rfl, A3, x3, rfl, hA3, hs3⟩; haveI hE3 : EqW _ A3 := ⟨hA3.symm⟩)) | (go_at_call 87; (have hz := Ws.place hs3 (by (repeat (first | (with_reducible exact Grow.refl _) | assumption | refine Grow.ext ?_ _ | refine Grow.alloc ?_ _ | refine Grow.drew ?_ | refine Grow.setCell ?_ (by first | (simp; done) | (simp; omega)) _ | refine Grow.trans ?_ (by assumption)))) hA3 hb Hp.out Hr.out.dest.field.1 (by (try simp only [List.length_append]); omega); refine hz.mono ?_; clear hz; rintro e w4 ⟨rfl, A4, x4, rfl, hA4, hs4⟩; haveI hE4 : EqW _ A4 := ⟨hA4.symm⟩)) | (go_at_call 38; ((with_reducible refine (Ws.put1 hs4 (by (repeat (first | (with_reducible exact Grow.refl _) | assumption | refine Grow.ext ?_ _ | refine Grow.alloc ?_ _ | refine Grow.drew ?_ | refine Grow.setCell ?_ (by first | (simp; done) | (simp; omega)) _ | refine Grow.trans ?_ (by assumption)))) hA4 hb (by omega) (by omega) (by (try simp only [List.length_append]); omega) (by first | (simp; done) | (simp; omega))).mono ?_); rintro e w5 ⟨rfl, A5, x5, rfl, hA5, hs5⟩; haveI hE5 : EqW _ A5 := ⟨hA5.symm⟩)))
    go_end0
    exact ⟨rfl, by rw [He.out]; exact hs5.wri, hs5.chg'⟩
/-- Three numbers are put. -/
theorem Ws.put3 {b N : Nat} {w0 w A : World} {o : Obj} {bs : List Nat} (h : Ws 77 b N w0 w bs) (hg : Grow (A.alloc o) w) (hA : A.heap.size = N) (hb : b < N) {n m q : Int} (h0 : 0 ≤ n) (hn : n ≤ 9223372036854775807) (k0 : 0 ≤ m) (km : m ≤ 9223372036854775807) (q0 : 0 ≤ q) (qm : q ≤ 9223372036854775807) (hlen : bs.length + 30 ≤ 1000000000) {t : TypeId} {g : Nat} (hgw : g = w.heap.size) :
    Calls Try.prog 38 #[.pointer (some ⟨b, 0, none⟩), .slice (some ⟨g, 0, none⟩) 3 3] (w.alloc (.cells #[.int .i64 n, .int .i64 m, .int .i64 q] t)) (fun e w' => e = .returned (.tuple #[]) ∧ ∃ (A' : World) (x' : Ext), w' = ext (A'.alloc o) x' ∧ A'.heap.size = N ∧ Ws 77 b N w0 w' (bs ++ (vput n.toNat ++ (vput m.toNat ++ vput q.toNat)))) := by
  subst hgw
  obtain ⟨v, hv⟩ := h.wri
  have hgr : Grow w (w.alloc (.cells #[.int .i64 n, .int .i64 m, .int .i64 q] t)) := Grow.alloc (Grow.refl _) _
  have hsl : Sl (fun k => k = w.heap.size) (w.alloc (.cells #[.int .i64 n, .int .i64 m, .int .i64 q] t)) (.slice (some ⟨w.heap.size, 0, none⟩) 3 3) [n, m, q] := Sl.mk rfl rfl (by simp) (by omega) (by omega) fun i hi => by
    obtain rfl | rfl | rfl : i = 0 ∨ i = 1 ∨ i = 2 := by simp at hi; omega
    · exact ⟨_, ⟨rfl, by simp only [List.getElem_cons_zero]; omega, by simpa using hn⟩, CellsAt.cons (by simp only [alloc_cell_at]; rfl) (CellsAt.nil _ _ _)⟩
    · exact ⟨_, ⟨rfl, by simp only [List.getElem_cons_zero, List.getElem_cons_succ]; omega, by simpa using km⟩, CellsAt.cons (by simp only [alloc_cell_at]; rfl) (CellsAt.nil _ _ _)⟩
    · exact ⟨_, ⟨rfl, by simp only [List.getElem_cons_zero, List.getElem_cons_succ]; omega, by simpa using qm⟩, CellsAt.cons (by simp only [alloc_cell_at]; rfl) (CellsAt.nil _ _ _)⟩
  refine (writer_put b _ [n, m, q] _ v bs (hv.grow hgr) hsl (fun k hk hlt => by
    subst hk
    exact ⟨by have := hv.lt; omega, fun e => by rw [rowOf_grow hgr hv.lt] at e; have := hv.row_lt _ e; omega⟩) (fun z hm => by simp at hm; rcases hm with rfl | rfl | rfl; exact h0; exact k0; exact q0) (by simpa using hlen)).mono ?_
  rintro e w' ⟨rfl, hw', hc⟩
  exact ⟨rfl, h.step hg hA hb (by simpa [encNs] using hw') ((Chg.of_grow hgr hv.lt).trans hc)⟩
/-- A statement is put. -/
theorem Ws.stmt {b N : Nat} {w0 w A : World} {o : Obj} {bs : List Nat} (h : Ws 77 b N w0 w bs) (hg : Grow (A.alloc o) w) (hA : A.heap.size = N) (hb : b < N) {s : St} (hr : s.wf) (hok : stErr s = 0) (hlen : bs.length + 80 ≤ 1000000000) :
    Calls Try.prog 51 #[.pointer (some ⟨b, 0, none⟩), s.v] w (fun e w' => e = .returned (.tuple #[]) ∧ ∃ (A' : World) (x' : Ext), w' = ext (A'.alloc o) x' ∧ A'.heap.size = N ∧ Ws 77 b N w0 w' (bs ++ encSt s)) := by
  obtain ⟨v, hv⟩ := h.wri
  exact (writer_stmt b s w v bs hv hr hok hlen).mono (by rintro e w' ⟨rfl, hw', hc⟩; exact ⟨rfl, h.step hg hA hb hw' hc⟩)
/-- A jump is put. -/
theorem Ws.jump {b N : Nat} {w0 w A : World} {o : Obj} {bs : List Nat} (h : Ws 77 b N w0 w bs) (hg : Grow (A.alloc o) w) (hA : A.heap.size = N) (hb : b < N) {j : Ju} {av : Value} (hr : j.wf) (hav : Sl (fun k => k < b) w av j.args) (hok : juErr j = 0) (hlen : bs.length + 260 ≤ 1000000000) :
    Calls Try.prog 52 #[.pointer (some ⟨b, 0, none⟩), j.v av] w (fun e w' => e = .returned (.tuple #[]) ∧ ∃ (A' : World) (x' : Ext), w' = ext (A'.alloc o) x' ∧ A'.heap.size = N ∧ Ws 77 b N w0 w' (bs ++ encJu j)) := by
  obtain ⟨v, hv⟩ := h.wri
  exact (writer_jump b j av w v bs hv hr hav hok hlen).mono (by rintro e w' ⟨rfl, hw', hc⟩; exact ⟨rfl, h.step hg hA hb hw' hc⟩)
/-- What the bytes of a function ask of it. -/
structure FnE (f : Fn) : Prop where
  par : 0 ≤ f.params ∧ f.params ≤ 8
  nl : f.locals.length ≤ 16
  ty : ∀ t ∈ f.locals, TyOk t
  nb : f.blocks.length ≤ 24
  bk : ∀ b ∈ f.blocks, b.stmts.length ≤ 24 ∧ (∀ s ∈ b.stmts, stErr s = 0) ∧ juErr b.jump = 0
theorem juErr_args {j : Ju} (h : juErr j = 0) : j.args.length ≤ 8 := by
  rw [juErr_iff] at h
  unfold juOk at h; simp only [Bool.and_eq_true] at h
  have h := h.1
  unfold juPre at h; grind
theorem fnE_of {f : Fn} (h : fnErr f = 0) : FnE f := by
  obtain ⟨h1, h2, _⟩ := fn_good h
  have hp := made_par h2
  unfold small at h1; simp only [Bool.and_eq_true, decide_eq_true_eq, List.all_eq_true] at h1
  refine ⟨⟨hp.1, hp.2.1⟩, h1.1.1, fun t ht => ?_, h1.1.2, fun b hb => ⟨by have := h1.2 b hb; unfold smallBk at this; simpa using this, ?_⟩⟩
  · unfold madeB fnHead at h2; simp only [Bool.and_eq_true, decide_eq_true_eq, List.all_eq_true] at h2
    grind
  · obtain ⟨k, hk, rfl⟩ := List.getElem_of_mem hb
    exact made_at h2 (Lib.hid (List.getElem?_eq_getElem hk))
theorem tyNum_nn {t : Ty} (h : TyOk t) : 0 ≤ tyNum t ∧ tyNum t ≤ 7 := by
  rcases tyOk_cases h with rfl | rfl | rfl | rfl | rfl | rfl | rfl | rfl <;> decide +kernel
end Go.Proofs.Ytafcdabiplcjiaa
