/- Layer 9: encode.Func, encode.Bytes, encode.Size. -/
import Derived.Test.YtafcdabiplcjiaaL09i
import Derived.Test.YtafcdabiplcjiaaL08s
namespace Go.Proofs.Ytafcdabiplcjiaa
open Go.RowKit
set_option linter.unusedSimpArgs false
set_option linter.unusedVariables false

def doneL (bs : List Nat) : List Nat := if 4000 < bs.length then [] else bs
def doneE (bs : List Nat) : Int := if 4000 < bs.length then 18 else 0
def fnL (f : Fn) : List Nat := if fnErr f = 0 then doneL (encFn f) else []
def fnR (f : Fn) : Int := if fnErr f = 0 then doneE (encFn f) else fnErr f
def prL (p : Pr) : List Nat := if prErr p = 0 then doneL (encPr p) else []
def prR (p : Pr) : Int := if prErr p = 0 then doneE (encPr p) else prErr p
theorem Wri.new {T : TypeId} {W : World} {b : Nat} (hb : b = W.heap.size) : Wri T b (W.alloc (.cells #[.slice none 0 0] T)) (.slice none 0 0) [] := by
  subst hb
  exact ⟨by show (W.heap.push _)[_]? = _; simp, Own.nil _ _ _ _⟩
/-- One number is put; the box alone. -/
theorem Wri.put1 {b : Nat} {w : World} {v : Value} {bs : List Nat} (hv : Wri 77 b w v bs) {n : Int} (h0 : 0 ≤ n) (hn : n ≤ 9223372036854775807) (hlen : bs.length + 10 ≤ 1000000000) {t : TypeId} {g : Nat} (hgw : g = w.heap.size) :
    Calls Try.prog 38 #[.pointer (some ⟨b, 0, none⟩), .slice (some ⟨g, 0, none⟩) 1 1] (w.alloc (.cells #[.int .i64 n] t)) (Wrote 77 b w (bs ++ vput n.toNat)) := by
  subst hgw
  have hgr : Grow w (w.alloc (.cells #[.int .i64 n] t)) := Grow.alloc (Grow.refl _) _
  have hsl : Sl (fun k => k = w.heap.size) (w.alloc (.cells #[.int .i64 n] t)) (.slice (some ⟨w.heap.size, 0, none⟩) 1 1) [n] := Sl.one rfl (by simp) (by omega) (by omega) ⟨rfl, by omega, hn⟩ (CellsAt.cons (by simp only [alloc_cell_at]; rfl) (CellsAt.nil _ _ _))
  refine (writer_put b _ [n] _ v bs (hv.grow hgr) hsl (fun k hk hlt => by
    subst hk
    exact ⟨by have := hv.lt; omega, fun e => by rw [rowOf_grow hgr hv.lt] at e; have := hv.row_lt _ e; omega⟩) (fun m hm => by simp at hm; subst hm; exact h0) (by simpa using hlen)).mono ?_
  rintro e w' ⟨rfl, hw', hc⟩
  exact ⟨rfl, by simpa [encNs] using hw', (Chg.of_grow hgr hv.lt).trans hc⟩
set_option maxHeartbeats 1000000 in
theorem writer_done (b : Nat) (w : World) (v : Value) (bs : List Nat) (hW : Wri 77 b w v bs) :
    Calls Try.prog 34 #[.pointer (some ⟨b, 0, none⟩)] w (RetP w fun v w' => ∃ u, v = .tuple #[u, .int .i64 (doneE bs)] ∧ Sl (fun k => b < k) w' u (doneL bs)) := by
  obtain ⟨a, n, cap, rfl, Hn, hn, hown⟩ := hW.own.open'
  have hc := hW.cell
  have hlt := hW.ltw
  have Hs := hown.sl.wide (F' := fun k => b < k) (fun k _ h => by rcases h with h | h; exact h.elim; omega)
  by_cases h : 4000 < n
  · have He : Hid (doneE bs = 18 ∧ doneL bs = []) := Lib.hid (by unfold doneE doneL; rw [← Hn.out, if_pos h, if_pos h]; exact ⟨rfl, rfl⟩)
    go_enter Try.func34, Try.ntmps34
    go_wp2_with fail
    refine postP_of (by simp only [results, Try.results34]; go_simp <;> rfl) rfl (by (repeat (first | (with_reducible exact Grow.refl _) | assumption | refine Grow.ext ?_ _ | refine Grow.alloc ?_ _ | refine Grow.drew ?_ | refine Grow.setCell ?_ (by first | (simp; done) | (simp; omega)) _ | refine Grow.trans ?_ (by assumption)))) ⟨_, by rw [He.out.1], ?_⟩
    rw [He.out.2]; exact Sl.nil _ _
  · have He : Hid (doneE bs = 0 ∧ doneL bs = bs) := Lib.hid (by unfold doneE doneL; rw [← Hn.out, if_neg h, if_neg h]; exact ⟨rfl, rfl⟩)
    go_enter Try.func34, Try.ntmps34
    go_wp2_with fail
    refine postP_of (by simp only [results, Try.results34]; go_simp <;> rfl) rfl (by (repeat (first | (with_reducible exact Grow.refl _) | assumption | refine Grow.ext ?_ _ | refine Grow.alloc ?_ _ | refine Grow.drew ?_ | refine Grow.setCell ?_ (by first | (simp; done) | (simp; omega)) _ | refine Grow.trans ?_ (by assumption)))) ⟨_, by rw [He.out.1], ?_⟩
    rw [He.out.2]; exact Hs
set_option maxRecDepth 100000 in
set_option maxHeartbeats 2000000 in
theorem encode_Func (f : Fn) (v1 v2 : Value) (w : World) {F F' : Nat → Prop} (hf : f.wf) (h1 : Sl F w v1 f.locals) (h2 : Sl F' w v2 f.blocks) :
    Calls Try.prog 11 #[f.v v1 v2] w (RetP w fun v w' => ∃ u, v = .tuple #[u, .int .i64 (fnR f)] ∧ Sl (Fresh w) w' u (fnL f)) := by
  have h1 := h1.old; have h2 := h2.old
  obtain ⟨a, n, cap, rfl, Hn, hm, hcap, hcm, h1⟩ := h1.open
  obtain ⟨a2, n2, cap2, rfl, Hn2, hm2, hcap2, hcm2, h2⟩ := h2.open
  cases he : (fnErr f != 0)
  · have Hok : Hid (fnErr f = 0) := Lib.hid (by simpa using he)
    have He : Hid (fnR f = doneE (encFn f) ∧ fnL f = doneL (encFn f)) := Lib.hid (by unfold fnR fnL; rw [if_pos Hok.out, if_pos Hok.out]; exact ⟨rfl, rfl⟩)
    go_enter Try.func11, Try.ntmps11
    go_wp2_with (first
      | (go_at_call 32; ((with_reducible refine (fnshape_Check f _ _ _ hf (h1.mono (by (repeat (first | (with_reducible exact Grow.refl _) | assumption | refine Grow.ext ?_ _ | refine Grow.alloc ?_ _ | refine Grow.drew ?_ | refine Grow.setCell ?_ (by first | (simp; done) | (simp; omega)) _ | refine Grow.trans ?_ (by assumption))))) (h2.mono (by (repeat (first | (with_reducible exact Grow.refl _) | assumption | refine Grow.ext ?_ _ | refine Grow.alloc ?_ _ | refine Grow.drew ?_ | refine Grow.setCell ?_ (by first | (simp; done) | (simp; omega)) _ | refine Grow.trans ?_ (by assumption)))))).mono ?_); rintro e w1 ⟨rfl, hb1⟩; obtain ⟨x1, rfl⟩ := ext_of_grow hb1; clear hb1))
      | (go_at_call 33; (refine (writer_function (w.heap.size + 1 + x1.k) f _ _ _ _ [] (Wri.new (by simp)) hf ((h1.mono (by (repeat (first | (with_reducible exact Grow.refl _) | assumption | refine Grow.ext ?_ _ | refine Grow.alloc ?_ _ | refine Grow.drew ?_ | refine Grow.setCell ?_ (by first | (simp; done) | (simp; omega)) _ | refine Grow.trans ?_ (by assumption))))).wide (fun k _ hk => by have : k < w.heap.size := hk; omega)) ((h2.mono (by (repeat (first | (with_reducible exact Grow.refl _) | assumption | refine Grow.ext ?_ _ | refine Grow.alloc ?_ _ | refine Grow.drew ?_ | refine Grow.setCell ?_ (by first | (simp; done) | (simp; omega)) _ | refine Grow.trans ?_ (by assumption))))).wide (fun k _ hk => by have : k < w.heap.size := hk; omega)) (fnE_of Hok.out) (by simp)).mono ?_); rintro e w2 ⟨rfl, ⟨vw, hW2⟩, hC2⟩)
      | (go_at_call 34; (refine (writer_done _ _ _ _ hW2).mono ?_); rintro e w3 ⟨_, rfl, ⟨u, rfl, hs3⟩, hb3⟩; obtain ⟨x3, rfl⟩ := ext_of_grow hb3; clear hb3))
    have hg2 : Grow w w2 := hC2.to_grow (Wri.new (T := 77) (by simp)) (W := w) (by (repeat (first | (with_reducible exact Grow.refl _) | assumption | refine Grow.ext ?_ _ | refine Grow.alloc ?_ _ | refine Grow.drew ?_ | refine Grow.setCell ?_ (by first | (simp; done) | (simp; omega)) _ | refine Grow.trans ?_ (by assumption)))) (by omega)
    refine postP_of (by simp only [results, Try.results11]; go_simp <;> rfl) rfl (by (repeat (first | (with_reducible exact Grow.refl _) | assumption | refine Grow.ext ?_ _ | refine Grow.alloc ?_ _ | refine Grow.drew ?_ | refine Grow.setCell ?_ (by first | (simp; done) | (simp; omega)) _ | refine Grow.trans ?_ (by assumption)))) ⟨_, by rw [He.out.1], ?_⟩
    rw [He.out.2]; exact hs3.wide (fun k _ hk => Or.inr (by omega))
  · have He : Hid (fnR f = fnErr f ∧ fnL f = []) := Lib.hid (by have h : ¬ fnErr f = 0 := (by simpa using he); unfold fnR fnL; rw [if_neg h, if_neg h]; exact ⟨rfl, rfl⟩)
    go_enter Try.func11, Try.ntmps11
    go_wp2_with (first
      | (go_at_call 32; ((with_reducible refine (fnshape_Check f _ _ _ hf (h1.mono (by (repeat (first | (with_reducible exact Grow.refl _) | assumption | refine Grow.ext ?_ _ | refine Grow.alloc ?_ _ | refine Grow.drew ?_ | refine Grow.setCell ?_ (by first | (simp; done) | (simp; omega)) _ | refine Grow.trans ?_ (by assumption))))) (h2.mono (by (repeat (first | (with_reducible exact Grow.refl _) | assumption | refine Grow.ext ?_ _ | refine Grow.alloc ?_ _ | refine Grow.drew ?_ | refine Grow.setCell ?_ (by first | (simp; done) | (simp; omega)) _ | refine Grow.trans ?_ (by assumption)))))).mono ?_); rintro e w1 ⟨rfl, hb1⟩; obtain ⟨x1, rfl⟩ := ext_of_grow hb1; clear hb1)))
    refine postP_of (by simp only [results, Try.results11]; go_simp <;> rfl) rfl (by (repeat (first | (with_reducible exact Grow.refl _) | assumption | refine Grow.ext ?_ _ | refine Grow.alloc ?_ _ | refine Grow.drew ?_ | refine Grow.setCell ?_ (by first | (simp; done) | (simp; omega)) _ | refine Grow.trans ?_ (by assumption)))) ⟨_, by rw [He.out.1], ?_⟩
    rw [He.out.2]; exact Sl.nil _ _
theorem encFns_le {l : List Fn} (h : ∀ f ∈ l, fnErr f = 0) (k : Nat) (hk : l.length ≤ 8) : ((l.take k).flatMap encFn).length ≤ 640000 := by
  have e := flatMap_le (l := l.take k) (f := encFn) (m := 80000) (fun x hx => by
    have hE := fnE_of (h x (List.mem_of_mem_take hx))
    exact encFn_le hE.nl hE.nb (fun b hb => ⟨(hE.bk b hb).1, juErr_args (hE.bk b hb).2.2⟩))
  rw [List.length_take] at e; omega
set_option maxRecDepth 100000 in
set_option maxHeartbeats 2000000 in
theorem encode_Bytes (p : Pr) (pv : Value) (w : World) {F : Nat → Prop} (hp : Sl F w pv p.funcs) :
    Calls Try.prog 16 #[p.v pv] w (RetP w fun v w' => ∃ u, v = .tuple #[u, .int .i64 (prR p)] ∧ Sl (Fresh w) w' u (prL p)) := by
  have hp := hp.old
  obtain ⟨a, n, cap, rfl, Hn, hm, hcap, hcm, hp⟩ := hp.open
  cases he : (prErr p != 0)
  · have Hok : Hid (prErr p = 0) := Lib.hid (by simpa using he)
    have H8 := Lib.hid (pr_ok Hok.out)
    have hn8 : n ≤ 8 := by rw [Hn.out]; exact H8.out.2.1
    have He : Hid (prR p = doneE (encPr p) ∧ prL p = doneL (encPr p)) := Lib.hid (by unfold prR prL; rw [if_pos Hok.out, if_pos Hok.out]; exact ⟨rfl, rfl⟩)
    go_enter Try.func16, Try.ntmps16
    go_wp2_with (first
      | (go_at_call 37; ((with_reducible refine (program_Check p _ _ (hp.mono (by (repeat (first | (with_reducible exact Grow.refl _) | assumption | refine Grow.ext ?_ _ | refine Grow.alloc ?_ _ | refine Grow.drew ?_ | refine Grow.setCell ?_ (by first | (simp; done) | (simp; omega)) _ | refine Grow.trans ?_ (by assumption)))))).mono ?_); rintro e w1 ⟨rfl, hb1⟩; obtain ⟨x1, rfl⟩ := ext_of_grow hb1; clear hb1))
      | (go_at_call 38; ((with_reducible refine (Wri.put1 (b := w.heap.size + 1 + x1.k) (Wri.new (by simp)) (by omega) (by omega) (by simp) (by simp)).mono ?_); rintro e w2 ⟨rfl, ⟨v2, hW2⟩, hC2⟩; obtain ⟨y2, rfl⟩ := ext_of_grow (hC2.to_grow (Wri.new (T := 77) (by simp)) (W := ext (w.alloc (Obj.cells #[.slice a n cap] 35)) x1) (by (repeat (first | (with_reducible exact Grow.refl _) | assumption | refine Grow.ext ?_ _ | refine Grow.alloc ?_ _ | refine Grow.drew ?_ | refine Grow.setCell ?_ (by first | (simp; done) | (simp; omega)) _ | refine Grow.trans ?_ (by assumption)))) (by simp)))))
    clear hC2
    go_loopw [21] (fun i wr => ∃ (k : Nat) (vk : Value) (y : Ext), k ≤ n ∧ i = .int .i64 k ∧ wr = ext (ext (w.alloc (Obj.cells #[.slice a n cap] 35)) x1) y ∧ Wri 77 (w.heap.size + 1 + x1.k) wr vk (vput ((n : Int)).toNat ++ (p.funcs.take k).flatMap encFn)) (fun i _ => n - (intOf i).toNat)
    case atStart => exact ⟨0, v2, y2, Nat.zero_le _, rfl, rfl, by simpa using hW2⟩
    clear hW2
    clear y2 v2
    case round =>
      obtain ⟨k, vk, y, hk, rfl, rfl, hWk⟩ := hrel
      by_cases hlt : k < n
      · have hpk : Sl (fun k => k < w.heap.size + 1 + x1.k) _ _ _ := (hp.mono (w' := ext (ext (w.alloc (Obj.cells #[.slice a n cap] 35)) x1) y) (by (repeat (first | (with_reducible exact Grow.refl _) | assumption | refine Grow.ext ?_ _ | refine Grow.alloc ?_ _ | refine Grow.drew ?_ | refine Grow.setCell ?_ (by first | (simp; done) | (simp; omega)) _ | refine Grow.trans ?_ (by assumption))))).wide (fun k _ hk => by have : k < w.heap.size := hk; omega)
        obtain ⟨b_f, off_f, f, f_locals_a, f_locals_n, f_locals_c, f_blocks_a, f_blocks_n, f_blocks_c, rfl, ⟨Hg_f, hl_f, hw_f, f_locals, f_blocks, c_f0, c_f1, c_f2, c_f3, r_f0⟩⟩ := hpk.fn k hlt
        have Hfe := Lib.hid (fnE_of (H8.out.2.2.1 f (List.mem_of_getElem? Hg_f.out)))
        have hlk : (vput ((n : Int)).toNat ++ (p.funcs.take k).flatMap encFn).length ≤ 640010 := by
          have e1 := vput_le ((n : Int)).toNat
          have e2 := encFns_le H8.out.2.2.1 k H8.out.2.1
          rw [List.length_append]; omega
        have Hsn : Hid (vput ((n : Int)).toNat ++ (p.funcs.take (k + 1)).flatMap encFn = vput ((n : Int)).toNat ++ (p.funcs.take k).flatMap encFn ++ encFn f) := Lib.hid (by rw [flatMap_take Hg_f, List.append_assoc])
        go_wp2_with (first
          | (go_at_call 33; (refine (writer_function (w.heap.size + 1 + x1.k) f _ _ _ _ _ (hWk.grow (by (repeat (first | (with_reducible exact Grow.refl _) | assumption | refine Grow.ext ?_ _ | refine Grow.alloc ?_ _ | refine Grow.drew ?_ | refine Grow.setCell ?_ (by first | (simp; done) | (simp; omega)) _ | refine Grow.trans ?_ (by assumption))))) hw_f (f_locals.mono (by (repeat (first | (with_reducible exact Grow.refl _) | assumption | refine Grow.ext ?_ _ | refine Grow.alloc ?_ _ | refine Grow.drew ?_ | refine Grow.setCell ?_ (by first | (simp; done) | (simp; omega)) _ | refine Grow.trans ?_ (by assumption))))) (f_blocks.mono (by (repeat (first | (with_reducible exact Grow.refl _) | assumption | refine Grow.ext ?_ _ | refine Grow.alloc ?_ _ | refine Grow.drew ?_ | refine Grow.setCell ?_ (by first | (simp; done) | (simp; omega)) _ | refine Grow.trans ?_ (by assumption))))) Hfe.out (by omega)).mono ?_); rintro e w2 ⟨rfl, ⟨v2, hW2⟩, hC2⟩; obtain ⟨y2, rfl⟩ := ext_of_grow (hC2.to_grow (hWk.grow (by (repeat (first | (with_reducible exact Grow.refl _) | assumption | refine Grow.ext ?_ _ | refine Grow.alloc ?_ _ | refine Grow.drew ?_ | refine Grow.setCell ?_ (by first | (simp; done) | (simp; omega)) _ | refine Grow.trans ?_ (by assumption))))) (W := ext (w.alloc (Obj.cells #[.slice (some ⟨b_f, off_f, none⟩) n cap] 35)) x1) (by (repeat (first | (with_reducible exact Grow.refl _) | assumption | refine Grow.ext ?_ _ | refine Grow.alloc ?_ _ | refine Grow.drew ?_ | refine Grow.setCell ?_ (by first | (simp; done) | (simp; omega)) _ | refine Grow.trans ?_ (by assumption)))) (by simp))))
        go_roundw
        case rel => exact ⟨k + 1, v2, y2, by omega, by go_num, rfl, by rw [Hsn.out]; exact hW2⟩
        case measure => simp [intOf]; omega
      · obtain rfl : k = n := by omega
        have hend : p.funcs.take k = p.funcs := List.take_of_length_le (by rw [← Hn.out]; omega)
        have Hall : Hid (vput ((k : Int)).toNat ++ p.funcs.flatMap encFn = encPr p) := Lib.hid (by unfold encPr; rw [← Hn.out]; rfl)
        rw [hend, Hall.out] at hWk
        go_wp2_with (first
          | (go_at_call 34; (refine (writer_done _ _ _ _ hWk).mono ?_); rintro e w3 ⟨_, rfl, ⟨u, rfl, hs3⟩, hb3⟩; obtain ⟨x3, rfl⟩ := ext_of_grow hb3; clear hb3))
        refine postP_of (by simp only [results, Try.results16]; go_simp <;> rfl) rfl (by (repeat (first | (with_reducible exact Grow.refl _) | assumption | refine Grow.ext ?_ _ | refine Grow.alloc ?_ _ | refine Grow.drew ?_ | refine Grow.setCell ?_ (by first | (simp; done) | (simp; omega)) _ | refine Grow.trans ?_ (by assumption)))) ⟨_, by rw [He.out.1], ?_⟩
        rw [He.out.2]; exact hs3.wide (fun k _ hk => Or.inr (by omega))
  · have He : Hid (prR p = prErr p ∧ prL p = []) := Lib.hid (by have h : ¬ prErr p = 0 := (by simpa using he); unfold prR prL; rw [if_neg h, if_neg h]; exact ⟨rfl, rfl⟩)
    go_enter Try.func16, Try.ntmps16
    go_wp2_with (first
      | (go_at_call 37; ((with_reducible refine (program_Check p _ _ (hp.mono (by (repeat (first | (with_reducible exact Grow.refl _) | assumption | refine Grow.ext ?_ _ | refine Grow.alloc ?_ _ | refine Grow.drew ?_ | refine Grow.setCell ?_ (by first | (simp; done) | (simp; omega)) _ | refine Grow.trans ?_ (by assumption)))))).mono ?_); rintro e w1 ⟨rfl, hb1⟩; obtain ⟨x1, rfl⟩ := ext_of_grow hb1; clear hb1)))
    refine postP_of (by simp only [results, Try.results16]; go_simp <;> rfl) rfl (by (repeat (first | (with_reducible exact Grow.refl _) | assumption | refine Grow.ext ?_ _ | refine Grow.alloc ?_ _ | refine Grow.drew ?_ | refine Grow.setCell ?_ (by first | (simp; done) | (simp; omega)) _ | refine Grow.trans ?_ (by assumption)))) ⟨_, by rw [He.out.1], ?_⟩
    rw [He.out.2]; exact Sl.nil _ _
set_option maxHeartbeats 1000000 in
theorem encode_Size (p : Pr) (pv : Value) (w : World) {F : Nat → Prop} (hp : Sl F w pv p.funcs) :
    Calls Try.prog 21 #[p.v pv] w (Ret w (.tuple #[.int .i64 (prL p).length, .int .i64 (prR p)])) := by
  obtain ⟨a, n, cap, rfl, Hn, hm, hcap, hcm, hp⟩ := hp.open
  go_enter Try.func21, Try.ntmps21
  go_wp2_with (first
    | (go_at_call 16; (refine (encode_Bytes p _ _ (hp.mono (by (repeat (first | (with_reducible exact Grow.refl _) | assumption | refine Grow.ext ?_ _ | refine Grow.alloc ?_ _ | refine Grow.drew ?_ | refine Grow.setCell ?_ (by first | (simp; done) | (simp; omega)) _ | refine Grow.trans ?_ (by assumption)))))).mono ?_); rintro e w3 ⟨_, rfl, ⟨u, rfl, hs3⟩, hb3⟩; obtain ⟨a3, n3, c3, rfl, Hn3, hm3, hcap3, hcm3, hs3⟩ := hs3.open; obtain ⟨x3, rfl⟩ := ext_of_grow hb3; clear hb3))
  go_ret2
  exact Ret.mk (by first | rfl | (rw [← Hn3.out]; rfl) | (rw [Hn3.out]; rfl)) (by (repeat (first | (with_reducible exact Grow.refl _) | assumption | refine Grow.ext ?_ _ | refine Grow.alloc ?_ _ | refine Grow.drew ?_ | refine Grow.setCell ?_ (by first | (simp; done) | (simp; omega)) _ | refine Grow.trans ?_ (by assumption))))
end Go.Proofs.Ytafcdabiplcjiaa
