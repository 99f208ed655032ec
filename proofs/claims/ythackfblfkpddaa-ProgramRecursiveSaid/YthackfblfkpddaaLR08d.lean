/- Layer 8: the law ProgramRecursive. Printed by gen08r.py. -/
import Derived.Test.YthackfblfkpddaaLR08c
import Derived.Test.YthackfblfkpddaaL08a
namespace Go.Proofs.Ythackfblfkpddaa
open Go.RowKit
set_option linter.unusedSimpArgs false
set_option linter.unusedVariables false

theorem hide_wp9 {P : Program} {Q : Exit → Act → World → Prop} {c : Code} {a : Act} {w : World} (h : ∀ a0 : Act, Hid (a0 = a) → c.wp P Q a0 w) : c.wp P Q a w := h a (Lib.hid rfl)
def ph20 (g n qc p13 cm : Nat) (A0 A1 A2 A3 B0 B1 B2 B3 : Value) (V : World) (i : Nat) (vs : Nat → Value) (w : World) : Prop :=
  match i with
  | 0 => vs 0 = .pointer (some ⟨p13, 0, none⟩)
  | 1 => vs 1 = .slice (some ⟨g, 0, none⟩) n qc
  | 2 => vs 2 = .pointer (some ⟨p13, 0, none⟩)
  | 3 => vs 3 = .slice (some ⟨g, 0, none⟩) n qc
  | 4 => vs 4 = .int .i64 (cm : Nat)
  | 5 => vs 5 = .pointer (some ⟨p13, 0, none⟩)
  | 6 => vs 6 = .slice (some ⟨g, 0, none⟩) n qc
  | 7 => vs 7 = .int .i64 (cm : Nat)
  | 8 => vs 8 = .pointer (some ⟨g, cm * 4, none⟩)
  | 9 => vs 9 = .agg #[B0, B1, B2, B3]
  | 10 => vs 10 = .pointer (some ⟨p13, 0, none⟩)
  | 11 => vs 11 = .slice (some ⟨g, 0, none⟩) n qc
  | 12 => vs 12 = .pointer (some ⟨g, 0, none⟩)
  | 13 => vs 13 = .agg #[A0, A1, A2, A3]
  | 14 => vs 14 = .pointer (some ⟨g, 0, none⟩)
  | 15 => ∃ x, w = ext V x
  | 16 => vs 16 = .pointer (some ⟨g, cm * 4, none⟩)
  | _ => True
theorem ph20_stay (W : World) (g n qc p13 cm : Nat) (A0 A1 A2 A3 B0 B1 B2 B3 : Value) (V : World) (i : Nat) (vs : Nat → Value) (w w' : World) (h : TwoW W V w w') (q : ph20 g n qc p13 cm A0 A1 A2 A3 B0 B1 B2 B3 V i vs w) : ph20 g n qc p13 cm A0 A1 A2 A3 B0 B1 B2 B3 V i vs w' := by
  unfold ph20 at q ⊢
  split at q <;> first
    | exact q
    | exact h.2 q
theorem ph20_loc (g n qc p13 cm : Nat) (A0 A1 A2 A3 B0 B1 B2 B3 : Value) (V : World) (D : Nat → List Nat) (i : Nat) (vs vs' : Nat → Value) (w : World) (h : ∀ j, j = i ∨ j ∈ D i → vs j = vs' j) (q : ph20 g n qc p13 cm A0 A1 A2 A3 B0 B1 B2 B3 V i vs w) : ph20 g n qc p13 cm A0 A1 A2 A3 B0 B1 B2 B3 V i vs' w := by
  unfold ph20 at q ⊢
  split at q <;> (try dsimp only at q ⊢) <;> first
    | (rw [← h _ (Or.inl rfl)]; exact q)
    | exact q
    | trivial
set_option maxRecDepth 100000 in
set_option maxHeartbeats 32000000 in
theorem law_ProgramRecursive (p : Pr) (pv : Value) (f : Int) (w : World) {F : Nat → Prop} (hpw : p.wf) (hp : Sl F w pv p.funcs) (hf : I64 f) :
    Calls Try.prog 4 #[p.v pv, .int .i64 f] w (Ret w (.bool true)) := by
  obtain ⟨a, n, cap, rfl, Hn, hm, hcap, hcm, hp⟩ := hp.open
  cases hg : bigPr 12 p
  case true =>
    go_enter Try.func4, Try.ntmps4
    go_wp2_with (first | (go_at_call 14; ((with_reducible refine (ref08_Great p _ _ (hp.mono (by (repeat (first | (with_reducible exact Grow.refl _) | assumption | refine Grow.ext ?_ _ | refine Grow.alloc ?_ _ | refine Grow.drew ?_ | refine Grow.setCell ?_ (by first | (simp; done) | (simp; omega)) _ | refine Grow.trans ?_ (by assumption)))))).mono ?_); rintro e w1 ⟨rfl, hb1⟩; obtain ⟨x1, rfl⟩ := ext_of_grow hb1; clear hb1)) | (go_at_call 15; ((with_reducible refine (ref08_Check p _ _ (hp.mono (by (repeat (first | (with_reducible exact Grow.refl _) | assumption | refine Grow.ext ?_ _ | refine Grow.alloc ?_ _ | refine Grow.drew ?_ | refine Grow.setCell ?_ (by first | (simp; done) | (simp; omega)) _ | refine Grow.trans ?_ (by assumption)))))).mono ?_); rintro e w2 ⟨rfl, hb2⟩; obtain ⟨x2, rfl⟩ := ext_of_grow hb2; clear hb2)) | (go_at_call 16; ((with_reducible refine (law08_alive _).mono ?_); rintro e w3 ⟨rfl, hb3⟩; obtain ⟨x3, rfl⟩ := ext_of_grow hb3; clear hb3)))
    go_ret
    exact Ret.bool rfl (by (repeat (first | (with_reducible exact Grow.refl _) | assumption | refine Grow.ext ?_ _ | refine Grow.alloc ?_ _ | refine Grow.drew ?_ | refine Grow.setCell ?_ (by first | (simp; done) | (simp; omega)) _ | refine Grow.trans ?_ (by assumption))))
  cases hpe : (prErr p != 0)
  case true =>
    go_enter Try.func4, Try.ntmps4
    go_wp2_with (first | (go_at_call 14; ((with_reducible refine (ref08_Great p _ _ (hp.mono (by (repeat (first | (with_reducible exact Grow.refl _) | assumption | refine Grow.ext ?_ _ | refine Grow.alloc ?_ _ | refine Grow.drew ?_ | refine Grow.setCell ?_ (by first | (simp; done) | (simp; omega)) _ | refine Grow.trans ?_ (by assumption)))))).mono ?_); rintro e w1 ⟨rfl, hb1⟩; obtain ⟨x1, rfl⟩ := ext_of_grow hb1; clear hb1)) | (go_at_call 15; ((with_reducible refine (ref08_Check p _ _ (hp.mono (by (repeat (first | (with_reducible exact Grow.refl _) | assumption | refine Grow.ext ?_ _ | refine Grow.alloc ?_ _ | refine Grow.drew ?_ | refine Grow.setCell ?_ (by first | (simp; done) | (simp; omega)) _ | refine Grow.trans ?_ (by assumption)))))).mono ?_); rintro e w2 ⟨rfl, hb2⟩; obtain ⟨x2, rfl⟩ := ext_of_grow hb2; clear hb2)) | (go_at_call 16; ((with_reducible refine (law08_alive _).mono ?_); rintro e w3 ⟨rfl, hb3⟩; obtain ⟨x3, rfl⟩ := ext_of_grow hb3; clear hb3)))
    go_ret
    exact Ret.bool rfl (by (repeat (first | (with_reducible exact Grow.refl _) | assumption | refine Grow.ext ?_ _ | refine Grow.alloc ?_ _ | refine Grow.drew ?_ | refine Grow.setCell ?_ (by first | (simp; done) | (simp; omega)) _ | refine Grow.trans ?_ (by assumption))))
  by_cases hf0 : f < 0
  case pos =>
    have hf0' : decide (f < 0) = true := by simpa using hf0
    go_enter Try.func4, Try.ntmps4
    go_wp2_with (first | (go_at_call 14; ((with_reducible refine (ref08_Great p _ _ (hp.mono (by (repeat (first | (with_reducible exact Grow.refl _) | assumption | refine Grow.ext ?_ _ | refine Grow.alloc ?_ _ | refine Grow.drew ?_ | refine Grow.setCell ?_ (by first | (simp; done) | (simp; omega)) _ | refine Grow.trans ?_ (by assumption)))))).mono ?_); rintro e w1 ⟨rfl, hb1⟩; obtain ⟨x1, rfl⟩ := ext_of_grow hb1; clear hb1)) | (go_at_call 15; ((with_reducible refine (ref08_Check p _ _ (hp.mono (by (repeat (first | (with_reducible exact Grow.refl _) | assumption | refine Grow.ext ?_ _ | refine Grow.alloc ?_ _ | refine Grow.drew ?_ | refine Grow.setCell ?_ (by first | (simp; done) | (simp; omega)) _ | refine Grow.trans ?_ (by assumption)))))).mono ?_); rintro e w2 ⟨rfl, hb2⟩; obtain ⟨x2, rfl⟩ := ext_of_grow hb2; clear hb2)) | (go_at_call 16; ((with_reducible refine (law08_alive _).mono ?_); rintro e w3 ⟨rfl, hb3⟩; obtain ⟨x3, rfl⟩ := ext_of_grow hb3; clear hb3)))
    go_ret
    exact Ret.bool rfl (by (repeat (first | (with_reducible exact Grow.refl _) | assumption | refine Grow.ext ?_ _ | refine Grow.alloc ?_ _ | refine Grow.drew ?_ | refine Grow.setCell ?_ (by first | (simp; done) | (simp; omega)) _ | refine Grow.trans ?_ (by assumption))))
  by_cases hfn : (n : Int) ≤ f
  case pos =>
    have hf0' : decide (f < 0) = false := by simpa using hf0
    have hfn' : decide ((n : Int) ≤ f) = true := by simpa using hfn
    go_enter Try.func4, Try.ntmps4
    go_wp2_with (first | (go_at_call 14; ((with_reducible refine (ref08_Great p _ _ (hp.mono (by (repeat (first | (with_reducible exact Grow.refl _) | assumption | refine Grow.ext ?_ _ | refine Grow.alloc ?_ _ | refine Grow.drew ?_ | refine Grow.setCell ?_ (by first | (simp; done) | (simp; omega)) _ | refine Grow.trans ?_ (by assumption)))))).mono ?_); rintro e w1 ⟨rfl, hb1⟩; obtain ⟨x1, rfl⟩ := ext_of_grow hb1; clear hb1)) | (go_at_call 15; ((with_reducible refine (ref08_Check p _ _ (hp.mono (by (repeat (first | (with_reducible exact Grow.refl _) | assumption | refine Grow.ext ?_ _ | refine Grow.alloc ?_ _ | refine Grow.drew ?_ | refine Grow.setCell ?_ (by first | (simp; done) | (simp; omega)) _ | refine Grow.trans ?_ (by assumption)))))).mono ?_); rintro e w2 ⟨rfl, hb2⟩; obtain ⟨x2, rfl⟩ := ext_of_grow hb2; clear hb2)) | (go_at_call 16; ((with_reducible refine (law08_alive _).mono ?_); rintro e w3 ⟨rfl, hb3⟩; obtain ⟨x3, rfl⟩ := ext_of_grow hb3; clear hb3)))
    go_ret
    exact Ret.bool rfl (by (repeat (first | (with_reducible exact Grow.refl _) | assumption | refine Grow.ext ?_ _ | refine Grow.alloc ?_ _ | refine Grow.drew ?_ | refine Grow.setCell ?_ (by first | (simp; done) | (simp; omega)) _ | refine Grow.trans ?_ (by assumption))))
  obtain ⟨fN, rfl⟩ := Int.eq_ofNat_of_zero_le (by omega : 0 ≤ f)
  have hfN : fN < n := by omega
  have hd0 : decide ((fN : Int) < 0) = false := by simp
  have hd1 : decide ((n : Int) ≤ (fN : Int)) = false := by simp; omega
  have hd1' : decide (n ≤ fN) = false := by simp; omega
  clear hf0 hfn
  have Hok : Hid (prErr p = 0) := Lib.hid (by simpa using hpe)
  have Hg := Lib.hid hg
  have H8 := Lib.hid (pr_ok Hok.out)
  have hn8 : n ≤ 8 := by rw [Hn.out]; exact H8.out.2.1
  have hn0 : 0 < n := by rw [Hn.out]; exact H8.out.1
  go_enter Try.func4, Try.ntmps4
  go_wp2_with (first | (go_at_call 14; ((with_reducible refine (ref08_Great p _ _ (hp.mono (by (repeat (first | (with_reducible exact Grow.refl _) | assumption | refine Grow.ext ?_ _ | refine Grow.alloc ?_ _ | refine Grow.drew ?_ | refine Grow.setCell ?_ (by first | (simp; done) | (simp; omega)) _ | refine Grow.trans ?_ (by assumption)))))).mono ?_); rintro e w1 ⟨rfl, hb1⟩; obtain ⟨x1, rfl⟩ := ext_of_grow hb1; clear hb1)) | (go_at_call 15; ((with_reducible refine (ref08_Check p _ _ (hp.mono (by (repeat (first | (with_reducible exact Grow.refl _) | assumption | refine Grow.ext ?_ _ | refine Grow.alloc ?_ _ | refine Grow.drew ?_ | refine Grow.setCell ?_ (by first | (simp; done) | (simp; omega)) _ | refine Grow.trans ?_ (by assumption)))))).mono ?_); rintro e w2 ⟨rfl, hb2⟩; obtain ⟨x2, rfl⟩ := ext_of_grow hb2; clear hb2)) | (go_at_call 16; ((with_reducible refine (law08_alive _).mono ?_); rintro e w3 ⟨rfl, hb3⟩; obtain ⟨x3, rfl⟩ := ext_of_grow hb3; clear hb3)))
  clear hg hpe hd0 hd1 hd1'
  go_loopw [5] (fun i wr => ∃ (q : Nat) (y : Ext), q ≤ n ∧ i = .int .i64 q ∧ wr = ext (w.alloc (Obj.cells #[.slice a n cap] 43)) y ∧ Hid (∀ i g, i < q → p.funcs[i]? = some g → g.params ≤ 0)) (fun i _ => n - (intOf i).toNat)
  case atStart =>
    obtain ⟨y, hy⟩ := ext_of_grow (W := w.alloc (Obj.cells #[.slice a n cap] 43)) (w := ext (ext (w.alloc (Obj.cells #[.slice a n cap] 43)) x1) x2) (by (repeat (first | (with_reducible exact Grow.refl _) | assumption | refine Grow.ext ?_ _ | refine Grow.alloc ?_ _ | refine Grow.drew ?_ | refine Grow.setCell ?_ (by first | (simp; done) | (simp; omega)) _ | refine Grow.trans ?_ (by assumption))))
    exact ⟨0, y, by omega, rfl, hy, Lib.hid (fun i _ hi => by omega)⟩
  case round =>
    obtain ⟨q, y, hq, rfl, rfl, Hq⟩ := hrel
    by_cases hlt : q < n
    · obtain ⟨b_g, off_g, g, g_locals_a, g_locals_n, g_locals_c, g_blocks_a, g_blocks_n, g_blocks_c, rfl, ⟨Hg_g, hl_g, hw_g, g_locals, g_blocks, c_g0, c_g1, c_g2, c_g3, r_g0⟩⟩ := hp.fn q hlt
      have hlt8 : (q : Int) < n := by omega
      by_cases hpos : 0 < g.params
      · have hpos' : decide (0 < g.params) = true := by simpa using hpos
        go_wp2_with (first | (go_at_call 16; ((with_reducible refine (law08_alive _).mono ?_); rintro e w3 ⟨rfl, hb3⟩; obtain ⟨x3, rfl⟩ := ext_of_grow hb3; clear hb3)))
        go_ret
        exact Ret.bool rfl (by (repeat (first | (with_reducible exact Grow.refl _) | assumption | refine Grow.ext ?_ _ | refine Grow.alloc ?_ _ | refine Grow.drew ?_ | refine Grow.setCell ?_ (by first | (simp; done) | (simp; omega)) _ | refine Grow.trans ?_ (by assumption))))
      · have hpos' : decide (0 < g.params) = false := by simpa using hpos
        go_wp2_with fail
        go_roundw
        case rel => exact ⟨q + 1, y, by omega, by go_num, rfl, Lib.hid (fun i g' hi hg' => by
          by_cases hiq : i = q
          · subst hiq; rw [Hg_g.out] at hg'; obtain rfl := Option.some.inj hg'; omega
          · exact Hq.out i g' (by omega) hg')⟩
        case measure => simp [intOf]; omega
    · obtain rfl : n = q := by omega
      clear hlt hq
      have Hall : Hid (∀ g ∈ p.funcs, g.params ≤ 0) := Lib.hid (fun g hg' => by
        obtain ⟨i, hi⟩ := List.getElem?_of_mem hg'
        exact Hq.out i g (by rw [Hn.out]; exact (List.getElem?_eq_some_iff.1 hi).1) hi)
      clear Hq
      obtain ⟨b_x, off_x, x, x_locals_a, x_locals_n, x_locals_c, x_blocks_a, x_blocks_n, x_blocks_c, rfl, ⟨Hg_x, hl_x, hw_x, x_locals, x_blocks, c_x0, c_x1, c_x2, c_x3, r_x0⟩⟩ := hp.fn fN hfN
      have Hfx := Lib.hid (H8.out.2.2.1 x (List.mem_of_getElem? Hg_x.out))
      obtain ⟨B, HB⟩ : ∃ B, Hid (recB p fN = B) := ⟨_, Lib.hid rfl⟩
      have HR : Hid (recP p (fN : Int) = (B, 0)) := Lib.hid (by
        unfold recP
        rw [if_neg (by simpa using Hok.out), if_neg (by rw [← Hn.out]; omega), show ((fN : Int)).toNat = fN from rfl, HB.out])
      go_wp2_with (first | (go_at_call 17; ((with_reducible refine (rec_v p _ (fN : Int) _ (hp.mono (by (repeat (first | (with_reducible exact Grow.refl _) | assumption | refine Grow.ext ?_ _ | refine Grow.alloc ?_ _ | refine Grow.drew ?_ | refine Grow.setCell ?_ (by first | (simp; done) | (simp; omega)) _ | refine Grow.trans ?_ (by assumption))))) hf HR.out).mono ?_); rintro e w1 ⟨rfl, hb1⟩; obtain ⟨x1, rfl⟩ := ext_of_grow hb1; clear hb1)) | (go_at_call 18; ((with_reducible refine (fnshape_Calls x _ _ _ hw_x (x_locals.mono (by (repeat (first | (with_reducible exact Grow.refl _) | assumption | refine Grow.ext ?_ _ | refine Grow.alloc ?_ _ | refine Grow.drew ?_ | refine Grow.setCell ?_ (by first | (simp; done) | (simp; omega)) _ | refine Grow.trans ?_ (by assumption))))) (x_blocks.mono (by (repeat (first | (with_reducible exact Grow.refl _) | assumption | refine Grow.ext ?_ _ | refine Grow.alloc ?_ _ | refine Grow.drew ?_ | refine Grow.setCell ?_ (by first | (simp; done) | (simp; omega)) _ | refine Grow.trans ?_ (by assumption))))) Hfx.out).mono ?_); rintro e w2 ⟨_, rfl, ⟨cu, rfl, hcs⟩, hb2⟩; obtain ⟨ca, cn, cc, rfl, Hcn, -, -, -, hcs⟩ := hcs.open; obtain ⟨x2, rfl⟩ := ext_of_grow hb2; clear hb2)))
      obtain ⟨z, hz⟩ := ext_of_grow (W := w.alloc (.cells #[.slice (some ⟨b_x, off_x, none⟩) n cap] 43)) (w := ext (ext (ext (w.alloc (.cells #[.slice (some ⟨b_x, off_x, none⟩) n cap] 43)) y) x1) x2) Gw.h
      have hcs : Sl (fun _ => True) (ext (ext (ext (w.alloc (.cells #[.slice (some ⟨b_x, off_x, none⟩) n cap] 43)) y) x1) x2) (.slice ca cn cc) (callsL x) := hcs.wide (fun _ _ _ => trivial)
      rw [hz] at hcs ⊢
      have hcn8 : cn ≤ 8 := by rw [Hcn.out]; unfold callsL; rw [List.length_map]; exact Nat.le_trans (List.length_filter_le _ _) (by simp)
      refine hide_wp9 (fun a ha => ?_)
      have S : St8 a 206 [(1, .int .i64 (fN : Nat)), (2, .pointer (some ⟨w.heap.size, 0, none⟩)), (6, .bool B), (8, .slice ca cn cc), (10, .bool false), (11, .int .i64 0)] := ⟨by rw [ha.out]; rfl, by rw [ha.out], Lk.cons (by rw [ha.out]; rfl) (Lk.cons (by rw [ha.out]; rfl) (Lk.cons (by rw [ha.out]; rfl) (Lk.cons (by rw [ha.out]; rfl) (Lk.cons (by rw [ha.out]; rfl) (Lk.cons (by rw [ha.out]; rfl) (Lk.nil))))))⟩
      clear ha
      refine wp_loop_ghost_k (fun m a w' => ∃ (k : Nat) (z' : Ext), m = cn - k ∧ k ≤ cn ∧ St8 a 206 [(1, .int .i64 (fN : Nat)), (2, .pointer (some ⟨w.heap.size, 0, none⟩)), (6, .bool B), (8, .slice ca cn cc), (10, .bool ((((List.range 8).filter (callsTo x)).take k).any (recOne p fN))), (11, .int .i64 (k : Nat))] ∧ w' = ext (ext (w.alloc (.cells #[.slice (some ⟨b_x, off_x, none⟩) n cap] 43)) z) z') cn ⟨0, ⟨_, #[]⟩, rfl, Nat.zero_le _, ⟨S.size, S.defers, Lk.cons (S.g 1 rfl) (Lk.cons (S.g 2 rfl) (Lk.cons (S.g 6 rfl) (Lk.cons (S.g 8 rfl) (Lk.cons (S.g 10 rfl) (Lk.cons (S.g 11 rfl) (Lk.nil))))))⟩, (ext_self _).symm⟩ ?_
      rintro m a w' ⟨k, z', rfl, hk, S, rfl⟩ J K hJ hK
      by_cases hlt : k < cn
      · have hlt8 : (k : Int) < cn := by omega
        go_upto_region 14 with fail
        refine wp_region_lit ?_
        refine st_val S (Op.move (.const (.int .i64 (k : Nat)))) (.int .i64 (k : Nat)) rfl rfl (wanted_none rfl _) (by simp [execOp, resolve, S.g 11 rfl, ev_c, ev_f]) ?_ (fun a S => ?_)
        · intro K' hK'
          go_wp2_with fail
          exact hK'
        refine st_val S (Op.move (.const (.slice ca cn cc))) (.slice ca cn cc) rfl rfl (wanted_none rfl _) (by simp [execOp, resolve, S.g 8 rfl, ev_c, ev_f]) ?_ (fun a S => ?_)
        · intro K' hK'
          go_wp2_with fail
          exact hK'
        refine st_pure S (.int .i64 cn) rfl rfl (wanted_none rfl _) (by simp [execOp, resolve, S.g 76 rfl, ev_c, ev_f]; go_simp) (fun a S => ?_)
        refine st_val S (Op.binOp BinOp.lss 3 (.const (.int .i64 (k : Nat))) (.const (.int .i64 cn)) 3) (.bool true) rfl rfl (wanted_none rfl _) (by simp [execOp, resolve, S.g 75 rfl, S.g 77 rfl, ev_c, ev_f, eqGuard]) ?_ (fun a S => ?_)
        · intro K' hK'
          go_wp2_with fail
          exact hK'
        go_upto_region 16 with fail
        refine wp_cond_true (S.g 78 rfl) ?_
        obtain ⟨b_c, off_c, cv, rfl, ⟨Hg_c, hl_c, hw_c, c_c0⟩⟩ := hcs.int k hlt
        obtain ⟨cm, rfl, Hms, Hct⟩ := callsL_get Hg_c.out
        replace Hms := Lib.hid Hms
        replace Hct := Lib.hid Hct
        have Hcn : Hid (cm < n) := Lib.hid (by rw [Hn.out]; exact (gr_lt Hok.out fN cm (by unfold gr; rw [Hg_x.out]; exact Hct.out)).2)
        have hcm0 : decide ((cm : Int) < 0) = false := by simp
        have hcm1 : decide ((n : Int) ≤ (cm : Int)) = false := by have := Hcn.out; simp; omega
        have hcm2 : decide (n ≤ cm) = false := by have := Hcn.out; simp; omega
        have hrc := row_oneR c_c0
        go_upto_region 16 with fail
        refine wp_region_lit ?_
        refine st_val S (Op.move (.const (.slice (some ⟨b_c, off_c, none⟩) cn cc))) (.slice (some ⟨b_c, off_c, none⟩) cn cc) rfl rfl (wanted_none rfl _) (by simp [execOp, resolve, S.g 8 rfl, ev_c, ev_f]) ?_ (fun a S => ?_)
        · intro K' hK'
          go_wp2_with fail
          exact hK'
        refine st_val S (Op.move (.const (.int .i64 (k : Nat)))) (.int .i64 (k : Nat)) rfl rfl (wanted_none rfl _) (by simp [execOp, resolve, S.g 11 rfl, ev_c, ev_f]) ?_ (fun a S => ?_)
        · intro K' hK'
          go_wp2_with fail
          exact hK'
        refine st_val S (Op.indexAddr 56 (.const (.slice (some ⟨b_c, off_c, none⟩) cn cc)) (.const (.int .i64 (k : Nat)))) (.pointer (some ⟨b_c, off_c + k, none⟩)) rfl rfl (wanted_none rfl _) (by simp [execOp, resolve, S.g 81 rfl, S.g 82 rfl, ev_c, ev_f]) ?_ (fun a S => ?_)
        · intro K' hK'
          go_wp2_with fail
          exact hK'
        refine st_val S (Op.load 3 (.const (.pointer (some ⟨b_c, off_c + k, none⟩)))) (.int .i64 (cm : Nat)) rfl rfl (wanted_none rfl _) (by simp [execOp, resolve, S.g 83 rfl, ev_c, ev_f]) ?_ (fun a S => ?_)
        · intro K' hK'
          go_wp2_with fail
          exact hK'
        refine st_val S (Op.assign (.const (.int .i64 (cm : Nat)))) (.int .i64 (cm : Nat)) rfl rfl (wanted_none rfl _) (by simp [execOp, resolve, S.g 84 rfl, ev_c, ev_f]) ?_ (fun a S => ?_)
        · intro K' hK'
          go_wp2_with fail
          exact hK'
        go_upto_region 17 with fail
        refine wp_region_lit ?_
        refine st_val S (Op.move (.const (.int .i64 (cm : Nat)))) (.int .i64 (cm : Nat)) rfl rfl (wanted_none rfl _) (by simp [execOp, resolve, S.g 12 rfl, ev_c, ev_f]) ?_ (fun a S => ?_)
        · intro K' hK'
          go_wp2_with fail
          exact hK'
        refine st_val S (Op.binOp BinOp.lss 3 (.const (.int .i64 (cm : Nat))) (.const (.int .i64 0)) 3) (.bool false) rfl rfl (wanted_none rfl _) (by simp [execOp, resolve, S.g 85 rfl, ev_c, ev_f, eqGuard]) ?_ (fun a S => ?_)
        · intro K' hK'
          go_wp2_with fail
          exact hK'
        refine st_val S (Op.move (.const (.bool false))) (.bool false) rfl rfl (wanted_none rfl _) (by simp [execOp, resolve, S.g 86 rfl, ev_c, ev_f]) ?_ (fun a S => ?_)
        · intro K' hK'
          go_wp2_with fail
          exact hK'
        refine st_val S (Op.move (.const (.int .i64 (cm : Nat)))) (.int .i64 (cm : Nat)) rfl rfl (want_at (g := 2) (d := 87) (b := false) S rfl rfl rfl rfl rfl) (by simp [execOp, resolve, S.g 12 rfl, ev_c, ev_f]) ?_ (fun a S => ?_)
        · intro K' hK'
          go_wp2_with fail
          exact hK'
        refine st_val S (Op.fieldAddr 43 (.const (.pointer (some ⟨w.heap.size, 0, none⟩))) 0) (.pointer (some ⟨w.heap.size, 0, none⟩)) rfl rfl (want_at (g := 2) (d := 87) (b := false) S rfl rfl rfl rfl rfl) (by simp [execOp, resolve, S.g 2 rfl, ev_c, ev_f]) ?_ (fun a S => ?_)
        · intro K' hK'
          go_wp2_with fail
          exact hK'
        refine st_val S (Op.load 41 (.const (.pointer (some ⟨w.heap.size, 0, none⟩)))) (.slice (some ⟨b_x, off_x, none⟩) n cap) rfl rfl (want_at (g := 2) (d := 87) (b := false) S rfl rfl rfl rfl rfl) (by simp [execOp, resolve, S.g 89 rfl, ev_c, ev_f]) ?_ (fun a S => ?_)
        · intro K' hK'
          go_wp2_with fail
          exact hK'
        refine st_pure S (.int .i64 n) rfl rfl (want_at (g := 2) (d := 87) (b := false) S rfl rfl rfl rfl rfl) (by simp [execOp, resolve, S.g 90 rfl, ev_c, ev_f]; go_simp) (fun a S => ?_)
        refine st_val S (Op.binOp BinOp.geq 3 (.const (.int .i64 (cm : Nat))) (.const (.int .i64 n)) 3) (.bool false) rfl rfl (want_at (g := 2) (d := 87) (b := false) S rfl rfl rfl rfl rfl) (by simp [execOp, resolve, S.g 88 rfl, S.g 91 rfl, ev_c, ev_f, eqGuard]) ?_ (fun a S => ?_)
        · intro K' hK'
          go_wp2_with fail
          exact hK'
        refine st_val S (Op.pick (.const (.bool false)) (.const (.bool true)) (.const (.bool false))) (.bool false) rfl rfl (wanted_none rfl _) (by simp [execOp, resolve, S.g 87 rfl, S.g 92 rfl, ev_c, ev_f]) ?_ (fun a S => ?_)
        · intro K' hK'
          go_wp2_with fail
          exact hK'
        go_upto_region 19 with fail
        refine wp_cond_false (S.g 93 rfl) ?_
        go_upto_region 19 with fail
        refine wp_region_lit ?_
        refine st_val S (Op.load 43 (.const (.pointer (some ⟨w.heap.size, 0, none⟩)))) (.agg #[.slice (some ⟨b_x, off_x, none⟩) n cap]) rfl rfl (wanted_none rfl _) (by simp [execOp, resolve, S.g 2 rfl, ev_c, ev_f]) ?_ (fun a S => ?_)
        · intro K' hK'
          go_wp2_with fail
          exact hK'
        refine st_any S (Op.call { callee := Callee.value (Operand.func 19), args := #[.const (.agg #[.slice (some ⟨b_x, off_x, none⟩) n cap])], argTypes := #[43] }) (fun u w'' => ∃ ua un uc fss, u = .agg #[.slice ua un uc] ∧ Hid (fss.map FnS.f = p.funcs ∧ Rising fss) ∧ Own (fun _ => False) (ext (ext (w.alloc (.cells #[.slice (some ⟨b_x, off_x, none⟩) n cap] 43)) z) z').heap.size 50 w'' (.slice ua un uc) fss ∧ Grow (ext (ext (w.alloc (.cells #[.slice (some ⟨b_x, off_x, none⟩) n cap] 43)) z) z') w'') rfl rfl (wanted_none rfl _) (by simp [execOp, resolve, S.g 94 rfl, ev_c, ev_f]) ?_ (fun u w'' a h S => ?_)
        · intro K' hK'
          go_wp2_with ((go_at_call 19; (with_reducible refine (twin_a p _ _ (hp.mono Gw.h) Hg.out).mono ?_); rintro e w1 ⟨_, rfl, ⟨ua, un, uc, fss, rfl, hf, ho⟩, hb⟩))
          exact hK' _ _ ⟨_, _, _, _, rfl, hf, ho, hb⟩
        obtain ⟨ua, un, qc, fss, rfl, Hf, hown, hg⟩ := h
        obtain rfl : n = un := by
          have h1 := hown.sl.len; have h2 := congrArg List.length Hf.out.1; rw [List.length_map] at h2; rw [Hn.out, ← h2, h1]
        obtain ⟨g, cur, rfl, hqn, hqm, hgb, hgh, hgs⟩ := own_addrR hown hn0
        obtain ⟨y1, rfl⟩ := ext_of_grow hg
        clear hg
        obtain ⟨y2, y3, hgq, hw⟩ := split_box hgh hgb
        rw [hw] at hown hgh ⊢
        clear hw
        haveI eg : EqW g (ext (ext (ext (w.alloc (.cells #[.slice (some ⟨b_x, off_x, none⟩) n cap] 43)) z) z') y2) := ⟨hgq⟩
        replace hgq := Lib.hid hgq
        refine st_any S (Op.alloc 43) (fun u w'' => ∃ b, u = .pointer (some ⟨b, 0, none⟩) ∧ b = (ext ((ext (ext (ext (w.alloc (.cells #[.slice (some ⟨b_x, off_x, none⟩) n cap] 43)) z) z') y2).alloc (.cells cur 50)) y3).heap.size ∧ w'' = (ext ((ext (ext (ext (w.alloc (.cells #[.slice (some ⟨b_x, off_x, none⟩) n cap] 43)) z) z') y2).alloc (.cells cur 50)) y3).alloc (.cells #[.slice none 0 0] 43)) rfl rfl (wanted_none rfl _) (by simp [execOp, resolve, ev_c, ev_f]) ?_ (fun u w'' a h S => ?_)
        · intro K' hK'
          go_wp2_with (fail)
          exact hK' _ _ ⟨_, rfl, by first | rfl | (simp only [size_ext, alloc_size]; done) | (simp only [size_ext, alloc_size]; omega), rfl⟩
        obtain ⟨p13, rfl, hp13, rfl⟩ := h
        haveI ep13 : EqW p13 (ext ((ext (ext (ext (w.alloc (.cells #[.slice (some ⟨b_x, off_x, none⟩) n cap] 43)) z) z') y2).alloc (.cells cur 50)) y3) := ⟨hp13⟩
        clear hp13
        refine st_put S (Op.store 43 (.const (.pointer (some ⟨p13, 0, none⟩))) (.const (.agg #[.slice (some ⟨g, 0, none⟩) n qc]))) ((ext ((ext (ext (ext (w.alloc (.cells #[.slice (some ⟨b_x, off_x, none⟩) n cap] 43)) z) z') y2).alloc (.cells cur 50)) y3).alloc (.cells #[.slice (some ⟨g, 0, none⟩) n qc] 43)) rfl (wanted_none rfl _) (by simp [execOp, resolve, S.g 13 rfl, S.g 95 rfl, ev_c, ev_f]) ?_ (fun a S => ?_)
        · intro K' hK'
          go_wp2_with fail
          exact hK' _
        obtain ⟨f0, la0, ln0, lc0, ba0, bn0, bc0, hf0, h0c⟩ := fns_get hown hgh hn0
        obtain ⟨fc, lac, lnc, lcc, bac, bnc, bcc, hfc, hcc⟩ := fns_get hown hgh Hcn.out
        have ht0 : List.take 4 cur.toList = [(.int .i64 f0.f.params), (.bool f0.f.uns), (.slice la0 ln0 lc0), (.slice ba0 bn0 bc0)] := by have := take4 (o := 0) h0c; rwa [List.drop_zero] at this
        have htc : List.take 4 (List.drop (cm * 4) cur.toList) = [(.int .i64 fc.f.params), (.bool fc.f.uns), (.slice lac lnc lcc), (.slice bac bnc bcc)] := take4 hcc
        have hs4 : cm * 4 + 4 ≤ cur.size := by have h1 := Hcn.out; have h2 : cur.size = qc * 4 := hgs; omega
        have hs0 : 4 ≤ cur.size := by omega
        have hcm4 : (cm : Int) < n := by have := Hcn.out; omega
        have hnn0 : (0 : Int) < n := by omega
        obtain ⟨C1, hC1⟩ : ∃ C, C = (((.int .i64 fc.f.params) :: (.bool fc.f.uns) :: (.slice lac lnc lcc) :: (.slice bac bnc bcc) :: List.drop 4 cur.toList).toArray) := ⟨_, rfl⟩
        have H1 := Lib.hid hC1
        clear hC1
        haveI eq1 : EqW p13 (ext ((ext (ext (ext (w.alloc (.cells #[.slice (some ⟨b_x, off_x, none⟩) n cap] 43)) z) z') y2).alloc (.cells C1 50)) y3) := ⟨ep13.eq.trans (by simp only [size_ext, alloc_size])⟩
        go_upto_region 20 with fail
        refine region_pre' 17 206 (by kernel_rfl) (by kernel_rfl) S.size (by kernel_rfl) 15 (by omega) (fun w' => ∃ x, w' = ext ((ext ((ext (ext (ext (w.alloc (.cells #[.slice (some ⟨b_x, off_x, none⟩) n cap] 43)) z) z') y2).alloc (.cells cur 50)) y3).alloc (.cells #[.slice (some ⟨g, 0, none⟩) n qc] 43)) x) (TwoW ((ext ((ext (ext (ext (w.alloc (.cells #[.slice (some ⟨b_x, off_x, none⟩) n cap] 43)) z) z') y2).alloc (.cells cur 50)) y3).alloc (.cells #[.slice (some ⟨g, 0, none⟩) n qc] 43)) ((ext ((ext (ext (ext (w.alloc (.cells #[.slice (some ⟨b_x, off_x, none⟩) n cap] 43)) z) z') y2).alloc (.cells C1 50)) y3).alloc (.cells #[.slice (some ⟨g, 0, none⟩) n qc] 43))) (fun _ _ _ => TwoW.trans) (fun _ _ => TwoW.of) (fun w' q => ext_of_grow q) (ph20 g n qc p13 cm (.int .i64 f0.f.params) (.bool f0.f.uns) (.slice la0 ln0 lc0) (.slice ba0 bn0 bc0) (.int .i64 fc.f.params) (.bool fc.f.uns) (.slice lac lnc lcc) (.slice bac bnc bcc) ((ext ((ext (ext (ext (w.alloc (.cells #[.slice (some ⟨b_x, off_x, none⟩) n cap] 43)) z) z') y2).alloc (.cells C1 50)) y3).alloc (.cells #[.slice (some ⟨g, 0, none⟩) n qc] 43))) (ph20_stay _ g n qc p13 cm (.int .i64 f0.f.params) (.bool f0.f.uns) (.slice la0 ln0 lc0) (.slice ba0 bn0 bc0) (.int .i64 fc.f.params) (.bool fc.f.uns) (.slice lac lnc lcc) (.slice bac bnc bcc) ((ext ((ext (ext (ext (w.alloc (.cells #[.slice (some ⟨b_x, off_x, none⟩) n cap] 43)) z) z') y2).alloc (.cells C1 50)) y3).alloc (.cells #[.slice (some ⟨g, 0, none⟩) n qc] 43))) (ph20_loc g n qc p13 cm (.int .i64 f0.f.params) (.bool f0.f.uns) (.slice la0 ln0 lc0) (.slice ba0 bn0 bc0) (.int .i64 fc.f.params) (.bool fc.f.uns) (.slice lac lnc lcc) (.slice bac bnc bcc) ((ext ((ext (ext (ext (w.alloc (.cells #[.slice (some ⟨b_x, off_x, none⟩) n cap] 43)) z) z') y2).alloc (.cells C1 50)) y3).alloc (.cells #[.slice (some ⟨g, 0, none⟩) n qc] 43)) _) (fun i hi vs w' A hg hpi hΦ hin hout hsz K hK => ?_) (fun vs w' A hDA hg hΦ hin hout hNA => ?_)
        · obtain rfl | rfl | rfl | rfl | rfl | rfl | rfl | rfl | rfl | rfl | rfl | rfl | rfl | rfl | rfl | rfl | rfl : i = 0 ∨ i = 1 ∨ i = 2 ∨ i = 3 ∨ i = 4 ∨ i = 5 ∨ i = 6 ∨ i = 7 ∨ i = 8 ∨ i = 9 ∨ i = 10 ∨ i = 11 ∨ i = 12 ∨ i = 13 ∨ i = 14 ∨ i = 15 ∨ i = 16 := by omega
          · have e13 := hout 13 _ (by kernel_rfl) (S.g 13 rfl)
            refine ⟨_, rfl, wp_tiny (Op.fieldAddr 43 (.const (.pointer (some ⟨p13, 0, none⟩))) 0) (R := fun u w'' => u = .pointer (some ⟨p13, 0, none⟩) ∧ w'' = w') (wanted_none rfl _) (by simp [execOp, resolve, e13, ev_c, ev_f]) ?_ (fun u w'' h => by obtain ⟨h1, h2⟩ := h; subst h2; exact hK u _ ⟨id, id⟩ (fun _ h => h) ((if_pos rfl : (if (0 : Nat) = 0 then u else vs 0) = u).trans h1))⟩
            clear hK
            intro K' hK'
            go_wp2_with fail
            exact hK' _ _ ⟨rfl, rfl⟩
          · have e96 : A.eval (.tmp 96) = .pointer (some ⟨p13, 0, none⟩) := (hin 0 96 (by omega) (by kernel_rfl)).trans (hΦ 0 (List.mem_of_elem_eq_true (by kernel_rfl)))
            obtain ⟨xq, hx | hx⟩ := hg.1 ⟨_, Or.inl (ext_self _).symm⟩
            · subst hx
              refine ⟨_, rfl, wp_tiny (Op.load 41 (.const (.pointer (some ⟨p13, 0, none⟩)))) (R := fun u w'' => u = .slice (some ⟨g, 0, none⟩) n qc ∧ w'' = ext ((ext ((ext (ext (ext (w.alloc (.cells #[.slice (some ⟨b_x, off_x, none⟩) n cap] 43)) z) z') y2).alloc (.cells cur 50)) y3).alloc (.cells #[.slice (some ⟨g, 0, none⟩) n qc] 43)) xq) (wanted_none rfl _) (by simp [execOp, resolve, e96, ev_c, ev_f]) ?_ (fun u w'' h => by obtain ⟨h1, h2⟩ := h; subst h2; exact hK u _ ⟨id, id⟩ (fun _ h => h) ((if_pos rfl : (if (1 : Nat) = 1 then u else vs 1) = u).trans h1))⟩
              clear hK
              intro K' hK'
              go_wp2_with fail
              exact hK' _ _ ⟨rfl, rfl⟩
            · subst hx
              refine ⟨_, rfl, wp_tiny (Op.load 41 (.const (.pointer (some ⟨p13, 0, none⟩)))) (R := fun u w'' => u = .slice (some ⟨g, 0, none⟩) n qc ∧ w'' = ext ((ext ((ext (ext (ext (w.alloc (.cells #[.slice (some ⟨b_x, off_x, none⟩) n cap] 43)) z) z') y2).alloc (.cells C1 50)) y3).alloc (.cells #[.slice (some ⟨g, 0, none⟩) n qc] 43)) xq) (wanted_none rfl _) (by simp [execOp, resolve, e96, ev_c, ev_f]) ?_ (fun u w'' h => by obtain ⟨h1, h2⟩ := h; subst h2; exact hK u _ ⟨id, id⟩ (fun _ h => h) ((if_pos rfl : (if (1 : Nat) = 1 then u else vs 1) = u).trans h1))⟩
              clear hK
              intro K' hK'
              go_wp2_with fail
              exact hK' _ _ ⟨rfl, rfl⟩
          · have e13 := hout 13 _ (by kernel_rfl) (S.g 13 rfl)
            refine ⟨_, rfl, wp_tiny (Op.fieldAddr 43 (.const (.pointer (some ⟨p13, 0, none⟩))) 0) (R := fun u w'' => u = .pointer (some ⟨p13, 0, none⟩) ∧ w'' = w') (wanted_none rfl _) (by simp [execOp, resolve, e13, ev_c, ev_f]) ?_ (fun u w'' h => by obtain ⟨h1, h2⟩ := h; subst h2; exact hK u _ ⟨id, id⟩ (fun _ h => h) ((if_pos rfl : (if (2 : Nat) = 2 then u else vs 2) = u).trans h1))⟩
            clear hK
            intro K' hK'
            go_wp2_with fail
            exact hK' _ _ ⟨rfl, rfl⟩
          · have e98 : A.eval (.tmp 98) = .pointer (some ⟨p13, 0, none⟩) := (hin 2 98 (by omega) (by kernel_rfl)).trans (hΦ 2 (List.mem_of_elem_eq_true (by kernel_rfl)))
            obtain ⟨xq, hx | hx⟩ := hg.1 ⟨_, Or.inl (ext_self _).symm⟩
            · subst hx
              refine ⟨_, rfl, wp_tiny (Op.load 41 (.const (.pointer (some ⟨p13, 0, none⟩)))) (R := fun u w'' => u = .slice (some ⟨g, 0, none⟩) n qc ∧ w'' = ext ((ext ((ext (ext (ext (w.alloc (.cells #[.slice (some ⟨b_x, off_x, none⟩) n cap] 43)) z) z') y2).alloc (.cells cur 50)) y3).alloc (.cells #[.slice (some ⟨g, 0, none⟩) n qc] 43)) xq) (wanted_none rfl _) (by simp [execOp, resolve, e98, ev_c, ev_f]) ?_ (fun u w'' h => by obtain ⟨h1, h2⟩ := h; subst h2; exact hK u _ ⟨id, id⟩ (fun _ h => h) ((if_pos rfl : (if (3 : Nat) = 3 then u else vs 3) = u).trans h1))⟩
              clear hK
              intro K' hK'
              go_wp2_with fail
              exact hK' _ _ ⟨rfl, rfl⟩
            · subst hx
              refine ⟨_, rfl, wp_tiny (Op.load 41 (.const (.pointer (some ⟨p13, 0, none⟩)))) (R := fun u w'' => u = .slice (some ⟨g, 0, none⟩) n qc ∧ w'' = ext ((ext ((ext (ext (ext (w.alloc (.cells #[.slice (some ⟨b_x, off_x, none⟩) n cap] 43)) z) z') y2).alloc (.cells C1 50)) y3).alloc (.cells #[.slice (some ⟨g, 0, none⟩) n qc] 43)) xq) (wanted_none rfl _) (by simp [execOp, resolve, e98, ev_c, ev_f]) ?_ (fun u w'' h => by obtain ⟨h1, h2⟩ := h; subst h2; exact hK u _ ⟨id, id⟩ (fun _ h => h) ((if_pos rfl : (if (3 : Nat) = 3 then u else vs 3) = u).trans h1))⟩
              clear hK
              intro K' hK'
              go_wp2_with fail
              exact hK' _ _ ⟨rfl, rfl⟩
          · have e12 := hout 12 _ (by kernel_rfl) (S.g 12 rfl)
            refine ⟨_, rfl, wp_tiny (Op.move (.const (.int .i64 (cm : Nat)))) (R := fun u w'' => u = .int .i64 (cm : Nat) ∧ w'' = w') (wanted_none rfl _) (by simp [execOp, resolve, e12, ev_c, ev_f]) ?_ (fun u w'' h => by obtain ⟨h1, h2⟩ := h; subst h2; exact hK u _ ⟨id, id⟩ (fun _ h => h) ((if_pos rfl : (if (4 : Nat) = 4 then u else vs 4) = u).trans h1))⟩
            clear hK
            intro K' hK'
            go_wp2_with fail
            exact hK' _ _ ⟨rfl, rfl⟩
          · have e13 := hout 13 _ (by kernel_rfl) (S.g 13 rfl)
            refine ⟨_, rfl, wp_tiny (Op.fieldAddr 43 (.const (.pointer (some ⟨p13, 0, none⟩))) 0) (R := fun u w'' => u = .pointer (some ⟨p13, 0, none⟩) ∧ w'' = w') (wanted_none rfl _) (by simp [execOp, resolve, e13, ev_c, ev_f]) ?_ (fun u w'' h => by obtain ⟨h1, h2⟩ := h; subst h2; exact hK u _ ⟨id, id⟩ (fun _ h => h) ((if_pos rfl : (if (5 : Nat) = 5 then u else vs 5) = u).trans h1))⟩
            clear hK
            intro K' hK'
            go_wp2_with fail
            exact hK' _ _ ⟨rfl, rfl⟩
          · have e101 : A.eval (.tmp 101) = .pointer (some ⟨p13, 0, none⟩) := (hin 5 101 (by omega) (by kernel_rfl)).trans (hΦ 5 (List.mem_of_elem_eq_true (by kernel_rfl)))
            obtain ⟨xq, hx | hx⟩ := hg.1 ⟨_, Or.inl (ext_self _).symm⟩
            · subst hx
              refine ⟨_, rfl, wp_tiny (Op.load 41 (.const (.pointer (some ⟨p13, 0, none⟩)))) (R := fun u w'' => u = .slice (some ⟨g, 0, none⟩) n qc ∧ w'' = ext ((ext ((ext (ext (ext (w.alloc (.cells #[.slice (some ⟨b_x, off_x, none⟩) n cap] 43)) z) z') y2).alloc (.cells cur 50)) y3).alloc (.cells #[.slice (some ⟨g, 0, none⟩) n qc] 43)) xq) (wanted_none rfl _) (by simp [execOp, resolve, e101, ev_c, ev_f]) ?_ (fun u w'' h => by obtain ⟨h1, h2⟩ := h; subst h2; exact hK u _ ⟨id, id⟩ (fun _ h => h) ((if_pos rfl : (if (6 : Nat) = 6 then u else vs 6) = u).trans h1))⟩
              clear hK
              intro K' hK'
              go_wp2_with fail
              exact hK' _ _ ⟨rfl, rfl⟩
            · subst hx
              refine ⟨_, rfl, wp_tiny (Op.load 41 (.const (.pointer (some ⟨p13, 0, none⟩)))) (R := fun u w'' => u = .slice (some ⟨g, 0, none⟩) n qc ∧ w'' = ext ((ext ((ext (ext (ext (w.alloc (.cells #[.slice (some ⟨b_x, off_x, none⟩) n cap] 43)) z) z') y2).alloc (.cells C1 50)) y3).alloc (.cells #[.slice (some ⟨g, 0, none⟩) n qc] 43)) xq) (wanted_none rfl _) (by simp [execOp, resolve, e101, ev_c, ev_f]) ?_ (fun u w'' h => by obtain ⟨h1, h2⟩ := h; subst h2; exact hK u _ ⟨id, id⟩ (fun _ h => h) ((if_pos rfl : (if (6 : Nat) = 6 then u else vs 6) = u).trans h1))⟩
              clear hK
              intro K' hK'
              go_wp2_with fail
              exact hK' _ _ ⟨rfl, rfl⟩
          · have e12 := hout 12 _ (by kernel_rfl) (S.g 12 rfl)
            refine ⟨_, rfl, wp_tiny (Op.move (.const (.int .i64 (cm : Nat)))) (R := fun u w'' => u = .int .i64 (cm : Nat) ∧ w'' = w') (wanted_none rfl _) (by simp [execOp, resolve, e12, ev_c, ev_f]) ?_ (fun u w'' h => by obtain ⟨h1, h2⟩ := h; subst h2; exact hK u _ ⟨id, id⟩ (fun _ h => h) ((if_pos rfl : (if (7 : Nat) = 7 then u else vs 7) = u).trans h1))⟩
            clear hK
            intro K' hK'
            go_wp2_with fail
            exact hK' _ _ ⟨rfl, rfl⟩
          · have e102 : A.eval (.tmp 102) = .slice (some ⟨g, 0, none⟩) n qc := (hin 6 102 (by omega) (by kernel_rfl)).trans (hΦ 6 (List.mem_of_elem_eq_true (by kernel_rfl)))
            have e103 : A.eval (.tmp 103) = .int .i64 (cm : Nat) := (hin 7 103 (by omega) (by kernel_rfl)).trans (hΦ 7 (List.mem_of_elem_eq_true (by kernel_rfl)))
            refine ⟨_, rfl, wp_tiny (Op.indexAddr 41 (.const (.slice (some ⟨g, 0, none⟩) n qc)) (.const (.int .i64 (cm : Nat)))) (R := fun u w'' => u = .pointer (some ⟨g, cm * 4, none⟩) ∧ w'' = w') (wanted_none rfl _) (by simp [execOp, resolve, e102, e103, ev_c, ev_f]) ?_ (fun u w'' h => by obtain ⟨h1, h2⟩ := h; subst h2; exact hK u _ ⟨id, id⟩ (fun _ h => h) ((if_pos rfl : (if (8 : Nat) = 8 then u else vs 8) = u).trans h1))⟩
            clear hK
            intro K' hK'
            go_wp2_with fail
            exact hK' _ _ ⟨rfl, rfl⟩
          · have e104 : A.eval (.tmp 104) = .pointer (some ⟨g, cm * 4, none⟩) := (hin 8 104 (by omega) (by kernel_rfl)).trans (hΦ 8 (List.mem_of_elem_eq_true (by kernel_rfl)))
            obtain ⟨xq, rfl⟩ := hpi (Or.inr (List.mem_of_elem_eq_true (by kernel_rfl)))
            refine ⟨_, rfl, wp_tiny (Op.load 50 (.const (.pointer (some ⟨g, cm * 4, none⟩)))) (R := fun u w'' => u = .agg #[.int .i64 fc.f.params, .bool fc.f.uns, .slice lac lnc lcc, .slice bac bnc bcc] ∧ w'' = ext ((ext ((ext (ext (ext (w.alloc (.cells #[.slice (some ⟨b_x, off_x, none⟩) n cap] 43)) z) z') y2).alloc (.cells cur 50)) y3).alloc (.cells #[.slice (some ⟨g, 0, none⟩) n qc] 43)) xq) (wanted_none rfl _) (by simp [execOp, resolve, e104, ev_c, ev_f]) ?_ (fun u w'' h => by obtain ⟨h1, h2⟩ := h; subst h2; exact hK u _ ⟨id, id⟩ (fun _ h => h) ((if_pos rfl : (if (9 : Nat) = 9 then u else vs 9) = u).trans h1))⟩
            clear hK
            intro K' hK'
            go_wp2_with fail
            exact hK' _ _ ⟨rfl, rfl⟩
          · have e13 := hout 13 _ (by kernel_rfl) (S.g 13 rfl)
            refine ⟨_, rfl, wp_tiny (Op.fieldAddr 43 (.const (.pointer (some ⟨p13, 0, none⟩))) 0) (R := fun u w'' => u = .pointer (some ⟨p13, 0, none⟩) ∧ w'' = w') (wanted_none rfl _) (by simp [execOp, resolve, e13, ev_c, ev_f]) ?_ (fun u w'' h => by obtain ⟨h1, h2⟩ := h; subst h2; exact hK u _ ⟨id, id⟩ (fun _ h => h) ((if_pos rfl : (if (10 : Nat) = 10 then u else vs 10) = u).trans h1))⟩
            clear hK
            intro K' hK'
            go_wp2_with fail
            exact hK' _ _ ⟨rfl, rfl⟩
          · have e106 : A.eval (.tmp 106) = .pointer (some ⟨p13, 0, none⟩) := (hin 10 106 (by omega) (by kernel_rfl)).trans (hΦ 10 (List.mem_of_elem_eq_true (by kernel_rfl)))
            obtain ⟨xq, hx | hx⟩ := hg.1 ⟨_, Or.inl (ext_self _).symm⟩
            · subst hx
              refine ⟨_, rfl, wp_tiny (Op.load 41 (.const (.pointer (some ⟨p13, 0, none⟩)))) (R := fun u w'' => u = .slice (some ⟨g, 0, none⟩) n qc ∧ w'' = ext ((ext ((ext (ext (ext (w.alloc (.cells #[.slice (some ⟨b_x, off_x, none⟩) n cap] 43)) z) z') y2).alloc (.cells cur 50)) y3).alloc (.cells #[.slice (some ⟨g, 0, none⟩) n qc] 43)) xq) (wanted_none rfl _) (by simp [execOp, resolve, e106, ev_c, ev_f]) ?_ (fun u w'' h => by obtain ⟨h1, h2⟩ := h; subst h2; exact hK u _ ⟨id, id⟩ (fun _ h => h) ((if_pos rfl : (if (11 : Nat) = 11 then u else vs 11) = u).trans h1))⟩
              clear hK
              intro K' hK'
              go_wp2_with fail
              exact hK' _ _ ⟨rfl, rfl⟩
            · subst hx
              refine ⟨_, rfl, wp_tiny (Op.load 41 (.const (.pointer (some ⟨p13, 0, none⟩)))) (R := fun u w'' => u = .slice (some ⟨g, 0, none⟩) n qc ∧ w'' = ext ((ext ((ext (ext (ext (w.alloc (.cells #[.slice (some ⟨b_x, off_x, none⟩) n cap] 43)) z) z') y2).alloc (.cells C1 50)) y3).alloc (.cells #[.slice (some ⟨g, 0, none⟩) n qc] 43)) xq) (wanted_none rfl _) (by simp [execOp, resolve, e106, ev_c, ev_f]) ?_ (fun u w'' h => by obtain ⟨h1, h2⟩ := h; subst h2; exact hK u _ ⟨id, id⟩ (fun _ h => h) ((if_pos rfl : (if (11 : Nat) = 11 then u else vs 11) = u).trans h1))⟩
              clear hK
              intro K' hK'
              go_wp2_with fail
              exact hK' _ _ ⟨rfl, rfl⟩
          · have e107 : A.eval (.tmp 107) = .slice (some ⟨g, 0, none⟩) n qc := (hin 11 107 (by omega) (by kernel_rfl)).trans (hΦ 11 (List.mem_of_elem_eq_true (by kernel_rfl)))
            refine ⟨_, rfl, wp_tiny (Op.indexAddr 41 (.const (.slice (some ⟨g, 0, none⟩) n qc)) (.const (.int .i64 0))) (R := fun u w'' => u = .pointer (some ⟨g, 0, none⟩) ∧ w'' = w') (wanted_none rfl _) (by simp [execOp, resolve, e107, ev_c, ev_f]) ?_ (fun u w'' h => by obtain ⟨h1, h2⟩ := h; subst h2; exact hK u _ ⟨id, id⟩ (fun _ h => h) ((if_pos rfl : (if (12 : Nat) = 12 then u else vs 12) = u).trans h1))⟩
            clear hK
            intro K' hK'
            go_wp2_with fail
            exact hK' _ _ ⟨rfl, rfl⟩
          · have e108 : A.eval (.tmp 108) = .pointer (some ⟨g, 0, none⟩) := (hin 12 108 (by omega) (by kernel_rfl)).trans (hΦ 12 (List.mem_of_elem_eq_true (by kernel_rfl)))
            obtain ⟨xq, rfl⟩ := hpi (Or.inr (List.mem_of_elem_eq_true (by kernel_rfl)))
            refine ⟨_, rfl, wp_tiny (Op.load 50 (.const (.pointer (some ⟨g, 0, none⟩)))) (R := fun u w'' => u = .agg #[.int .i64 f0.f.params, .bool f0.f.uns, .slice la0 ln0 lc0, .slice ba0 bn0 bc0] ∧ w'' = ext ((ext ((ext (ext (ext (w.alloc (.cells #[.slice (some ⟨b_x, off_x, none⟩) n cap] 43)) z) z') y2).alloc (.cells cur 50)) y3).alloc (.cells #[.slice (some ⟨g, 0, none⟩) n qc] 43)) xq) (wanted_none rfl _) (by simp [execOp, resolve, e108, ev_c, ev_f]) ?_ (fun u w'' h => by obtain ⟨h1, h2⟩ := h; subst h2; exact hK u _ ⟨id, id⟩ (fun _ h => h) ((if_pos rfl : (if (13 : Nat) = 13 then u else vs 13) = u).trans h1))⟩
            clear hK
            intro K' hK'
            go_wp2_with fail
            exact hK' _ _ ⟨rfl, rfl⟩
          · have e97 : A.eval (.tmp 97) = .slice (some ⟨g, 0, none⟩) n qc := (hin 1 97 (by omega) (by kernel_rfl)).trans (hΦ 1 (List.mem_of_elem_eq_true (by kernel_rfl)))
            refine ⟨_, rfl, wp_tiny (Op.indexAddr 41 (.const (.slice (some ⟨g, 0, none⟩) n qc)) (.const (.int .i64 0))) (R := fun u w'' => u = .pointer (some ⟨g, 0, none⟩) ∧ w'' = w') (wanted_none rfl _) (by simp [execOp, resolve, e97, ev_c, ev_f]) ?_ (fun u w'' h => by obtain ⟨h1, h2⟩ := h; subst h2; exact hK u _ ⟨id, id⟩ (fun _ h => h) ((if_pos rfl : (if (14 : Nat) = 14 then u else vs 14) = u).trans h1))⟩
            clear hK
            intro K' hK'
            go_wp2_with fail
            exact hK' _ _ ⟨rfl, rfl⟩
          · have e110 : A.eval (.tmp 110) = .pointer (some ⟨g, 0, none⟩) := (hin 14 110 (by omega) (by kernel_rfl)).trans (hΦ 14 (List.mem_of_elem_eq_true (by kernel_rfl)))
            have e105 : A.eval (.tmp 105) = .agg #[.int .i64 fc.f.params, .bool fc.f.uns, .slice lac lnc lcc, .slice bac bnc bcc] := (hin 9 105 (by omega) (by kernel_rfl)).trans (hΦ 9 (List.mem_of_elem_eq_true (by kernel_rfl)))
            obtain ⟨xq, rfl⟩ := hpi (Or.inl rfl)
            refine ⟨_, rfl, wp_tiny (Op.store 50 (.const (.pointer (some ⟨g, 0, none⟩))) (.const (.agg #[.int .i64 fc.f.params, .bool fc.f.uns, .slice lac lnc lcc, .slice bac bnc bcc]))) (R := fun u w'' => w'' = ext ((ext ((ext (ext (ext (w.alloc (.cells #[.slice (some ⟨b_x, off_x, none⟩) n cap] 43)) z) z') y2).alloc (.cells C1 50)) y3).alloc (.cells #[.slice (some ⟨g, 0, none⟩) n qc] 43)) xq) (wanted_none rfl _) (by simp [execOp, resolve, e110, e105, ev_c, ev_f]) ?_ (fun u w'' h => by subst h; exact hK u _ (TwoW.store _) (fun h _ => absurd rfl h) ⟨xq, rfl⟩)⟩
            clear hK
            intro K' hK'
            go_wp2_with fail
            exact hK' _ _ (by rw [H1.out])
          · have e99 : A.eval (.tmp 99) = .slice (some ⟨g, 0, none⟩) n qc := (hin 3 99 (by omega) (by kernel_rfl)).trans (hΦ 3 (List.mem_of_elem_eq_true (by kernel_rfl)))
            have e100 : A.eval (.tmp 100) = .int .i64 (cm : Nat) := (hin 4 100 (by omega) (by kernel_rfl)).trans (hΦ 4 (List.mem_of_elem_eq_true (by kernel_rfl)))
            refine ⟨_, rfl, wp_tiny (Op.indexAddr 41 (.const (.slice (some ⟨g, 0, none⟩) n qc)) (.const (.int .i64 (cm : Nat)))) (R := fun u w'' => u = .pointer (some ⟨g, cm * 4, none⟩) ∧ w'' = w') (wanted_none rfl _) (by simp [execOp, resolve, e99, e100, ev_c, ev_f]) ?_ (fun u w'' h => by obtain ⟨h1, h2⟩ := h; subst h2; exact hK u _ ⟨id, id⟩ (fun _ h => h) ((if_pos rfl : (if (16 : Nat) = 16 then u else vs 16) = u).trans h1))⟩
            clear hK
            intro K' hK'
            go_wp2_with fail
            exact hK' _ _ ⟨rfl, rfl⟩
        obtain ⟨xq, rfl⟩ := hΦ 15 (by omega)
        clear hg
        replace S : St8 A 206 _ := ⟨hNA, hDA.trans S.defers, Lk.cons (hout 1 _ (by kernel_rfl) (S.g 1 rfl)) (Lk.cons (hout 2 _ (by kernel_rfl) (S.g 2 rfl)) (Lk.cons (hout 6 _ (by kernel_rfl) (S.g 6 rfl)) (Lk.cons (hout 8 _ (by kernel_rfl) (S.g 8 rfl)) (Lk.cons (hout 10 _ (by kernel_rfl) (S.g 10 rfl)) (Lk.cons (hout 11 _ (by kernel_rfl) (S.g 11 rfl)) (Lk.cons (hout 12 _ (by kernel_rfl) (S.g 12 rfl)) (Lk.cons (hout 13 _ (by kernel_rfl) (S.g 13 rfl)) (Lk.cons ((hin 13 109 (by omega) (by kernel_rfl)).trans (hΦ 13 (by omega))) (Lk.cons ((hin 16 111 (by omega) (by kernel_rfl)).trans (hΦ 16 (by omega))) (Lk.nil))))))))))⟩
        clear hΦ hin hout hNA hDA a
        rename Act => a
        simp only [List.drop_succ_cons, List.drop_zero]
        have hq1 : ∀ q, C1[q]? = if 0 ≤ q ∧ q < 0 + 4 then [(.int .i64 fc.f.params), (.bool fc.f.uns), (.slice lac lnc lcc), (.slice bac bnc bcc)][q - 0]? else cur[q]? := fun q => by
          have := put4 (C := cur) (o := 0) (x0 := (.int .i64 fc.f.params)) (x1 := (.bool fc.f.uns)) (x2 := (.slice lac lnc lcc)) (x3 := (.slice bac bnc bcc)) hs0 q
          simp only [List.take_zero, List.nil_append, Nat.zero_add] at this ⊢
          rw [H1.out]; exact this
        have hz1 : C1.size = cur.size := by rw [H1.out]; simp; omega
        have hs5 : cm * 4 + 4 ≤ C1.size := by omega
        refine st_put S (Op.store 50 (.const (.pointer (some ⟨g, cm * 4, none⟩))) (.const (.agg #[.int .i64 f0.f.params, .bool f0.f.uns, .slice la0 ln0 lc0, .slice ba0 bn0 bc0]))) (ext ((ext ((ext (ext (ext (w.alloc (.cells #[.slice (some ⟨b_x, off_x, none⟩) n cap] 43)) z) z') y2).alloc (.cells ((List.take (cm * 4) C1.toList ++ (.int .i64 f0.f.params) :: (.bool f0.f.uns) :: (.slice la0 ln0 lc0) :: (.slice ba0 bn0 bc0) :: List.drop (cm * 4 + 4) C1.toList).toArray) 50)) y3).alloc (.cells #[.slice (some ⟨g, 0, none⟩) n qc] 43)) xq) rfl (wanted_none rfl _) (by simp [execOp, resolve, S.g 111 rfl, S.g 109 rfl, ev_c, ev_f]) ?_ (fun a S => ?_)
        · intro K' hK'
          go_wp2_with fail
          exact hK' _
        have hl0 : 0 < fss.length := (List.getElem?_eq_some_iff.1 hf0).1
        have hlc : cm < fss.length := (List.getElem?_eq_some_iff.1 hfc).1
        have hlen : fss.length = n := hown.sl.len.symm
        have hsw := own_swap (w' := ext ((ext ((ext (ext (ext (w.alloc (.cells #[.slice (some ⟨b_x, off_x, none⟩) n cap] 43)) z) z') y2).alloc (.cells ((List.take (cm * 4) C1.toList ++ (.int .i64 f0.f.params) :: (.bool f0.f.uns) :: (.slice la0 ln0 lc0) :: (.slice ba0 bn0 bc0) :: List.drop (cm * 4 + 4) C1.toList).toArray) 50)) y3).alloc (.cells #[.slice (some ⟨g, 0, none⟩) n qc] 43)) xq) hown hl0 hlc hgh (fun k hk hne => (block_stayN Gw.h ((agr_swap (o := .cells cur 50) (o' := .cells ((List.take (cm * 4) C1.toList ++ (.int .i64 f0.f.params) :: (.bool f0.f.uns) :: (.slice la0 ln0 lc0) :: (.slice ba0 bn0 bc0) :: List.drop (cm * 4 + 4) C1.toList).toArray) 50) (x := y3) hgq.out k hne hk)) hk)) (by first | omega | (simp only [size_ext, alloc_size]; omega) | simp) (cur' := ((List.take (cm * 4) C1.toList ++ (.int .i64 f0.f.params) :: (.bool f0.f.uns) :: (.slice la0 ln0 lc0) :: (.slice ba0 bn0 bc0) :: List.drop (cm * 4 + 4) C1.toList).toArray)) (by simp only [hp_alloc, hp_at, hp_ext, hp_drew]) (by rw [put4_size hs5, hz1]) (fun i j hi hj => swap_cells (n := n) rfl rfl (by rw [hgs]; show n * 4 ≤ qc * 4; omega) Hcn.out h0c hcc hq1 (put4 hs5) i j (by omega) hj)
        replace S : St8 a 206 _ := ⟨S.size, S.defers, Lk.cons (S.g 1 rfl) (Lk.cons (S.g 2 rfl) (Lk.cons (S.g 6 rfl) (Lk.cons (S.g 8 rfl) (Lk.cons (S.g 10 rfl) (Lk.cons (S.g 11 rfl) (Lk.cons (S.g 12 rfl) (Lk.cons (S.g 13 rfl) (Lk.nil))))))))⟩
        haveI eq2 : EqW p13 (ext ((ext (ext (ext (w.alloc (.cells #[.slice (some ⟨b_x, off_x, none⟩) n cap] 43)) z) z') y2).alloc (.cells ((List.take (cm * 4) C1.toList ++ (.int .i64 f0.f.params) :: (.bool f0.f.uns) :: (.slice la0 ln0 lc0) :: (.slice ba0 bn0 bc0) :: List.drop (cm * 4 + 4) C1.toList).toArray) 50)) y3) := ⟨ep13.eq.trans (by simp only [size_ext, alloc_size])⟩
        have hbox : (ext ((ext ((ext (ext (ext (w.alloc (.cells #[.slice (some ⟨b_x, off_x, none⟩) n cap] 43)) z) z') y2).alloc (.cells ((List.take (cm * 4) C1.toList ++ (.int .i64 f0.f.params) :: (.bool f0.f.uns) :: (.slice la0 ln0 lc0) :: (.slice ba0 bn0 bc0) :: List.drop (cm * 4 + 4) C1.toList).toArray) 50)) y3).alloc (.cells #[.slice (some ⟨g, 0, none⟩) n qc] 43)) xq).heap[p13]? = some (.cells #[.slice (some ⟨g, 0, none⟩) n qc] 43) := by simp only [hp_alloc, hp_at, hp_ext, hp_drew]
        have hap := Lib.hid ((Hf.out.2.apart).swap hl0 hlc)
        have hfs : Hid ((swL fss cm hl0 hlc).map FnS.f = swL p.funcs cm (by rw [← Hn.out]; exact hn0) (by rw [← Hn.out]; exact Hcn.out)) := Lib.hid (by rw [swL_map]; congr 1; exact Hf.out.1)
        obtain ⟨zT, hT⟩ := ext_of_grow (W := ext (w.alloc (.cells #[.slice (some ⟨b_x, off_x, none⟩) n cap] 43)) z) (w := ext ((ext ((ext (ext (ext (w.alloc (.cells #[.slice (some ⟨b_x, off_x, none⟩) n cap] 43)) z) z') y2).alloc (.cells ((List.take (cm * 4) C1.toList ++ (.int .i64 f0.f.params) :: (.bool f0.f.uns) :: (.slice la0 ln0 lc0) :: (.slice ba0 bn0 bc0) :: List.drop (cm * 4 + 4) C1.toList).toArray) 50)) y3).alloc (.cells #[.slice (some ⟨g, 0, none⟩) n qc] 43)) xq) Gw.h
        rw [hT] at hbox hsw ⊢
        generalize swL fss cm hl0 hlc = gss at hsw hap hfs
        clear hT hown hgh hgs ht0 htc hs4 hs0 H1 eq1 eq2 ep13 eg hq1 hz1 hs5 hgq h0c hcc hf0 hfc hl0 hlc hlen Hf hgb
        go_upto_region 21 with fail
        refine wp_region_lit ?_
        refine st_val S (Op.move (.const (.int .i64 (fN : Nat)))) (.int .i64 (fN : Nat)) rfl rfl (wanted_none rfl _) (by simp [execOp, resolve, S.g 1 rfl, ev_c, ev_f]) ?_ (fun a S => ?_)
        · intro K' hK'
          go_wp2_with fail
          exact hK'
        refine st_val S (Op.assign (.const (.int .i64 (fN : Nat)))) (.int .i64 (fN : Nat)) rfl rfl (wanted_none rfl _) (by simp [execOp, resolve, S.g 112 rfl, ev_c, ev_f]) ?_ (fun a S => ?_)
        · intro K' hK'
          go_wp2_with fail
          exact hK'
        go_upto_region 22 with fail
        rename_i K1 hK1 K0 hK0
        have REST : ∀ a, St8 a 206 [(1, .int .i64 (fN : Nat)), (2, .pointer (some ⟨w.heap.size, 0, none⟩)), (6, .bool B), (8, .slice (some ⟨b_c, off_c, none⟩) cn cc), (10, .bool ((((List.range 8).filter (callsTo x)).take k).any (recOne p fN))), (11, .int .i64 (k : Nat)), (12, .int .i64 (cm : Nat)), (13, .pointer (some ⟨p13, 0, none⟩)), (14, .int .i64 (sw cm fN : Nat))] → K1 a (ext (ext (w.alloc (.cells #[.slice (some ⟨b_x, off_x, none⟩) n cap] 43)) z) zT) := by
          intro a S
          refine hK1 _ _ ?_
          clear hK1 K0 hK0
          go_upto_region 26 with fail
          refine wp_region_lit ?_
          refine st_val S (Op.assign (.const (.int .i64 0))) (.int .i64 0) rfl rfl (wanted_none rfl _) (by simp [execOp, resolve, ev_c, ev_f]) ?_ (fun a S => ?_)
          · intro K' hK'
            go_wp2_with fail
            exact hK'
          obtain ⟨bs, hbs⟩ : ∃ b, b = (ext (ext (w.alloc (.cells #[.slice (some ⟨b_x, off_x, none⟩) n cap] 43)) z) z').heap.size := ⟨_, rfl⟩
          rw [← hbs] at hsw
          have hbW : (ext (w.alloc (.cells #[.slice (some ⟨b_x, off_x, none⟩) n cap] 43)) z).heap.size ≤ bs := by rw [hbs]; simp
          replace hbs := Lib.hid hbs
          have hQ : QI8 p13 g n qc bs (ext (ext (w.alloc (.cells #[.slice (some ⟨b_x, off_x, none⟩) n cap] 43)) z) zT) gss := ⟨hbox, hsw, hap.out⟩
          clear hbox hsw hap
          obtain ⟨s0, Hs0, hfs⟩ : ∃ s0 : List Fn, Hid (s0.map (fR cm) = (qR p cm).funcs ∧ s0.length = n ∧ ∀ f ∈ s0, fnErr f = 0) ∧ Hid (gss.map FnS.f = s0) := by
            refine ⟨_, Lib.hid ⟨(qR_eq _ _).symm, by rw [swL_len, Hn.out], fun f hf => ?_⟩, hfs⟩
            obtain ⟨i, hi⟩ := List.getElem?_of_mem hf
            rw [swL_at] at hi
            exact H8.out.2.2.1 f (List.mem_of_getElem? hi)
          go_wp2_with fail
          refine wp_loop_ghost_k (fun m a w' => ∃ (kk : Nat) (y : Ext) (hs : List FnS), m = n - kk ∧ kk ≤ n ∧ St8 a 206 [(1, .int .i64 (fN : Nat)), (2, .pointer (some ⟨w.heap.size, 0, none⟩)), (6, .bool B), (8, .slice (some ⟨b_c, off_c, none⟩) cn cc), (10, .bool ((((List.range 8).filter (callsTo x)).take k).any (recOne p fN))), (11, .int .i64 (k : Nat)), (12, .int .i64 (cm : Nat)), (13, .pointer (some ⟨p13, 0, none⟩)), (14, .int .i64 (sw cm fN : Nat)), (15, .int .i64 (kk : Nat))] ∧ w' = ext (ext (w.alloc (.cells #[.slice (some ⟨b_x, off_x, none⟩) n cap] 43)) z) y ∧ QI8 p13 g n qc bs (ext (ext (w.alloc (.cells #[.slice (some ⟨b_x, off_x, none⟩) n cap] 43)) z) y) hs ∧ Hid (hs.map FnS.f = stL (cm : Int) s0 kk 0)) n ⟨0, zT, gss, by omega, by omega, ⟨S.size, S.defers, Lk.cons (S.g 1 rfl) (Lk.cons (S.g 2 rfl) (Lk.cons (S.g 6 rfl) (Lk.cons (S.g 8 rfl) (Lk.cons (S.g 10 rfl) (Lk.cons (S.g 11 rfl) (Lk.cons (S.g 12 rfl) (Lk.cons (S.g 13 rfl) (Lk.cons (S.g 14 rfl) (Lk.cons (S.g 15 rfl) (Lk.nil))))))))))⟩, rfl, hQ, Lib.hid (by rw [stL_start]; exact hfs.out)⟩ ?_
          clear hQ hfs S
          rintro m a w' ⟨kk, y, hs, rfl, hkk, S, rfl, hQ, hfs⟩ J3 K3 hJ3 hK3
          obtain ⟨hr1, hr2⟩ := hQ.row
          by_cases hk3 : kk < n
          · have hk8 : (kk : Int) < n := by omega
            go_upto_region 27 with fail
            refine wp_region_lit ?_
            refine st_val S (Op.move (.const (.int .i64 (kk : Nat)))) (.int .i64 (kk : Nat)) rfl rfl (wanted_none rfl _) (by simp [execOp, resolve, S.g 15 rfl, ev_c, ev_f]) ?_ (fun a S => ?_)
            · intro K' hK'
              go_wp2_with fail
              exact hK'
            refine st_val S (Op.fieldAddr 43 (.const (.pointer (some ⟨p13, 0, none⟩))) 0) (.pointer (some ⟨p13, 0, none⟩)) rfl rfl (wanted_none rfl _) (by simp [execOp, resolve, S.g 13 rfl, ev_c, ev_f]) ?_ (fun a S => ?_)
            · intro K' hK'
              go_wp2_with fail
              exact hK'
            refine st_val S (Op.load 41 (.const (.pointer (some ⟨p13, 0, none⟩)))) (.slice (some ⟨g, 0, none⟩) n qc) rfl rfl (wanted_none rfl _) (by simp [execOp, resolve, S.g 120 rfl, ev_c, ev_f]) ?_ (fun a S => ?_)
            · intro K' hK'
              go_wp2_with fail
              exact hK'
            refine st_pure S (.int .i64 n) rfl rfl (wanted_none rfl _) (by simp [execOp, resolve, S.g 121 rfl, ev_c, ev_f]; go_simp) (fun a S => ?_)
            refine st_val S (Op.binOp BinOp.lss 3 (.const (.int .i64 (kk : Nat))) (.const (.int .i64 n)) 3) (.bool true) rfl rfl (wanted_none rfl _) (by simp [execOp, resolve, S.g 119 rfl, S.g 122 rfl, ev_c, ev_f, eqGuard]) ?_ (fun a S => ?_)
            · intro K' hK'
              go_wp2_with fail
              exact hK'
            go_upto_region 29 with fail
            refine wp_cond_true (S.g 123 rfl) ?_
            obtain ⟨f, hf⟩ : ∃ f, s0[kk]? = some f := ⟨_, List.getElem?_eq_getElem (by rw [Hs0.out.2.1]; exact hk3)⟩
            replace hf := Lib.hid hf
            have hbl0 : 0 < f.blocks.length := by
              have := (fn_good (Hs0.out.2.2 f (List.mem_of_getElem? hf.out))).2.1
              unfold madeB at this; simp only [Bool.and_eq_true, decide_eq_true_eq] at this; exact this.1.2
            obtain ⟨bl, hbl⟩ : ∃ b, b = f.blocks.length := ⟨_, rfl⟩
            rw [← hbl] at hbl0
            replace hbl := Lib.hid hbl
            go_upto_region 29 with fail
            refine wp_region_lit ?_
            refine st_val S (Op.assign (.const (.int .i64 0))) (.int .i64 0) rfl rfl (wanted_none rfl _) (by simp [execOp, resolve, ev_c, ev_f]) ?_ (fun a S => ?_)
            · intro K' hK'
              go_wp2_with fail
              exact hK'
            go_wp2_with fail
            refine wp_loop_ghost_k (fun m a w' => ∃ (b : Nat) (y : Ext) (hs : List FnS), m = bl - b ∧ b ≤ bl ∧ St8 a 206 [(1, .int .i64 (fN : Nat)), (2, .pointer (some ⟨w.heap.size, 0, none⟩)), (6, .bool B), (8, .slice (some ⟨b_c, off_c, none⟩) cn cc), (10, .bool ((((List.range 8).filter (callsTo x)).take k).any (recOne p fN))), (11, .int .i64 (k : Nat)), (12, .int .i64 (cm : Nat)), (13, .pointer (some ⟨p13, 0, none⟩)), (14, .int .i64 (sw cm fN : Nat)), (15, .int .i64 (kk : Nat)), (16, .int .i64 (b : Nat))] ∧ w' = ext (ext (w.alloc (.cells #[.slice (some ⟨b_x, off_x, none⟩) n cap] 43)) z) y ∧ QI8 p13 g n qc bs (ext (ext (w.alloc (.cells #[.slice (some ⟨b_x, off_x, none⟩) n cap] 43)) z) y) hs ∧ Hid (hs.map FnS.f = stL (cm : Int) s0 kk b)) bl ⟨0, y, hs, by omega, by omega, ⟨S.size, S.defers, Lk.cons (S.g 1 rfl) (Lk.cons (S.g 2 rfl) (Lk.cons (S.g 6 rfl) (Lk.cons (S.g 8 rfl) (Lk.cons (S.g 10 rfl) (Lk.cons (S.g 11 rfl) (Lk.cons (S.g 12 rfl) (Lk.cons (S.g 13 rfl) (Lk.cons (S.g 14 rfl) (Lk.cons (S.g 15 rfl) (Lk.cons (S.g 16 rfl) (Lk.nil)))))))))))⟩, rfl, hQ, hfs⟩ ?_
            clear hQ hfs S hr1 hr2
            rintro m a w' ⟨b, y, hs, rfl, hbb, S, rfl, hQ, hfs⟩ J4 K4 hJ4 hK4
            obtain ⟨hr1, hr2⟩ := hQ.row
            have hfk : (hs.map FnS.f)[kk]? = some (stF cm f b) := by rw [hfs.out]; exact stL_here hf.out
            have hfl : (stF cm f b).blocks.length = bl := by rw [stF_len, hbl.out]
            by_cases hb4 : b < bl
            · have hb8 : (b : Int) < bl := by omega
              obtain ⟨x4, hx4⟩ : ∃ x, f.blocks[b]? = some x := ⟨_, List.getElem?_eq_getElem (by rw [← hbl.out]; exact hb4)⟩
              replace hx4 := Lib.hid hx4
              obtain ⟨R, bc, curR, hg3, hbc1, hbc2, hRh, hRp, hRb, hxw, hc1, hc7, hprom⟩ := hQ.at hfk (stF_at (c := cm) hx4.out)
              rw [hfl] at hg3 hbc1
              have hgr := row_oneR hg3
              replace hprom := Lib.hid hprom
              replace hfk := Lib.hid hfk
              replace hfl := Lib.hid hfl
              have hR1 : (ext (ext (w.alloc (.cells #[.slice (some ⟨b_x, off_x, none⟩) n cap] 43)) z) y).cell? ⟨R, b * 14 + 1, none⟩ = some (.int .u8 x4.jump.kind) := by simp only [World.cell?, hRh]; exact hc1
              have hR7 : (ext (ext (w.alloc (.cells #[.slice (some ⟨b_x, off_x, none⟩) n cap] 43)) z) y).cell? ⟨R, b * 14 + 7, none⟩ = some (.int .i64 x4.jump.fn) := by simp only [World.cell?, hRh]; exact hc7
              have hq1 := row_oneR hR1
              have hq7 := row_oneR hR7
              go_upto_region 30 with fail
              refine wp_region_lit ?_
              refine st_val S (Op.move (.const (.int .i64 (b : Nat)))) (.int .i64 (b : Nat)) rfl rfl (wanted_none rfl _) (by simp [execOp, resolve, S.g 16 rfl, ev_c, ev_f]) ?_ (fun a S => ?_)
              · intro K' hK'
                go_wp2_with fail
                exact hK'
              refine st_val S (Op.fieldAddr 43 (.const (.pointer (some ⟨p13, 0, none⟩))) 0) (.pointer (some ⟨p13, 0, none⟩)) rfl rfl (wanted_none rfl _) (by simp [execOp, resolve, S.g 13 rfl, ev_c, ev_f]) ?_ (fun a S => ?_)
              · intro K' hK'
                go_wp2_with fail
                exact hK'
              refine st_val S (Op.load 41 (.const (.pointer (some ⟨p13, 0, none⟩)))) (.slice (some ⟨g, 0, none⟩) n qc) rfl rfl (wanted_none rfl _) (by simp [execOp, resolve, S.g 127 rfl, ev_c, ev_f]) ?_ (fun a S => ?_)
              · intro K' hK'
                go_wp2_with fail
                exact hK'
              refine st_val S (Op.move (.const (.int .i64 (kk : Nat)))) (.int .i64 (kk : Nat)) rfl rfl (wanted_none rfl _) (by simp [execOp, resolve, S.g 15 rfl, ev_c, ev_f]) ?_ (fun a S => ?_)
              · intro K' hK'
                go_wp2_with fail
                exact hK'
              refine st_val S (Op.indexAddr 41 (.const (.slice (some ⟨g, 0, none⟩) n qc)) (.const (.int .i64 (kk : Nat)))) (.pointer (some ⟨g, kk * 4, none⟩)) rfl rfl (wanted_none rfl _) (by simp [execOp, resolve, S.g 128 rfl, S.g 129 rfl, ev_c, ev_f]) ?_ (fun a S => ?_)
              · intro K' hK'
                go_wp2_with fail
                exact hK'
              refine st_val S (Op.fieldAddr 50 (.const (.pointer (some ⟨g, kk * 4, none⟩))) 3) (.pointer (some ⟨g, kk * 4 + 3, none⟩)) rfl rfl (wanted_none rfl _) (by simp [execOp, resolve, S.g 130 rfl, ev_c, ev_f]) ?_ (fun a S => ?_)
              · intro K' hK'
                go_wp2_with fail
                exact hK'
              refine st_val S (Op.load 48 (.const (.pointer (some ⟨g, kk * 4 + 3, none⟩)))) (.slice (some ⟨R, 0, none⟩) bl bc) rfl rfl (wanted_none rfl _) (by simp [execOp, resolve, S.g 131 rfl, ev_c, ev_f]) ?_ (fun a S => ?_)
              · intro K' hK'
                go_wp2_with fail
                exact hK'
              refine st_pure S (.int .i64 bl) rfl rfl (wanted_none rfl _) (by simp [execOp, resolve, S.g 132 rfl, ev_c, ev_f]; go_simp) (fun a S => ?_)
              refine st_val S (Op.binOp BinOp.lss 3 (.const (.int .i64 (b : Nat))) (.const (.int .i64 bl)) 3) (.bool true) rfl rfl (wanted_none rfl _) (by simp [execOp, resolve, S.g 126 rfl, S.g 133 rfl, ev_c, ev_f, eqGuard]) ?_ (fun a S => ?_)
              · intro K' hK'
                go_wp2_with fail
                exact hK'
              go_upto_region 32 with fail
              refine wp_cond_true (S.g 134 rfl) ?_
              go_upto_region 32 with fail
              refine wp_region_lit ?_
              refine st_val S (Op.fieldAddr 43 (.const (.pointer (some ⟨p13, 0, none⟩))) 0) (.pointer (some ⟨p13, 0, none⟩)) rfl rfl (wanted_none rfl _) (by simp [execOp, resolve, S.g 13 rfl, ev_c, ev_f]) ?_ (fun a S => ?_)
              · intro K' hK'
                go_wp2_with fail
                exact hK'
              refine st_val S (Op.load 41 (.const (.pointer (some ⟨p13, 0, none⟩)))) (.slice (some ⟨g, 0, none⟩) n qc) rfl rfl (wanted_none rfl _) (by simp [execOp, resolve, S.g 137 rfl, ev_c, ev_f]) ?_ (fun a S => ?_)
              · intro K' hK'
                go_wp2_with fail
                exact hK'
              refine st_val S (Op.move (.const (.int .i64 (kk : Nat)))) (.int .i64 (kk : Nat)) rfl rfl (wanted_none rfl _) (by simp [execOp, resolve, S.g 15 rfl, ev_c, ev_f]) ?_ (fun a S => ?_)
              · intro K' hK'
                go_wp2_with fail
                exact hK'
              refine st_val S (Op.indexAddr 41 (.const (.slice (some ⟨g, 0, none⟩) n qc)) (.const (.int .i64 (kk : Nat)))) (.pointer (some ⟨g, kk * 4, none⟩)) rfl rfl (wanted_none rfl _) (by simp [execOp, resolve, S.g 138 rfl, S.g 139 rfl, ev_c, ev_f]) ?_ (fun a S => ?_)
              · intro K' hK'
                go_wp2_with fail
                exact hK'
              refine st_val S (Op.fieldAddr 50 (.const (.pointer (some ⟨g, kk * 4, none⟩))) 3) (.pointer (some ⟨g, kk * 4 + 3, none⟩)) rfl rfl (wanted_none rfl _) (by simp [execOp, resolve, S.g 140 rfl, ev_c, ev_f]) ?_ (fun a S => ?_)
              · intro K' hK'
                go_wp2_with fail
                exact hK'
              refine st_val S (Op.load 48 (.const (.pointer (some ⟨g, kk * 4 + 3, none⟩)))) (.slice (some ⟨R, 0, none⟩) bl bc) rfl rfl (wanted_none rfl _) (by simp [execOp, resolve, S.g 141 rfl, ev_c, ev_f]) ?_ (fun a S => ?_)
              · intro K' hK'
                go_wp2_with fail
                exact hK'
              refine st_val S (Op.move (.const (.int .i64 (b : Nat)))) (.int .i64 (b : Nat)) rfl rfl (wanted_none rfl _) (by simp [execOp, resolve, S.g 16 rfl, ev_c, ev_f]) ?_ (fun a S => ?_)
              · intro K' hK'
                go_wp2_with fail
                exact hK'
              refine st_val S (Op.indexAddr 48 (.const (.slice (some ⟨R, 0, none⟩) bl bc)) (.const (.int .i64 (b : Nat)))) (.pointer (some ⟨R, b * 14, none⟩)) rfl rfl (wanted_none rfl _) (by simp [execOp, resolve, S.g 142 rfl, S.g 143 rfl, ev_c, ev_f]) ?_ (fun a S => ?_)
              · intro K' hK'
                go_wp2_with fail
                exact hK'
              refine st_val S (Op.fieldAddr 63 (.const (.pointer (some ⟨R, b * 14, none⟩))) 1) (.pointer (some ⟨R, b * 14 + 1, none⟩)) rfl rfl (wanted_none rfl _) (by simp [execOp, resolve, S.g 144 rfl, ev_c, ev_f]) ?_ (fun a S => ?_)
              · intro K' hK'
                go_wp2_with fail
                exact hK'
              refine st_val S (Op.assign (.const (.pointer (some ⟨R, b * 14 + 1, none⟩)))) (.pointer (some ⟨R, b * 14 + 1, none⟩)) rfl rfl (wanted_none rfl _) (by simp [execOp, resolve, S.g 145 rfl, ev_c, ev_f]) ?_ (fun a S => ?_)
              · intro K' hK'
                go_wp2_with fail
                exact hK'
              have h0I : I64 0 := ⟨by decide, by decide⟩
              have hcI : I64 ((cm : Nat) : Int) := by have := Hcn.out; exact ⟨by omega, by omega⟩
              by_cases h4 : x4.jump.kind = 4
              · have hkd : (x4.jump.kind == 4) = true := by simp [h4]
                replace h4 := Lib.hid h4
                by_cases hz0 : x4.jump.fn = 0
                · have hq0 : (x4.jump.fn == 0) = true := by simp [hz0]
                  have hA : x4.jump.kind = 4 ∧ x4.jump.fn = 0 := ⟨h4.out, hz0⟩
                  replace hA := Lib.hid hA
                  clear hz0 h4
                  go_upto_region 33 with fail
                  refine wp_region_lit ?_
                  refine st_val S (Op.move (.const (.pointer (some ⟨R, b * 14 + 1, none⟩)))) (.pointer (some ⟨R, b * 14 + 1, none⟩)) rfl rfl (wanted_none rfl _) (by simp [execOp, resolve, S.g 17 rfl, ev_c, ev_f]) ?_ (fun a S => ?_)
                  · intro K' hK'
                    go_wp2_with fail
                    exact hK'
                  refine st_val S (Op.nilCheck (.const (.pointer (some ⟨R, b * 14 + 1, none⟩)))) (.pointer (some ⟨R, b * 14 + 1, none⟩)) rfl rfl (wanted_none rfl _) (by simp [execOp, resolve, S.g 146 rfl, ev_c, ev_f]) ?_ (fun a S => ?_)
                  · intro K' hK'
                    go_wp2_with fail
                    exact hK'
                  refine st_val S (Op.fieldAddr 46 (.const (.pointer (some ⟨R, b * 14 + 1, none⟩))) 0) (.pointer (some ⟨R, b * 14 + 1, none⟩)) rfl rfl (wanted_none rfl _) (by simp [execOp, resolve, S.g 147 rfl, ev_c, ev_f]) ?_ (fun a S => ?_)
                  · intro K' hK'
                    go_wp2_with fail
                    exact hK'
                  refine st_val S (Op.load 5 (.const (.pointer (some ⟨R, b * 14 + 1, none⟩)))) (.int .u8 x4.jump.kind) rfl rfl (wanted_none rfl _) (by simp [execOp, resolve, S.g 148 rfl, ev_c, ev_f]) ?_ (fun a S => ?_)
                  · intro K' hK'
                    go_wp2_with fail
                    exact hK'
                  refine st_val S (Op.binOp BinOp.eql 5 (.const (.int .u8 x4.jump.kind)) (.const (.int .u8 4)) 5) (.bool true) rfl rfl (wanted_none rfl _) (by simp [execOp, resolve, S.g 149 rfl, ev_c, ev_f, eqGuard]) ?_ (fun a S => ?_)
                  · intro K' hK'
                    go_wp2_with fail
                    exact hK'
                  refine st_val S (Op.move (.const (.bool true))) (.bool true) rfl rfl (wanted_none rfl _) (by simp [execOp, resolve, S.g 150 rfl, ev_c, ev_f]) ?_ (fun a S => ?_)
                  · intro K' hK'
                    go_wp2_with fail
                    exact hK'
                  refine st_val S (Op.move (.const (.pointer (some ⟨R, b * 14 + 1, none⟩)))) (.pointer (some ⟨R, b * 14 + 1, none⟩)) rfl rfl (want_at (g := 5) (d := 151) (b := true) S rfl rfl rfl rfl rfl) (by simp [execOp, resolve, S.g 17 rfl, ev_c, ev_f]) ?_ (fun a S => ?_)
                  · intro K' hK'
                    go_wp2_with fail
                    exact hK'
                  refine st_val S (Op.nilCheck (.const (.pointer (some ⟨R, b * 14 + 1, none⟩)))) (.pointer (some ⟨R, b * 14 + 1, none⟩)) rfl rfl (want_at (g := 5) (d := 151) (b := true) S rfl rfl rfl rfl rfl) (by simp [execOp, resolve, S.g 152 rfl, ev_c, ev_f]) ?_ (fun a S => ?_)
                  · intro K' hK'
                    go_wp2_with fail
                    exact hK'
                  refine st_val S (Op.fieldAddr 46 (.const (.pointer (some ⟨R, b * 14 + 1, none⟩))) 2) (.pointer (some ⟨R, b * 14 + 7, none⟩)) rfl rfl (want_at (g := 5) (d := 151) (b := true) S rfl rfl rfl rfl rfl) (by simp [execOp, resolve, S.g 153 rfl, ev_c, ev_f]) ?_ (fun a S => ?_)
                  · intro K' hK'
                    go_wp2_with fail
                    exact hK'
                  refine st_val S (Op.load 3 (.const (.pointer (some ⟨R, b * 14 + 7, none⟩)))) (.int .i64 x4.jump.fn) rfl rfl (want_at (g := 5) (d := 151) (b := true) S rfl rfl rfl rfl rfl) (by simp [execOp, resolve, S.g 154 rfl, ev_c, ev_f]) ?_ (fun a S => ?_)
                  · intro K' hK'
                    go_wp2_with fail
                    exact hK'
                  refine st_val S (Op.binOp BinOp.eql 3 (.const (.int .i64 x4.jump.fn)) (.const (.int .i64 0)) 3) (.bool true) rfl rfl (want_at (g := 5) (d := 151) (b := true) S rfl rfl rfl rfl rfl) (by simp [execOp, resolve, S.g 155 rfl, ev_c, ev_f, eqGuard]) ?_ (fun a S => ?_)
                  · intro K' hK'
                    go_wp2_with fail
                    exact hK'
                  refine st_val S (Op.pick (.const (.bool true)) (.const (.bool true)) (.const (.bool false))) (.bool true) rfl rfl (wanted_none rfl _) (by simp [execOp, resolve, S.g 151 rfl, S.g 156 rfl, ev_c, ev_f]) ?_ (fun a S => ?_)
                  · intro K' hK'
                    go_wp2_with fail
                    exact hK'
                  go_upto_region 34 with fail
                  refine wp_cond_true (S.g 157 rfl) ?_
                  go_upto_region 34 with fail
                  refine wp_region_lit ?_
                  refine st_val S (Op.move (.const (.pointer (some ⟨R, b * 14 + 1, none⟩)))) (.pointer (some ⟨R, b * 14 + 1, none⟩)) rfl rfl (wanted_none rfl _) (by simp [execOp, resolve, S.g 17 rfl, ev_c, ev_f]) ?_ (fun a S => ?_)
                  · intro K' hK'
                    go_wp2_with fail
                    exact hK'
                  refine st_val S (Op.move (.const (.int .i64 (cm : Nat)))) (.int .i64 (cm : Nat)) rfl rfl (wanted_none rfl _) (by simp [execOp, resolve, S.g 12 rfl, ev_c, ev_f]) ?_ (fun a S => ?_)
                  · intro K' hK'
                    go_wp2_with fail
                    exact hK'
                  refine st_val S (Op.nilCheck (.const (.pointer (some ⟨R, b * 14 + 1, none⟩)))) (.pointer (some ⟨R, b * 14 + 1, none⟩)) rfl rfl (wanted_none rfl _) (by simp [execOp, resolve, S.g 158 rfl, ev_c, ev_f]) ?_ (fun a S => ?_)
                  · intro K' hK'
                    go_wp2_with fail
                    exact hK'
                  refine st_val S (Op.fieldAddr 46 (.const (.pointer (some ⟨R, b * 14 + 1, none⟩))) 2) (.pointer (some ⟨R, b * 14 + 7, none⟩)) rfl rfl (wanted_none rfl _) (by simp [execOp, resolve, S.g 160 rfl, ev_c, ev_f]) ?_ (fun a S => ?_)
                  · intro K' hK'
                    go_wp2_with fail
                    exact hK'
                  have hfz : (ext (ext (w.alloc (.cells #[.slice (some ⟨b_x, off_x, none⟩) n cap] 43)) z) y).frozen? ⟨R, b * 14 + 7, none⟩ = false := frozen_of_row _ _ _ _ _ hRh
                  refine st_put S (Op.store 3 (.const (.pointer (some ⟨R, b * 14 + 7, none⟩))) (.const (.int .i64 (cm : Nat)))) ((ext (ext (w.alloc (.cells #[.slice (some ⟨b_x, off_x, none⟩) n cap] 43)) z) y).setCell ⟨R, b * 14 + 7, none⟩ (.int .i64 (cm : Nat))) rfl (wanted_none rfl _) (by simp [execOp, resolve, S.g 161 rfl, S.g 159 rfl, ev_c, ev_f]) ?_ (fun a S => ?_)
                  · intro K' hK'
                    go_wp2_with fail
                    exact hK' _
                  obtain ⟨gss', hQ', hms⟩ := hprom.out ((cm : Nat)) ((ext (ext (w.alloc (.cells #[.slice (some ⟨b_x, off_x, none⟩) n cap] 43)) z) y).setCell ⟨R, b * 14 + 7, none⟩ (.int .i64 (cm : Nat))) hcI (fun q _ hne => heap_setCell_other _ _ _ _ hne) (by simp) (heap_setCell_same _ _ _ _ _ _ hRh)
                  obtain ⟨y2, hy2⟩ := ext_of_grow (Grow.setCell (b := ext (ext (w.alloc (.cells #[.slice (some ⟨b_x, off_x, none⟩) n cap] 43)) z) y) (p := ⟨R, b * 14 + 7, none⟩) (grow_ext (ext (w.alloc (.cells #[.slice (some ⟨b_x, off_x, none⟩) n cap] 43)) z) y) (by show _ ≤ R; omega) (.int .i64 (cm : Nat)))
                  have hbr : bR (cm : Int) x4 = bkJ x4 (juFn x4.jump (cm : Nat)) := by unfold bR jR; rw [if_pos hA.out]
                  rw [hy2] at hQ' ⊢
                  go_upto_region 31 with fail
                  refine wp_region_lit ?_
                  refine st_val S (Op.move (.const (.int .i64 (b : Nat)))) (.int .i64 (b : Nat)) rfl rfl (wanted_none rfl _) (by simp [execOp, resolve, S.g 16 rfl, ev_c, ev_f]) ?_ (fun a S => ?_)
                  · intro K' hK'
                    go_wp2_with fail
                    exact hK'
                  refine st_val S (Op.binOp BinOp.add 3 (.const (.int .i64 (b : Nat))) (.const (.int .i64 1)) 3) (.int .i64 ((b : Int) + 1)) rfl rfl (wanted_none rfl _) (by simp [execOp, resolve, S.g 135 rfl, ev_c, ev_f, eqGuard]) ?_ (fun a S => ?_)
                  · intro K' hK'
                    go_wp2_with fail
                    exact hK'
                  refine st_val S (Op.assign (.const (.int .i64 ((b : Int) + 1)))) (.int .i64 ((b : Int) + 1)) rfl rfl (wanted_none rfl _) (by simp [execOp, resolve, S.g 136 rfl, ev_c, ev_f]) ?_ (fun a S => ?_)
                  · intro K' hK'
                    go_wp2_with fail
                    exact hK'
                  go_upto_region 99 with fail
                  exact Handed.intro (bl - (b + 1)) (by omega) (hJ4 _ _ _ ⟨b + 1, y2, gss', rfl, by omega, ⟨S.size, S.defers, Lk.cons (S.g 1 rfl) (Lk.cons (S.g 2 rfl) (Lk.cons (S.g 6 rfl) (Lk.cons (S.g 8 rfl) (Lk.cons (S.g 10 rfl) (Lk.cons (S.g 11 rfl) (Lk.cons (S.g 12 rfl) (Lk.cons (S.g 13 rfl) (Lk.cons (S.g 14 rfl) (Lk.cons (S.g 15 rfl) (Lk.cons (S.g 16 rfl) (Lk.nil)))))))))))⟩, rfl, hQ', Lib.hid (by rw [hms, hfs.out, ← hbr]; exact stL_step hf.out hx4.out)⟩)
                · have hq0 : (x4.jump.fn == 0) = false := by simp; exact hz0
                  have hA : ¬ (x4.jump.kind = 4 ∧ x4.jump.fn = 0) := fun h => hz0 h.2
                  go_upto_region 33 with fail
                  refine wp_region_lit ?_
                  refine st_val S (Op.move (.const (.pointer (some ⟨R, b * 14 + 1, none⟩)))) (.pointer (some ⟨R, b * 14 + 1, none⟩)) rfl rfl (wanted_none rfl _) (by simp [execOp, resolve, S.g 17 rfl, ev_c, ev_f]) ?_ (fun a S => ?_)
                  · intro K' hK'
                    go_wp2_with fail
                    exact hK'
                  refine st_val S (Op.nilCheck (.const (.pointer (some ⟨R, b * 14 + 1, none⟩)))) (.pointer (some ⟨R, b * 14 + 1, none⟩)) rfl rfl (wanted_none rfl _) (by simp [execOp, resolve, S.g 146 rfl, ev_c, ev_f]) ?_ (fun a S => ?_)
                  · intro K' hK'
                    go_wp2_with fail
                    exact hK'
                  refine st_val S (Op.fieldAddr 46 (.const (.pointer (some ⟨R, b * 14 + 1, none⟩))) 0) (.pointer (some ⟨R, b * 14 + 1, none⟩)) rfl rfl (wanted_none rfl _) (by simp [execOp, resolve, S.g 147 rfl, ev_c, ev_f]) ?_ (fun a S => ?_)
                  · intro K' hK'
                    go_wp2_with fail
                    exact hK'
                  refine st_val S (Op.load 5 (.const (.pointer (some ⟨R, b * 14 + 1, none⟩)))) (.int .u8 x4.jump.kind) rfl rfl (wanted_none rfl _) (by simp [execOp, resolve, S.g 148 rfl, ev_c, ev_f]) ?_ (fun a S => ?_)
                  · intro K' hK'
                    go_wp2_with fail
                    exact hK'
                  refine st_val S (Op.binOp BinOp.eql 5 (.const (.int .u8 x4.jump.kind)) (.const (.int .u8 4)) 5) (.bool true) rfl rfl (wanted_none rfl _) (by simp [execOp, resolve, S.g 149 rfl, ev_c, ev_f, eqGuard]) ?_ (fun a S => ?_)
                  · intro K' hK'
                    go_wp2_with fail
                    exact hK'
                  refine st_val S (Op.move (.const (.bool true))) (.bool true) rfl rfl (wanted_none rfl _) (by simp [execOp, resolve, S.g 150 rfl, ev_c, ev_f]) ?_ (fun a S => ?_)
                  · intro K' hK'
                    go_wp2_with fail
                    exact hK'
                  refine st_val S (Op.move (.const (.pointer (some ⟨R, b * 14 + 1, none⟩)))) (.pointer (some ⟨R, b * 14 + 1, none⟩)) rfl rfl (want_at (g := 5) (d := 151) (b := true) S rfl rfl rfl rfl rfl) (by simp [execOp, resolve, S.g 17 rfl, ev_c, ev_f]) ?_ (fun a S => ?_)
                  · intro K' hK'
                    go_wp2_with fail
                    exact hK'
                  refine st_val S (Op.nilCheck (.const (.pointer (some ⟨R, b * 14 + 1, none⟩)))) (.pointer (some ⟨R, b * 14 + 1, none⟩)) rfl rfl (want_at (g := 5) (d := 151) (b := true) S rfl rfl rfl rfl rfl) (by simp [execOp, resolve, S.g 152 rfl, ev_c, ev_f]) ?_ (fun a S => ?_)
                  · intro K' hK'
                    go_wp2_with fail
                    exact hK'
                  refine st_val S (Op.fieldAddr 46 (.const (.pointer (some ⟨R, b * 14 + 1, none⟩))) 2) (.pointer (some ⟨R, b * 14 + 7, none⟩)) rfl rfl (want_at (g := 5) (d := 151) (b := true) S rfl rfl rfl rfl rfl) (by simp [execOp, resolve, S.g 153 rfl, ev_c, ev_f]) ?_ (fun a S => ?_)
                  · intro K' hK'
                    go_wp2_with fail
                    exact hK'
                  refine st_val S (Op.load 3 (.const (.pointer (some ⟨R, b * 14 + 7, none⟩)))) (.int .i64 x4.jump.fn) rfl rfl (want_at (g := 5) (d := 151) (b := true) S rfl rfl rfl rfl rfl) (by simp [execOp, resolve, S.g 154 rfl, ev_c, ev_f]) ?_ (fun a S => ?_)
                  · intro K' hK'
                    go_wp2_with fail
                    exact hK'
                  refine st_val S (Op.binOp BinOp.eql 3 (.const (.int .i64 x4.jump.fn)) (.const (.int .i64 0)) 3) (.bool false) rfl rfl (want_at (g := 5) (d := 151) (b := true) S rfl rfl rfl rfl rfl) (by simp [execOp, resolve, S.g 155 rfl, ev_c, ev_f, eqGuard]) ?_ (fun a S => ?_)
                  · intro K' hK'
                    go_wp2_with fail
                    exact hK'
                  refine st_val S (Op.pick (.const (.bool true)) (.const (.bool false)) (.const (.bool false))) (.bool false) rfl rfl (wanted_none rfl _) (by simp [execOp, resolve, S.g 151 rfl, S.g 156 rfl, ev_c, ev_f]) ?_ (fun a S => ?_)
                  · intro K' hK'
                    go_wp2_with fail
                    exact hK'
                  go_upto_region 34 with fail
                  refine wp_cond_false (S.g 157 rfl) ?_
                  by_cases hc1 : x4.jump.fn = (cm : Int)
                  · have hqc : (x4.jump.fn == (cm : Int)) = true := by simp [hc1]
                    have hB : x4.jump.kind = 4 ∧ x4.jump.fn = (cm : Int) := ⟨h4.out, hc1⟩
                    replace hB := Lib.hid hB
                    replace hA := Lib.hid hA
                    clear hc1 h4
                    go_upto_region 35 with fail
                    refine wp_region_lit ?_
                    refine st_val S (Op.move (.const (.pointer (some ⟨R, b * 14 + 1, none⟩)))) (.pointer (some ⟨R, b * 14 + 1, none⟩)) rfl rfl (wanted_none rfl _) (by simp [execOp, resolve, S.g 17 rfl, ev_c, ev_f]) ?_ (fun a S => ?_)
                    · intro K' hK'
                      go_wp2_with fail
                      exact hK'
                    refine st_val S (Op.nilCheck (.const (.pointer (some ⟨R, b * 14 + 1, none⟩)))) (.pointer (some ⟨R, b * 14 + 1, none⟩)) rfl rfl (wanted_none rfl _) (by simp [execOp, resolve, S.g 162 rfl, ev_c, ev_f]) ?_ (fun a S => ?_)
                    · intro K' hK'
                      go_wp2_with fail
                      exact hK'
                    refine st_val S (Op.fieldAddr 46 (.const (.pointer (some ⟨R, b * 14 + 1, none⟩))) 0) (.pointer (some ⟨R, b * 14 + 1, none⟩)) rfl rfl (wanted_none rfl _) (by simp [execOp, resolve, S.g 163 rfl, ev_c, ev_f]) ?_ (fun a S => ?_)
                    · intro K' hK'
                      go_wp2_with fail
                      exact hK'
                    refine st_val S (Op.load 5 (.const (.pointer (some ⟨R, b * 14 + 1, none⟩)))) (.int .u8 x4.jump.kind) rfl rfl (wanted_none rfl _) (by simp [execOp, resolve, S.g 164 rfl, ev_c, ev_f]) ?_ (fun a S => ?_)
                    · intro K' hK'
                      go_wp2_with fail
                      exact hK'
                    refine st_val S (Op.binOp BinOp.eql 5 (.const (.int .u8 x4.jump.kind)) (.const (.int .u8 4)) 5) (.bool true) rfl rfl (wanted_none rfl _) (by simp [execOp, resolve, S.g 165 rfl, ev_c, ev_f, eqGuard]) ?_ (fun a S => ?_)
                    · intro K' hK'
                      go_wp2_with fail
                      exact hK'
                    refine st_val S (Op.move (.const (.bool true))) (.bool true) rfl rfl (wanted_none rfl _) (by simp [execOp, resolve, S.g 166 rfl, ev_c, ev_f]) ?_ (fun a S => ?_)
                    · intro K' hK'
                      go_wp2_with fail
                      exact hK'
                    refine st_val S (Op.move (.const (.pointer (some ⟨R, b * 14 + 1, none⟩)))) (.pointer (some ⟨R, b * 14 + 1, none⟩)) rfl rfl (want_at (g := 5) (d := 167) (b := true) S rfl rfl rfl rfl rfl) (by simp [execOp, resolve, S.g 17 rfl, ev_c, ev_f]) ?_ (fun a S => ?_)
                    · intro K' hK'
                      go_wp2_with fail
                      exact hK'
                    refine st_val S (Op.nilCheck (.const (.pointer (some ⟨R, b * 14 + 1, none⟩)))) (.pointer (some ⟨R, b * 14 + 1, none⟩)) rfl rfl (want_at (g := 5) (d := 167) (b := true) S rfl rfl rfl rfl rfl) (by simp [execOp, resolve, S.g 168 rfl, ev_c, ev_f]) ?_ (fun a S => ?_)
                    · intro K' hK'
                      go_wp2_with fail
                      exact hK'
                    refine st_val S (Op.fieldAddr 46 (.const (.pointer (some ⟨R, b * 14 + 1, none⟩))) 2) (.pointer (some ⟨R, b * 14 + 7, none⟩)) rfl rfl (want_at (g := 5) (d := 167) (b := true) S rfl rfl rfl rfl rfl) (by simp [execOp, resolve, S.g 169 rfl, ev_c, ev_f]) ?_ (fun a S => ?_)
                    · intro K' hK'
                      go_wp2_with fail
                      exact hK'
                    refine st_val S (Op.load 3 (.const (.pointer (some ⟨R, b * 14 + 7, none⟩)))) (.int .i64 x4.jump.fn) rfl rfl (want_at (g := 5) (d := 167) (b := true) S rfl rfl rfl rfl rfl) (by simp [execOp, resolve, S.g 170 rfl, ev_c, ev_f]) ?_ (fun a S => ?_)
                    · intro K' hK'
                      go_wp2_with fail
                      exact hK'
                    refine st_val S (Op.move (.const (.int .i64 (cm : Nat)))) (.int .i64 (cm : Nat)) rfl rfl (want_at (g := 5) (d := 167) (b := true) S rfl rfl rfl rfl rfl) (by simp [execOp, resolve, S.g 12 rfl, ev_c, ev_f]) ?_ (fun a S => ?_)
                    · intro K' hK'
                      go_wp2_with fail
                      exact hK'
                    refine st_val S (Op.binOp BinOp.eql 3 (.const (.int .i64 x4.jump.fn)) (.const (.int .i64 (cm : Nat))) 3) (.bool true) rfl rfl (want_at (g := 5) (d := 167) (b := true) S rfl rfl rfl rfl rfl) (by simp [execOp, resolve, S.g 171 rfl, S.g 172 rfl, ev_c, ev_f, eqGuard]) ?_ (fun a S => ?_)
                    · intro K' hK'
                      go_wp2_with fail
                      exact hK'
                    refine st_val S (Op.pick (.const (.bool true)) (.const (.bool true)) (.const (.bool false))) (.bool true) rfl rfl (wanted_none rfl _) (by simp [execOp, resolve, S.g 167 rfl, S.g 173 rfl, ev_c, ev_f]) ?_ (fun a S => ?_)
                    · intro K' hK'
                      go_wp2_with fail
                      exact hK'
                    go_upto_region 36 with fail
                    refine wp_cond_true (S.g 174 rfl) ?_
                    refine wp_region_lit ?_
                    refine st_val S (Op.move (.const (.pointer (some ⟨R, b * 14 + 1, none⟩)))) (.pointer (some ⟨R, b * 14 + 1, none⟩)) rfl rfl (wanted_none rfl _) (by simp [execOp, resolve, S.g 17 rfl, ev_c, ev_f]) ?_ (fun a S => ?_)
                    · intro K' hK'
                      go_wp2_with fail
                      exact hK'
                    refine st_val S (Op.nilCheck (.const (.pointer (some ⟨R, b * 14 + 1, none⟩)))) (.pointer (some ⟨R, b * 14 + 1, none⟩)) rfl rfl (wanted_none rfl _) (by simp [execOp, resolve, S.g 175 rfl, ev_c, ev_f]) ?_ (fun a S => ?_)
                    · intro K' hK'
                      go_wp2_with fail
                      exact hK'
                    refine st_val S (Op.fieldAddr 46 (.const (.pointer (some ⟨R, b * 14 + 1, none⟩))) 2) (.pointer (some ⟨R, b * 14 + 7, none⟩)) rfl rfl (wanted_none rfl _) (by simp [execOp, resolve, S.g 176 rfl, ev_c, ev_f]) ?_ (fun a S => ?_)
                    · intro K' hK'
                      go_wp2_with fail
                      exact hK'
                    have hfz : (ext (ext (w.alloc (.cells #[.slice (some ⟨b_x, off_x, none⟩) n cap] 43)) z) y).frozen? ⟨R, b * 14 + 7, none⟩ = false := frozen_of_row _ _ _ _ _ hRh
                    refine st_put S (Op.store 3 (.const (.pointer (some ⟨R, b * 14 + 7, none⟩))) (.const (.int .i64 0))) ((ext (ext (w.alloc (.cells #[.slice (some ⟨b_x, off_x, none⟩) n cap] 43)) z) y).setCell ⟨R, b * 14 + 7, none⟩ (.int .i64 0)) rfl (wanted_none rfl _) (by simp [execOp, resolve, S.g 177 rfl, ev_c, ev_f]) ?_ (fun a S => ?_)
                    · intro K' hK'
                      go_wp2_with fail
                      exact hK' _
                    obtain ⟨gss', hQ', hms⟩ := hprom.out (0) ((ext (ext (w.alloc (.cells #[.slice (some ⟨b_x, off_x, none⟩) n cap] 43)) z) y).setCell ⟨R, b * 14 + 7, none⟩ (.int .i64 0)) h0I (fun q _ hne => heap_setCell_other _ _ _ _ hne) (by simp) (heap_setCell_same _ _ _ _ _ _ hRh)
                    obtain ⟨y2, hy2⟩ := ext_of_grow (Grow.setCell (b := ext (ext (w.alloc (.cells #[.slice (some ⟨b_x, off_x, none⟩) n cap] 43)) z) y) (p := ⟨R, b * 14 + 7, none⟩) (grow_ext (ext (w.alloc (.cells #[.slice (some ⟨b_x, off_x, none⟩) n cap] 43)) z) y) (by show _ ≤ R; omega) (.int .i64 0))
                    have hbr : bR (cm : Int) x4 = bkJ x4 (juFn x4.jump 0) := by unfold bR jR; rw [if_neg hA.out, if_pos hB.out]
                    rw [hy2] at hQ' ⊢
                    go_upto_region 31 with fail
                    refine wp_region_lit ?_
                    refine st_val S (Op.move (.const (.int .i64 (b : Nat)))) (.int .i64 (b : Nat)) rfl rfl (wanted_none rfl _) (by simp [execOp, resolve, S.g 16 rfl, ev_c, ev_f]) ?_ (fun a S => ?_)
                    · intro K' hK'
                      go_wp2_with fail
                      exact hK'
                    refine st_val S (Op.binOp BinOp.add 3 (.const (.int .i64 (b : Nat))) (.const (.int .i64 1)) 3) (.int .i64 ((b : Int) + 1)) rfl rfl (wanted_none rfl _) (by simp [execOp, resolve, S.g 135 rfl, ev_c, ev_f, eqGuard]) ?_ (fun a S => ?_)
                    · intro K' hK'
                      go_wp2_with fail
                      exact hK'
                    refine st_val S (Op.assign (.const (.int .i64 ((b : Int) + 1)))) (.int .i64 ((b : Int) + 1)) rfl rfl (wanted_none rfl _) (by simp [execOp, resolve, S.g 136 rfl, ev_c, ev_f]) ?_ (fun a S => ?_)
                    · intro K' hK'
                      go_wp2_with fail
                      exact hK'
                    go_upto_region 99 with fail
                    exact Handed.intro (bl - (b + 1)) (by omega) (hJ4 _ _ _ ⟨b + 1, y2, gss', rfl, by omega, ⟨S.size, S.defers, Lk.cons (S.g 1 rfl) (Lk.cons (S.g 2 rfl) (Lk.cons (S.g 6 rfl) (Lk.cons (S.g 8 rfl) (Lk.cons (S.g 10 rfl) (Lk.cons (S.g 11 rfl) (Lk.cons (S.g 12 rfl) (Lk.cons (S.g 13 rfl) (Lk.cons (S.g 14 rfl) (Lk.cons (S.g 15 rfl) (Lk.cons (S.g 16 rfl) (Lk.nil)))))))))))⟩, rfl, hQ', Lib.hid (by rw [hms, hfs.out, ← hbr]; exact stL_step hf.out hx4.out)⟩)
                  · have hqc : (x4.jump.fn == (cm : Int)) = false := by simp; exact hc1
                    have hB : ¬ (x4.jump.kind = 4 ∧ x4.jump.fn = (cm : Int)) := fun h => hc1 h.2
                    clear h4
                    go_upto_region 35 with fail
                    refine wp_region_lit ?_
                    refine st_val S (Op.move (.const (.pointer (some ⟨R, b * 14 + 1, none⟩)))) (.pointer (some ⟨R, b * 14 + 1, none⟩)) rfl rfl (wanted_none rfl _) (by simp [execOp, resolve, S.g 17 rfl, ev_c, ev_f]) ?_ (fun a S => ?_)
                    · intro K' hK'
                      go_wp2_with fail
                      exact hK'
                    refine st_val S (Op.nilCheck (.const (.pointer (some ⟨R, b * 14 + 1, none⟩)))) (.pointer (some ⟨R, b * 14 + 1, none⟩)) rfl rfl (wanted_none rfl _) (by simp [execOp, resolve, S.g 162 rfl, ev_c, ev_f]) ?_ (fun a S => ?_)
                    · intro K' hK'
                      go_wp2_with fail
                      exact hK'
                    refine st_val S (Op.fieldAddr 46 (.const (.pointer (some ⟨R, b * 14 + 1, none⟩))) 0) (.pointer (some ⟨R, b * 14 + 1, none⟩)) rfl rfl (wanted_none rfl _) (by simp [execOp, resolve, S.g 163 rfl, ev_c, ev_f]) ?_ (fun a S => ?_)
                    · intro K' hK'
                      go_wp2_with fail
                      exact hK'
                    refine st_val S (Op.load 5 (.const (.pointer (some ⟨R, b * 14 + 1, none⟩)))) (.int .u8 x4.jump.kind) rfl rfl (wanted_none rfl _) (by simp [execOp, resolve, S.g 164 rfl, ev_c, ev_f]) ?_ (fun a S => ?_)
                    · intro K' hK'
                      go_wp2_with fail
                      exact hK'
                    refine st_val S (Op.binOp BinOp.eql 5 (.const (.int .u8 x4.jump.kind)) (.const (.int .u8 4)) 5) (.bool true) rfl rfl (wanted_none rfl _) (by simp [execOp, resolve, S.g 165 rfl, ev_c, ev_f, eqGuard]) ?_ (fun a S => ?_)
                    · intro K' hK'
                      go_wp2_with fail
                      exact hK'
                    refine st_val S (Op.move (.const (.bool true))) (.bool true) rfl rfl (wanted_none rfl _) (by simp [execOp, resolve, S.g 166 rfl, ev_c, ev_f]) ?_ (fun a S => ?_)
                    · intro K' hK'
                      go_wp2_with fail
                      exact hK'
                    refine st_val S (Op.move (.const (.pointer (some ⟨R, b * 14 + 1, none⟩)))) (.pointer (some ⟨R, b * 14 + 1, none⟩)) rfl rfl (want_at (g := 5) (d := 167) (b := true) S rfl rfl rfl rfl rfl) (by simp [execOp, resolve, S.g 17 rfl, ev_c, ev_f]) ?_ (fun a S => ?_)
                    · intro K' hK'
                      go_wp2_with fail
                      exact hK'
                    refine st_val S (Op.nilCheck (.const (.pointer (some ⟨R, b * 14 + 1, none⟩)))) (.pointer (some ⟨R, b * 14 + 1, none⟩)) rfl rfl (want_at (g := 5) (d := 167) (b := true) S rfl rfl rfl rfl rfl) (by simp [execOp, resolve, S.g 168 rfl, ev_c, ev_f]) ?_ (fun a S => ?_)
                    · intro K' hK'
                      go_wp2_with fail
                      exact hK'
                    refine st_val S (Op.fieldAddr 46 (.const (.pointer (some ⟨R, b * 14 + 1, none⟩))) 2) (.pointer (some ⟨R, b * 14 + 7, none⟩)) rfl rfl (want_at (g := 5) (d := 167) (b := true) S rfl rfl rfl rfl rfl) (by simp [execOp, resolve, S.g 169 rfl, ev_c, ev_f]) ?_ (fun a S => ?_)
                    · intro K' hK'
                      go_wp2_with fail
                      exact hK'
                    refine st_val S (Op.load 3 (.const (.pointer (some ⟨R, b * 14 + 7, none⟩)))) (.int .i64 x4.jump.fn) rfl rfl (want_at (g := 5) (d := 167) (b := true) S rfl rfl rfl rfl rfl) (by simp [execOp, resolve, S.g 170 rfl, ev_c, ev_f]) ?_ (fun a S => ?_)
                    · intro K' hK'
                      go_wp2_with fail
                      exact hK'
                    refine st_val S (Op.move (.const (.int .i64 (cm : Nat)))) (.int .i64 (cm : Nat)) rfl rfl (want_at (g := 5) (d := 167) (b := true) S rfl rfl rfl rfl rfl) (by simp [execOp, resolve, S.g 12 rfl, ev_c, ev_f]) ?_ (fun a S => ?_)
                    · intro K' hK'
                      go_wp2_with fail
                      exact hK'
                    refine st_val S (Op.binOp BinOp.eql 3 (.const (.int .i64 x4.jump.fn)) (.const (.int .i64 (cm : Nat))) 3) (.bool false) rfl rfl (want_at (g := 5) (d := 167) (b := true) S rfl rfl rfl rfl rfl) (by simp [execOp, resolve, S.g 171 rfl, S.g 172 rfl, ev_c, ev_f, eqGuard]) ?_ (fun a S => ?_)
                    · intro K' hK'
                      go_wp2_with fail
                      exact hK'
                    refine st_val S (Op.pick (.const (.bool true)) (.const (.bool false)) (.const (.bool false))) (.bool false) rfl rfl (wanted_none rfl _) (by simp [execOp, resolve, S.g 167 rfl, S.g 173 rfl, ev_c, ev_f]) ?_ (fun a S => ?_)
                    · intro K' hK'
                      go_wp2_with fail
                      exact hK'
                    go_upto_region 36 with fail
                    refine wp_cond_false (S.g 174 rfl) ?_
                    have hsame : bR (cm : Int) x4 = x4 := by unfold bR jR; rw [if_neg hA, if_neg hB]; rfl
                    go_upto_region 31 with fail
                    refine wp_region_lit ?_
                    refine st_val S (Op.move (.const (.int .i64 (b : Nat)))) (.int .i64 (b : Nat)) rfl rfl (wanted_none rfl _) (by simp [execOp, resolve, S.g 16 rfl, ev_c, ev_f]) ?_ (fun a S => ?_)
                    · intro K' hK'
                      go_wp2_with fail
                      exact hK'
                    refine st_val S (Op.binOp BinOp.add 3 (.const (.int .i64 (b : Nat))) (.const (.int .i64 1)) 3) (.int .i64 ((b : Int) + 1)) rfl rfl (wanted_none rfl _) (by simp [execOp, resolve, S.g 135 rfl, ev_c, ev_f, eqGuard]) ?_ (fun a S => ?_)
                    · intro K' hK'
                      go_wp2_with fail
                      exact hK'
                    refine st_val S (Op.assign (.const (.int .i64 ((b : Int) + 1)))) (.int .i64 ((b : Int) + 1)) rfl rfl (wanted_none rfl _) (by simp [execOp, resolve, S.g 136 rfl, ev_c, ev_f]) ?_ (fun a S => ?_)
                    · intro K' hK'
                      go_wp2_with fail
                      exact hK'
                    go_upto_region 99 with fail
                    exact Handed.intro (bl - (b + 1)) (by omega) (hJ4 _ _ _ ⟨b + 1, y, hs, rfl, by omega, ⟨S.size, S.defers, Lk.cons (S.g 1 rfl) (Lk.cons (S.g 2 rfl) (Lk.cons (S.g 6 rfl) (Lk.cons (S.g 8 rfl) (Lk.cons (S.g 10 rfl) (Lk.cons (S.g 11 rfl) (Lk.cons (S.g 12 rfl) (Lk.cons (S.g 13 rfl) (Lk.cons (S.g 14 rfl) (Lk.cons (S.g 15 rfl) (Lk.cons (S.g 16 rfl) (Lk.nil)))))))))))⟩, rfl, hQ, Lib.hid (by rw [hfs.out]; exact stL_same hf.out hx4.out hsame)⟩)
              · have hkd : (x4.jump.kind == 4) = false := by simp; exact h4
                replace h4 := Lib.hid h4
                have hA : ¬ (x4.jump.kind = 4 ∧ x4.jump.fn = 0) := fun h => h4.out h.1
                go_upto_region 33 with fail
                refine wp_region_lit ?_
                refine st_val S (Op.move (.const (.pointer (some ⟨R, b * 14 + 1, none⟩)))) (.pointer (some ⟨R, b * 14 + 1, none⟩)) rfl rfl (wanted_none rfl _) (by simp [execOp, resolve, S.g 17 rfl, ev_c, ev_f]) ?_ (fun a S => ?_)
                · intro K' hK'
                  go_wp2_with fail
                  exact hK'
                refine st_val S (Op.nilCheck (.const (.pointer (some ⟨R, b * 14 + 1, none⟩)))) (.pointer (some ⟨R, b * 14 + 1, none⟩)) rfl rfl (wanted_none rfl _) (by simp [execOp, resolve, S.g 146 rfl, ev_c, ev_f]) ?_ (fun a S => ?_)
                · intro K' hK'
                  go_wp2_with fail
                  exact hK'
                refine st_val S (Op.fieldAddr 46 (.const (.pointer (some ⟨R, b * 14 + 1, none⟩))) 0) (.pointer (some ⟨R, b * 14 + 1, none⟩)) rfl rfl (wanted_none rfl _) (by simp [execOp, resolve, S.g 147 rfl, ev_c, ev_f]) ?_ (fun a S => ?_)
                · intro K' hK'
                  go_wp2_with fail
                  exact hK'
                refine st_val S (Op.load 5 (.const (.pointer (some ⟨R, b * 14 + 1, none⟩)))) (.int .u8 x4.jump.kind) rfl rfl (wanted_none rfl _) (by simp [execOp, resolve, S.g 148 rfl, ev_c, ev_f]) ?_ (fun a S => ?_)
                · intro K' hK'
                  go_wp2_with fail
                  exact hK'
                refine st_val S (Op.binOp BinOp.eql 5 (.const (.int .u8 x4.jump.kind)) (.const (.int .u8 4)) 5) (.bool false) rfl rfl (wanted_none rfl _) (by simp [execOp, resolve, S.g 149 rfl, ev_c, ev_f, eqGuard]) ?_ (fun a S => ?_)
                · intro K' hK'
                  go_wp2_with fail
                  exact hK'
                refine st_val S (Op.move (.const (.bool false))) (.bool false) rfl rfl (wanted_none rfl _) (by simp [execOp, resolve, S.g 150 rfl, ev_c, ev_f]) ?_ (fun a S => ?_)
                · intro K' hK'
                  go_wp2_with fail
                  exact hK'
                refine st_skip S rfl rfl (want_not (g := 5) (d := 151) (b := true) S rfl rfl rfl rfl rfl rfl) (fun a S => ?_)
                refine st_skip S rfl rfl (want_not (g := 5) (d := 151) (b := true) S rfl rfl rfl rfl rfl rfl) (fun a S => ?_)
                refine st_skip S rfl rfl (want_not (g := 5) (d := 151) (b := true) S rfl rfl rfl rfl rfl rfl) (fun a S => ?_)
                refine st_skip S rfl rfl (want_not (g := 5) (d := 151) (b := true) S rfl rfl rfl rfl rfl rfl) (fun a S => ?_)
                refine st_skip S rfl rfl (want_not (g := 5) (d := 151) (b := true) S rfl rfl rfl rfl rfl rfl) (fun a S => ?_)
                refine st_val S (Op.pick (.const (.bool false)) (.const (undef)) (.const (.bool false))) (.bool false) rfl rfl (wanted_none rfl _) (by simp [execOp, resolve, S.g 151 rfl, S.g 156 rfl, ev_c, ev_f]) ?_ (fun a S => ?_)
                · intro K' hK'
                  go_wp2_with fail
                  exact hK'
                go_upto_region 34 with fail
                refine wp_cond_false (S.g 157 rfl) ?_
                have hB : ¬ (x4.jump.kind = 4 ∧ x4.jump.fn = (cm : Int)) := fun h => h4.out h.1
                go_upto_region 35 with fail
                refine wp_region_lit ?_
                refine st_val S (Op.move (.const (.pointer (some ⟨R, b * 14 + 1, none⟩)))) (.pointer (some ⟨R, b * 14 + 1, none⟩)) rfl rfl (wanted_none rfl _) (by simp [execOp, resolve, S.g 17 rfl, ev_c, ev_f]) ?_ (fun a S => ?_)
                · intro K' hK'
                  go_wp2_with fail
                  exact hK'
                refine st_val S (Op.nilCheck (.const (.pointer (some ⟨R, b * 14 + 1, none⟩)))) (.pointer (some ⟨R, b * 14 + 1, none⟩)) rfl rfl (wanted_none rfl _) (by simp [execOp, resolve, S.g 162 rfl, ev_c, ev_f]) ?_ (fun a S => ?_)
                · intro K' hK'
                  go_wp2_with fail
                  exact hK'
                refine st_val S (Op.fieldAddr 46 (.const (.pointer (some ⟨R, b * 14 + 1, none⟩))) 0) (.pointer (some ⟨R, b * 14 + 1, none⟩)) rfl rfl (wanted_none rfl _) (by simp [execOp, resolve, S.g 163 rfl, ev_c, ev_f]) ?_ (fun a S => ?_)
                · intro K' hK'
                  go_wp2_with fail
                  exact hK'
                refine st_val S (Op.load 5 (.const (.pointer (some ⟨R, b * 14 + 1, none⟩)))) (.int .u8 x4.jump.kind) rfl rfl (wanted_none rfl _) (by simp [execOp, resolve, S.g 164 rfl, ev_c, ev_f]) ?_ (fun a S => ?_)
                · intro K' hK'
                  go_wp2_with fail
                  exact hK'
                refine st_val S (Op.binOp BinOp.eql 5 (.const (.int .u8 x4.jump.kind)) (.const (.int .u8 4)) 5) (.bool false) rfl rfl (wanted_none rfl _) (by simp [execOp, resolve, S.g 165 rfl, ev_c, ev_f, eqGuard]) ?_ (fun a S => ?_)
                · intro K' hK'
                  go_wp2_with fail
                  exact hK'
                refine st_val S (Op.move (.const (.bool false))) (.bool false) rfl rfl (wanted_none rfl _) (by simp [execOp, resolve, S.g 166 rfl, ev_c, ev_f]) ?_ (fun a S => ?_)
                · intro K' hK'
                  go_wp2_with fail
                  exact hK'
                refine st_skip S rfl rfl (want_not (g := 5) (d := 167) (b := true) S rfl rfl rfl rfl rfl rfl) (fun a S => ?_)
                refine st_skip S rfl rfl (want_not (g := 5) (d := 167) (b := true) S rfl rfl rfl rfl rfl rfl) (fun a S => ?_)
                refine st_skip S rfl rfl (want_not (g := 5) (d := 167) (b := true) S rfl rfl rfl rfl rfl rfl) (fun a S => ?_)
                refine st_skip S rfl rfl (want_not (g := 5) (d := 167) (b := true) S rfl rfl rfl rfl rfl rfl) (fun a S => ?_)
                refine st_skip S rfl rfl (want_not (g := 5) (d := 167) (b := true) S rfl rfl rfl rfl rfl rfl) (fun a S => ?_)
                refine st_skip S rfl rfl (want_not (g := 5) (d := 167) (b := true) S rfl rfl rfl rfl rfl rfl) (fun a S => ?_)
                refine st_val S (Op.pick (.const (.bool false)) (.const (undef)) (.const (.bool false))) (.bool false) rfl rfl (wanted_none rfl _) (by simp [execOp, resolve, S.g 167 rfl, S.g 173 rfl, ev_c, ev_f]) ?_ (fun a S => ?_)
                · intro K' hK'
                  go_wp2_with fail
                  exact hK'
                go_upto_region 36 with fail
                refine wp_cond_false (S.g 174 rfl) ?_
                have hsame : bR (cm : Int) x4 = x4 := by unfold bR jR; rw [if_neg hA, if_neg hB]; rfl
                go_upto_region 31 with fail
                refine wp_region_lit ?_
                refine st_val S (Op.move (.const (.int .i64 (b : Nat)))) (.int .i64 (b : Nat)) rfl rfl (wanted_none rfl _) (by simp [execOp, resolve, S.g 16 rfl, ev_c, ev_f]) ?_ (fun a S => ?_)
                · intro K' hK'
                  go_wp2_with fail
                  exact hK'
                refine st_val S (Op.binOp BinOp.add 3 (.const (.int .i64 (b : Nat))) (.const (.int .i64 1)) 3) (.int .i64 ((b : Int) + 1)) rfl rfl (wanted_none rfl _) (by simp [execOp, resolve, S.g 135 rfl, ev_c, ev_f, eqGuard]) ?_ (fun a S => ?_)
                · intro K' hK'
                  go_wp2_with fail
                  exact hK'
                refine st_val S (Op.assign (.const (.int .i64 ((b : Int) + 1)))) (.int .i64 ((b : Int) + 1)) rfl rfl (wanted_none rfl _) (by simp [execOp, resolve, S.g 136 rfl, ev_c, ev_f]) ?_ (fun a S => ?_)
                · intro K' hK'
                  go_wp2_with fail
                  exact hK'
                go_upto_region 99 with fail
                exact Handed.intro (bl - (b + 1)) (by omega) (hJ4 _ _ _ ⟨b + 1, y, hs, rfl, by omega, ⟨S.size, S.defers, Lk.cons (S.g 1 rfl) (Lk.cons (S.g 2 rfl) (Lk.cons (S.g 6 rfl) (Lk.cons (S.g 8 rfl) (Lk.cons (S.g 10 rfl) (Lk.cons (S.g 11 rfl) (Lk.cons (S.g 12 rfl) (Lk.cons (S.g 13 rfl) (Lk.cons (S.g 14 rfl) (Lk.cons (S.g 15 rfl) (Lk.cons (S.g 16 rfl) (Lk.nil)))))))))))⟩, rfl, hQ, Lib.hid (by rw [hfs.out]; exact stL_same hf.out hx4.out hsame)⟩)
            · have hbe : b = bl := by omega
              obtain ⟨x4, hx4⟩ : ∃ x, (stF cm f b).blocks[0]? = some x := ⟨_, List.getElem?_eq_getElem (by rw [hfl]; exact hbl0)⟩
              obtain ⟨R, bc, curR, hg3, hbc1, hbc2, hRh, hRp, hRb, hxw, hc1, hc7, hprom⟩ := hQ.at hfk hx4
              rw [hfl] at hg3 hbc1
              have hgr := row_oneR hg3
              clear hprom hc1 hc7 hRh hRp hRb hxw hx4
              replace hfk := Lib.hid hfk
              replace hfl := Lib.hid hfl
              replace hbe := Lib.hid hbe
              have hb9 : decide ((b : Int) < (bl : Int)) = false := by have := hbe.out; simp; omega
              have hb9n : decide (b < bl) = false := by have := hbe.out; simp; omega
              go_upto_region 30 with fail
              refine wp_region_lit ?_
              refine st_val S (Op.move (.const (.int .i64 (b : Nat)))) (.int .i64 (b : Nat)) rfl rfl (wanted_none rfl _) (by simp [execOp, resolve, S.g 16 rfl, ev_c, ev_f]) ?_ (fun a S => ?_)
              · intro K' hK'
                go_wp2_with fail
                exact hK'
              refine st_val S (Op.fieldAddr 43 (.const (.pointer (some ⟨p13, 0, none⟩))) 0) (.pointer (some ⟨p13, 0, none⟩)) rfl rfl (wanted_none rfl _) (by simp [execOp, resolve, S.g 13 rfl, ev_c, ev_f]) ?_ (fun a S => ?_)
              · intro K' hK'
                go_wp2_with fail
                exact hK'
              refine st_val S (Op.load 41 (.const (.pointer (some ⟨p13, 0, none⟩)))) (.slice (some ⟨g, 0, none⟩) n qc) rfl rfl (wanted_none rfl _) (by simp [execOp, resolve, S.g 127 rfl, ev_c, ev_f]) ?_ (fun a S => ?_)
              · intro K' hK'
                go_wp2_with fail
                exact hK'
              refine st_val S (Op.move (.const (.int .i64 (kk : Nat)))) (.int .i64 (kk : Nat)) rfl rfl (wanted_none rfl _) (by simp [execOp, resolve, S.g 15 rfl, ev_c, ev_f]) ?_ (fun a S => ?_)
              · intro K' hK'
                go_wp2_with fail
                exact hK'
              refine st_val S (Op.indexAddr 41 (.const (.slice (some ⟨g, 0, none⟩) n qc)) (.const (.int .i64 (kk : Nat)))) (.pointer (some ⟨g, kk * 4, none⟩)) rfl rfl (wanted_none rfl _) (by simp [execOp, resolve, S.g 128 rfl, S.g 129 rfl, ev_c, ev_f]) ?_ (fun a S => ?_)
              · intro K' hK'
                go_wp2_with fail
                exact hK'
              refine st_val S (Op.fieldAddr 50 (.const (.pointer (some ⟨g, kk * 4, none⟩))) 3) (.pointer (some ⟨g, kk * 4 + 3, none⟩)) rfl rfl (wanted_none rfl _) (by simp [execOp, resolve, S.g 130 rfl, ev_c, ev_f]) ?_ (fun a S => ?_)
              · intro K' hK'
                go_wp2_with fail
                exact hK'
              refine st_val S (Op.load 48 (.const (.pointer (some ⟨g, kk * 4 + 3, none⟩)))) (.slice (some ⟨R, 0, none⟩) bl bc) rfl rfl (wanted_none rfl _) (by simp [execOp, resolve, S.g 131 rfl, ev_c, ev_f]) ?_ (fun a S => ?_)
              · intro K' hK'
                go_wp2_with fail
                exact hK'
              refine st_pure S (.int .i64 bl) rfl rfl (wanted_none rfl _) (by simp [execOp, resolve, S.g 132 rfl, ev_c, ev_f]; go_simp) (fun a S => ?_)
              refine st_val S (Op.binOp BinOp.lss 3 (.const (.int .i64 (b : Nat))) (.const (.int .i64 bl)) 3) (.bool false) rfl rfl (wanted_none rfl _) (by simp [execOp, resolve, S.g 126 rfl, S.g 133 rfl, ev_c, ev_f, eqGuard]) ?_ (fun a S => ?_)
              · intro K' hK'
                go_wp2_with fail
                exact hK'
              go_upto_region 32 with fail
              refine wp_cond_false (S.g 134 rfl) ?_
              go_upto_region 28 with fail
              refine wp_region_lit ?_
              refine st_val S (Op.move (.const (.int .i64 (kk : Nat)))) (.int .i64 (kk : Nat)) rfl rfl (wanted_none rfl _) (by simp [execOp, resolve, S.g 15 rfl, ev_c, ev_f]) ?_ (fun a S => ?_)
              · intro K' hK'
                go_wp2_with fail
                exact hK'
              refine st_val S (Op.binOp BinOp.add 3 (.const (.int .i64 (kk : Nat))) (.const (.int .i64 1)) 3) (.int .i64 ((kk : Int) + 1)) rfl rfl (wanted_none rfl _) (by simp [execOp, resolve, S.g 124 rfl, ev_c, ev_f, eqGuard]) ?_ (fun a S => ?_)
              · intro K' hK'
                go_wp2_with fail
                exact hK'
              refine st_val S (Op.assign (.const (.int .i64 ((kk : Int) + 1)))) (.int .i64 ((kk : Int) + 1)) rfl rfl (wanted_none rfl _) (by simp [execOp, resolve, S.g 125 rfl, ev_c, ev_f]) ?_ (fun a S => ?_)
              · intro K' hK'
                go_wp2_with fail
                exact hK'
              go_upto_region 99 with fail
              exact Handed.intro (n - (kk + 1)) (by omega) (hJ3 _ _ _ ⟨kk + 1, y, hs, rfl, by omega, ⟨S.size, S.defers, Lk.cons (S.g 1 rfl) (Lk.cons (S.g 2 rfl) (Lk.cons (S.g 6 rfl) (Lk.cons (S.g 8 rfl) (Lk.cons (S.g 10 rfl) (Lk.cons (S.g 11 rfl) (Lk.cons (S.g 12 rfl) (Lk.cons (S.g 13 rfl) (Lk.cons (S.g 14 rfl) (Lk.cons (S.g 15 rfl) (Lk.nil))))))))))⟩, rfl, hQ, Lib.hid (by rw [hfs.out, hbe.out, hbl.out]; exact stL_next hf.out)⟩)
          · have hke : kk = n := by omega
            have hk9 : decide ((kk : Int) < (n : Int)) = false := by simp; omega
            have hk9n : decide (kk < n) = false := by simp; omega
            have hms : hs.map FnS.f = (qR p cm).funcs := by rw [hfs.out, ← Hs0.out.1, ← stL_end (cm : Int) s0, Hs0.out.2.1, hke]
            have hqs : Sl (fun _ => True) (ext (ext (w.alloc (.cells #[.slice (some ⟨b_x, off_x, none⟩) n cap] 43)) z) y) (.slice (some ⟨g, 0, none⟩) n qc) (qR p cm).funcs := by rw [← hms]; exact hQ.own.sl.fns.wide (fun _ _ _ => trivial)
            replace hke := Lib.hid hke
            clear hms
            have Hqo := Lib.hid (qR_ok Hok.out (by rw [← Hn.out]; exact Hcn.out) Hall.out)
            have Hir := Lib.hid (inB_rec p fN cm)
            have hatI : I64 ((sw cm fN : Nat) : Int) := by have := sw_lt Hcn.out hfN; exact ⟨by omega, by omega⟩
            go_upto_region 27 with fail
            refine wp_region_lit ?_
            refine st_val S (Op.move (.const (.int .i64 (kk : Nat)))) (.int .i64 (kk : Nat)) rfl rfl (wanted_none rfl _) (by simp [execOp, resolve, S.g 15 rfl, ev_c, ev_f]) ?_ (fun a S => ?_)
            · intro K' hK'
              go_wp2_with fail
              exact hK'
            refine st_val S (Op.fieldAddr 43 (.const (.pointer (some ⟨p13, 0, none⟩))) 0) (.pointer (some ⟨p13, 0, none⟩)) rfl rfl (wanted_none rfl _) (by simp [execOp, resolve, S.g 13 rfl, ev_c, ev_f]) ?_ (fun a S => ?_)
            · intro K' hK'
              go_wp2_with fail
              exact hK'
            refine st_val S (Op.load 41 (.const (.pointer (some ⟨p13, 0, none⟩)))) (.slice (some ⟨g, 0, none⟩) n qc) rfl rfl (wanted_none rfl _) (by simp [execOp, resolve, S.g 120 rfl, ev_c, ev_f]) ?_ (fun a S => ?_)
            · intro K' hK'
              go_wp2_with fail
              exact hK'
            refine st_pure S (.int .i64 n) rfl rfl (wanted_none rfl _) (by simp [execOp, resolve, S.g 121 rfl, ev_c, ev_f]; go_simp) (fun a S => ?_)
            refine st_val S (Op.binOp BinOp.lss 3 (.const (.int .i64 (kk : Nat))) (.const (.int .i64 n)) 3) (.bool false) rfl rfl (wanted_none rfl _) (by simp [execOp, resolve, S.g 119 rfl, S.g 122 rfl, ev_c, ev_f, eqGuard]) ?_ (fun a S => ?_)
            · intro K' hK'
              go_wp2_with fail
              exact hK'
            go_upto_region 29 with fail
            refine wp_cond_false (S.g 123 rfl) ?_
            go_upto_region 37 with fail
            refine wp_region_lit ?_
            refine st_val S (Op.load 43 (.const (.pointer (some ⟨p13, 0, none⟩)))) (.agg #[.slice (some ⟨g, 0, none⟩) n qc]) rfl rfl (wanted_none rfl _) (by simp [execOp, resolve, S.g 13 rfl, ev_c, ev_f]) ?_ (fun a S => ?_)
            · intro K' hK'
              go_wp2_with fail
              exact hK'
            refine st_any S (Op.call { callee := Callee.value (Operand.func 20), args := #[.const (.agg #[.slice (some ⟨g, 0, none⟩) n qc])], argTypes := #[43] }) (fun u w'' => ∃ a m c, u = .tuple #[.slice a m c, .int .i64 0] ∧ Grow (ext (ext (w.alloc (.cells #[.slice (some ⟨b_x, off_x, none⟩) n cap] 43)) z) y) w'' ∧ Sl (fun _ => True) w'' (.slice a m c) (reachL (qR p cm))) rfl rfl (wanted_none rfl _) (by simp [execOp, resolve, S.g 179 rfl, ev_c, ev_f]) ?_ (fun u w'' a h S => ?_)
            · intro K' hK'
              go_wp2_with ((go_at_call 20; (with_reducible refine (program_Reached (qR p cm) _ _ (hqs.mono Gw.h) Hqo.out).mono ?_); rintro e w1 ⟨_, rfl, ⟨u1, rfl, hr⟩, hb⟩; obtain ⟨rla, rln, rlc, rfl, -, -, -, -, hr⟩ := hr.open))
              exact hK' _ _ ⟨_, _, _, rfl, hb, (hr.wide (fun _ _ _ => trivial))⟩
            obtain ⟨rla, rln, rlc, rfl, hg, hrs⟩ := h
            obtain ⟨y4, rfl⟩ := ext_of_grow hg
            clear hg
            refine st_val S (Op.move (.const (.tuple #[.slice rla rln rlc, .int .i64 0]))) (.tuple #[.slice rla rln rlc, .int .i64 0]) rfl rfl (wanted_none rfl _) (by simp [execOp, resolve, S.g 180 rfl, ev_c, ev_f]) ?_ (fun a S => ?_)
            · intro K' hK'
              go_wp2_with fail
              exact hK'
            refine st_val S (Op.extract (.const (.tuple #[.slice rla rln rlc, .int .i64 0])) 0) (.slice rla rln rlc) rfl rfl (wanted_none rfl _) (by simp [execOp, resolve, S.g 178 rfl, ev_c, ev_f]) ?_ (fun a S => ?_)
            · intro K' hK'
              go_wp2_with fail
              exact hK'
            refine st_val S (Op.extract (.const (.tuple #[.slice rla rln rlc, .int .i64 0])) 1) (.int .i64 0) rfl rfl (wanted_none rfl _) (by simp [execOp, resolve, S.g 178 rfl, ev_c, ev_f]) ?_ (fun a S => ?_)
            · intro K' hK'
              go_wp2_with fail
              exact hK'
            refine st_val S (Op.assign (.const (.slice rla rln rlc))) (.slice rla rln rlc) rfl rfl (wanted_none rfl _) (by simp [execOp, resolve, S.g 181 rfl, ev_c, ev_f]) ?_ (fun a S => ?_)
            · intro K' hK'
              go_wp2_with fail
              exact hK'
            refine st_val S (Op.assign (.const (.int .i64 0))) (.int .i64 0) rfl rfl (wanted_none rfl _) (by simp [execOp, resolve, S.g 182 rfl, ev_c, ev_f]) ?_ (fun a S => ?_)
            · intro K' hK'
              go_wp2_with fail
              exact hK'
            go_upto_region 38 with fail
            refine wp_region_lit ?_
            refine st_val S (Op.move (.const (.int .i64 0))) (.int .i64 0) rfl rfl (wanted_none rfl _) (by simp [execOp, resolve, S.g 19 rfl, ev_c, ev_f]) ?_ (fun a S => ?_)
            · intro K' hK'
              go_wp2_with fail
              exact hK'
            refine st_val S (Op.binOp BinOp.neq 29 (.const (.int .i64 0)) (.const (.int .i64 0)) 29) (.bool false) rfl rfl (wanted_none rfl _) (by simp [execOp, resolve, S.g 183 rfl, ev_c, ev_f, eqGuard]) ?_ (fun a S => ?_)
            · intro K' hK'
              go_wp2_with fail
              exact hK'
            go_upto_region 40 with fail
            refine wp_cond_false (S.g 184 rfl) ?_
            obtain ⟨sv, hsv⟩ : ∃ s, s = (((List.range 8).filter (callsTo x)).take k).any (recOne p fN) := ⟨_, rfl⟩
            rw [← hsv] at S
            replace hsv := Lib.hid hsv
            go_upto_region 40 with fail
            cases sv
            · refine wp_region_lit ?_
              refine st_val S (Op.move (.const (.bool false))) (.bool false) rfl rfl (wanted_none rfl _) (by simp [execOp, resolve, S.g 10 rfl, ev_c, ev_f]) ?_ (fun a S => ?_)
              · intro K' hK'
                go_wp2_with fail
                exact hK'
              refine st_val S (Op.move (.const (.bool false))) (.bool false) rfl rfl (wanted_none rfl _) (by simp [execOp, resolve, S.g 185 rfl, ev_c, ev_f]) ?_ (fun a S => ?_)
              · intro K' hK'
                go_wp2_with fail
                exact hK'
              refine st_val S (Op.move (.const (.slice rla rln rlc))) (.slice rla rln rlc) rfl rfl (want_at (g := 1) (d := 186) (b := false) S rfl rfl rfl rfl rfl) (by simp [execOp, resolve, S.g 18 rfl, ev_c, ev_f]) ?_ (fun a S => ?_)
              · intro K' hK'
                go_wp2_with fail
                exact hK'
              refine st_val S (Op.move (.const (.int .i64 (sw cm fN : Nat)))) (.int .i64 (sw cm fN : Nat)) rfl rfl (want_at (g := 1) (d := 186) (b := false) S rfl rfl rfl rfl rfl) (by simp [execOp, resolve, S.g 14 rfl, ev_c, ev_f]) ?_ (fun a S => ?_)
              · intro K' hK'
                go_wp2_with fail
                exact hK'
              refine st_any S (Op.call { callee := Callee.value (Operand.func 21), args := #[.const (.slice rla rln rlc), .const (.int .i64 (sw cm fN : Nat))], argTypes := #[56, 3] }) (fun u w'' => u = .bool (recOne p fN cm) ∧ Grow (ext (ext (ext (w.alloc (.cells #[.slice (some ⟨b_x, off_x, none⟩) n cap] 43)) z) y) y4) w'') rfl rfl (want_at (g := 1) (d := 186) (b := false) S rfl rfl rfl rfl rfl) (by simp [execOp, resolve, S.g 187 rfl, S.g 188 rfl, ev_c, ev_f]) ?_ (fun u w'' a h S => ?_)
              · intro K' hK'
                go_wp2_with ((go_at_call 21; ((with_reducible refine (law08_in_at _ (reachL (qR p cm)) _ _ (hrs.mono Gw.h) hatI Hir.out).mono ?_); rintro e w1 ⟨rfl, hb1⟩; obtain ⟨x1, rfl⟩ := ext_of_grow hb1; clear hb1)))
                exact hK' _ _ ⟨rfl, Gw.h⟩
              obtain ⟨rfl, hg⟩ := h
              obtain ⟨x5, rfl⟩ := ext_of_grow hg
              clear hg
              refine st_val S (Op.pick (.const (.bool false)) (.const (.bool true)) (.const (.bool (recOne p fN cm)))) (.bool (recOne p fN cm)) rfl rfl (wanted_none rfl _) (by simp [execOp, resolve, S.g 186 rfl, S.g 189 rfl, ev_c, ev_f]) ?_ (fun a S => ?_)
              · intro K' hK'
                go_wp2_with fail
                exact hK'
              refine st_val S (Op.assign (.const (.bool (recOne p fN cm)))) (.bool (recOne p fN cm)) rfl rfl (wanted_none rfl _) (by simp [execOp, resolve, S.g 190 rfl, ev_c, ev_f]) ?_ (fun a S => ?_)
              · intro K' hK'
                go_wp2_with fail
                exact hK'
              go_upto_region 15 with fail
              refine wp_region_lit ?_
              refine st_val S (Op.move (.const (.int .i64 (k : Nat)))) (.int .i64 (k : Nat)) rfl rfl (wanted_none rfl _) (by simp [execOp, resolve, S.g 11 rfl, ev_c, ev_f]) ?_ (fun a S => ?_)
              · intro K' hK'
                go_wp2_with fail
                exact hK'
              refine st_val S (Op.binOp BinOp.add 3 (.const (.int .i64 (k : Nat))) (.const (.int .i64 1)) 3) (.int .i64 ((k : Int) + 1)) rfl rfl (wanted_none rfl _) (by simp [execOp, resolve, S.g 79 rfl, ev_c, ev_f, eqGuard]) ?_ (fun a S => ?_)
              · intro K' hK'
                go_wp2_with fail
                exact hK'
              refine st_val S (Op.assign (.const (.int .i64 ((k : Int) + 1)))) (.int .i64 ((k : Int) + 1)) rfl rfl (wanted_none rfl _) (by simp [execOp, resolve, S.g 80 rfl, ev_c, ev_f]) ?_ (fun a S => ?_)
              · intro K' hK'
                go_wp2_with fail
                exact hK'
              go_upto_region 99 with fail
              obtain ⟨z2, hz2⟩ := ext_of_grow (W := ext (w.alloc (.cells #[.slice (some ⟨b_x, off_x, none⟩) n cap] 43)) z) (w := ext (ext (ext (ext (w.alloc (.cells #[.slice (some ⟨b_x, off_x, none⟩) n cap] 43)) z) y) y4) x5) Gw.h
              have hany := any_next (b := (recOne p fN cm)) Hms.out hsv.out (by simp)
              exact Handed.intro (cn - (k + 1)) (by omega) (hJ _ _ _ ⟨k + 1, z2, rfl, by omega, ⟨S.size, S.defers, Lk.cons (S.g 1 rfl) (Lk.cons (S.g 2 rfl) (Lk.cons (S.g 6 rfl) (Lk.cons (S.g 8 rfl) (Lk.cons (by rw [← hany]; exact S.g 10 rfl) (Lk.cons (S.g 11 rfl) (Lk.nil))))))⟩, hz2⟩)
            · refine wp_region_lit ?_
              refine st_val S (Op.move (.const (.bool true))) (.bool true) rfl rfl (wanted_none rfl _) (by simp [execOp, resolve, S.g 10 rfl, ev_c, ev_f]) ?_ (fun a S => ?_)
              · intro K' hK'
                go_wp2_with fail
                exact hK'
              refine st_val S (Op.move (.const (.bool true))) (.bool true) rfl rfl (wanted_none rfl _) (by simp [execOp, resolve, S.g 185 rfl, ev_c, ev_f]) ?_ (fun a S => ?_)
              · intro K' hK'
                go_wp2_with fail
                exact hK'
              refine st_skip S rfl rfl (want_not (g := 1) (d := 186) (b := false) S rfl rfl rfl rfl rfl rfl) (fun a S => ?_)
              refine st_skip S rfl rfl (want_not (g := 1) (d := 186) (b := false) S rfl rfl rfl rfl rfl rfl) (fun a S => ?_)
              refine st_skip S rfl rfl (want_not (g := 1) (d := 186) (b := false) S rfl rfl rfl rfl rfl rfl) (fun a S => ?_)
              refine st_val S (Op.pick (.const (.bool true)) (.const (.bool true)) (.const (undef))) (.bool true) rfl rfl (wanted_none rfl _) (by simp [execOp, resolve, S.g 186 rfl, S.g 189 rfl, ev_c, ev_f]) ?_ (fun a S => ?_)
              · intro K' hK'
                go_wp2_with fail
                exact hK'
              refine st_val S (Op.assign (.const (.bool true))) (.bool true) rfl rfl (wanted_none rfl _) (by simp [execOp, resolve, S.g 190 rfl, ev_c, ev_f]) ?_ (fun a S => ?_)
              · intro K' hK'
                go_wp2_with fail
                exact hK'
              go_upto_region 15 with fail
              refine wp_region_lit ?_
              refine st_val S (Op.move (.const (.int .i64 (k : Nat)))) (.int .i64 (k : Nat)) rfl rfl (wanted_none rfl _) (by simp [execOp, resolve, S.g 11 rfl, ev_c, ev_f]) ?_ (fun a S => ?_)
              · intro K' hK'
                go_wp2_with fail
                exact hK'
              refine st_val S (Op.binOp BinOp.add 3 (.const (.int .i64 (k : Nat))) (.const (.int .i64 1)) 3) (.int .i64 ((k : Int) + 1)) rfl rfl (wanted_none rfl _) (by simp [execOp, resolve, S.g 79 rfl, ev_c, ev_f, eqGuard]) ?_ (fun a S => ?_)
              · intro K' hK'
                go_wp2_with fail
                exact hK'
              refine st_val S (Op.assign (.const (.int .i64 ((k : Int) + 1)))) (.int .i64 ((k : Int) + 1)) rfl rfl (wanted_none rfl _) (by simp [execOp, resolve, S.g 80 rfl, ev_c, ev_f]) ?_ (fun a S => ?_)
              · intro K' hK'
                go_wp2_with fail
                exact hK'
              go_upto_region 99 with fail
              obtain ⟨z2, hz2⟩ := ext_of_grow (W := ext (w.alloc (.cells #[.slice (some ⟨b_x, off_x, none⟩) n cap] 43)) z) (w := ext (ext (ext (w.alloc (.cells #[.slice (some ⟨b_x, off_x, none⟩) n cap] 43)) z) y) y4) Gw.h
              have hany := any_next (b := true) Hms.out hsv.out (by simp)
              exact Handed.intro (cn - (k + 1)) (by omega) (hJ _ _ _ ⟨k + 1, z2, rfl, by omega, ⟨S.size, S.defers, Lk.cons (S.g 1 rfl) (Lk.cons (S.g 2 rfl) (Lk.cons (S.g 6 rfl) (Lk.cons (S.g 8 rfl) (Lk.cons (by rw [← hany]; exact S.g 10 rfl) (Lk.cons (S.g 11 rfl) (Lk.nil))))))⟩, hz2⟩)
        clear hK1
        replace REST := Lib.hid REST
        by_cases hz : fN = 0
        · have hzt : ((fN : Int) == 0) = true := by simp [hz]
          replace hz := Lib.hid hz
          refine wp_region_lit ?_
          refine st_val S (Op.move (.const (.int .i64 (fN : Nat)))) (.int .i64 (fN : Nat)) rfl rfl (wanted_none rfl _) (by simp [execOp, resolve, S.g 1 rfl, ev_c, ev_f]) ?_ (fun a S => ?_)
          · intro K' hK'
            go_wp2_with fail
            exact hK'
          refine st_val S (Op.binOp BinOp.eql 3 (.const (.int .i64 (fN : Nat))) (.const (.int .i64 0)) 3) (.bool true) rfl rfl (wanted_none rfl _) (by simp [execOp, resolve, S.g 113 rfl, ev_c, ev_f, eqGuard]) ?_ (fun a S => ?_)
          · intro K' hK'
            go_wp2_with fail
            exact hK'
          go_upto_region 23 with fail
          refine wp_cond_true (S.g 114 rfl) ?_
          go_upto_region 23 with fail
          refine wp_region_lit ?_
          refine st_val S (Op.move (.const (.int .i64 (cm : Nat)))) (.int .i64 (cm : Nat)) rfl rfl (wanted_none rfl _) (by simp [execOp, resolve, S.g 12 rfl, ev_c, ev_f]) ?_ (fun a S => ?_)
          · intro K' hK'
            go_wp2_with fail
            exact hK'
          refine st_val S (Op.assign (.const (.int .i64 (cm : Nat)))) (.int .i64 (cm : Nat)) rfl rfl (wanted_none rfl _) (by simp [execOp, resolve, S.g 115 rfl, ev_c, ev_f]) ?_ (fun a S => ?_)
          · intro K' hK'
            go_wp2_with fail
            exact hK'
          go_upto_region 26 with fail
          have e14 : (sw cm fN : Nat) = cm := by unfold sw; rw [if_pos hz.out]
          exact REST.out _ ⟨S.size, S.defers, Lk.cons (S.g 1 rfl) (Lk.cons (S.g 2 rfl) (Lk.cons (S.g 6 rfl) (Lk.cons (S.g 8 rfl) (Lk.cons (S.g 10 rfl) (Lk.cons (S.g 11 rfl) (Lk.cons (S.g 12 rfl) (Lk.cons (S.g 13 rfl) (Lk.cons (by rw [e14]; exact S.g 14 rfl) Lk.nil))))))))⟩
        · have hzt : ((fN : Int) == 0) = false := by simp [hz]
          replace hz := Lib.hid hz
          refine wp_region_lit ?_
          refine st_val S (Op.move (.const (.int .i64 (fN : Nat)))) (.int .i64 (fN : Nat)) rfl rfl (wanted_none rfl _) (by simp [execOp, resolve, S.g 1 rfl, ev_c, ev_f]) ?_ (fun a S => ?_)
          · intro K' hK'
            go_wp2_with fail
            exact hK'
          refine st_val S (Op.binOp BinOp.eql 3 (.const (.int .i64 (fN : Nat))) (.const (.int .i64 0)) 3) (.bool false) rfl rfl (wanted_none rfl _) (by simp [execOp, resolve, S.g 113 rfl, ev_c, ev_f, eqGuard]) ?_ (fun a S => ?_)
          · intro K' hK'
            go_wp2_with fail
            exact hK'
          go_upto_region 23 with fail
          refine wp_cond_false (S.g 114 rfl) ?_
          by_cases hy : fN = cm
          · have hyt : ((fN : Int) == (cm : Int)) = true := by simp [hy]
            replace hy := Lib.hid hy
            go_upto_region 24 with fail
            refine wp_region_lit ?_
            refine st_val S (Op.move (.const (.int .i64 (fN : Nat)))) (.int .i64 (fN : Nat)) rfl rfl (wanted_none rfl _) (by simp [execOp, resolve, S.g 1 rfl, ev_c, ev_f]) ?_ (fun a S => ?_)
            · intro K' hK'
              go_wp2_with fail
              exact hK'
            refine st_val S (Op.move (.const (.int .i64 (cm : Nat)))) (.int .i64 (cm : Nat)) rfl rfl (wanted_none rfl _) (by simp [execOp, resolve, S.g 12 rfl, ev_c, ev_f]) ?_ (fun a S => ?_)
            · intro K' hK'
              go_wp2_with fail
              exact hK'
            refine st_val S (Op.binOp BinOp.eql 3 (.const (.int .i64 (fN : Nat))) (.const (.int .i64 (cm : Nat))) 3) (.bool true) rfl rfl (wanted_none rfl _) (by simp [execOp, resolve, S.g 116 rfl, S.g 117 rfl, ev_c, ev_f, eqGuard]) ?_ (fun a S => ?_)
            · intro K' hK'
              go_wp2_with fail
              exact hK'
            go_upto_region 25 with fail
            refine wp_cond_true (S.g 118 rfl) ?_
            go_upto_region 25 with fail
            refine wp_region_lit ?_
            refine st_val S (Op.assign (.const (.int .i64 0))) (.int .i64 0) rfl rfl (wanted_none rfl _) (by simp [execOp, resolve, ev_c, ev_f]) ?_ (fun a S => ?_)
            · intro K' hK'
              go_wp2_with fail
              exact hK'
            go_upto_region 26 with fail
            have e14 : (sw cm fN : Nat) = 0 := by unfold sw; rw [if_neg hz.out, if_pos hy.out]
            exact REST.out _ ⟨S.size, S.defers, Lk.cons (S.g 1 rfl) (Lk.cons (S.g 2 rfl) (Lk.cons (S.g 6 rfl) (Lk.cons (S.g 8 rfl) (Lk.cons (S.g 10 rfl) (Lk.cons (S.g 11 rfl) (Lk.cons (S.g 12 rfl) (Lk.cons (S.g 13 rfl) (Lk.cons (by rw [e14]; exact S.g 14 rfl) Lk.nil))))))))⟩
          · have hyt : ((fN : Int) == (cm : Int)) = false := by simp; omega
            replace hy := Lib.hid hy
            go_upto_region 24 with fail
            refine wp_region_lit ?_
            refine st_val S (Op.move (.const (.int .i64 (fN : Nat)))) (.int .i64 (fN : Nat)) rfl rfl (wanted_none rfl _) (by simp [execOp, resolve, S.g 1 rfl, ev_c, ev_f]) ?_ (fun a S => ?_)
            · intro K' hK'
              go_wp2_with fail
              exact hK'
            refine st_val S (Op.move (.const (.int .i64 (cm : Nat)))) (.int .i64 (cm : Nat)) rfl rfl (wanted_none rfl _) (by simp [execOp, resolve, S.g 12 rfl, ev_c, ev_f]) ?_ (fun a S => ?_)
            · intro K' hK'
              go_wp2_with fail
              exact hK'
            refine st_val S (Op.binOp BinOp.eql 3 (.const (.int .i64 (fN : Nat))) (.const (.int .i64 (cm : Nat))) 3) (.bool false) rfl rfl (wanted_none rfl _) (by simp [execOp, resolve, S.g 116 rfl, S.g 117 rfl, ev_c, ev_f, eqGuard]) ?_ (fun a S => ?_)
            · intro K' hK'
              go_wp2_with fail
              exact hK'
            go_upto_region 25 with fail
            refine wp_cond_false (S.g 118 rfl) ?_
            go_upto_region 26 with fail
            have e14 : (sw cm fN : Nat) = fN := by unfold sw; rw [if_neg hz.out, if_neg hy.out]
            exact REST.out _ ⟨S.size, S.defers, Lk.cons (S.g 1 rfl) (Lk.cons (S.g 2 rfl) (Lk.cons (S.g 6 rfl) (Lk.cons (S.g 8 rfl) (Lk.cons (S.g 10 rfl) (Lk.cons (S.g 11 rfl) (Lk.cons (S.g 12 rfl) (Lk.cons (S.g 13 rfl) (Lk.cons (by rw [e14]; exact S.g 14 rfl) Lk.nil))))))))⟩
      · have hke : k = cn := by omega
        have hk9 : decide ((k : Int) < (cn : Int)) = false := by simp; omega
        have hk9n : decide (k < cn) = false := by simp; omega
        have hX : (((List.range 8).filter (callsTo x)).take k).any (recOne p fN) = B := by
          have h1 := rec_law Hok.out Hall.out Hg_x.out
          rw [HB.out] at h1
          rw [h1, hke, Hcn.out, List.take_of_length_le (by unfold callsL; simp)]
        rw [hX] at S
        clear hX
        replace hke := Lib.hid hke
        obtain ⟨Iv, HI⟩ : ∃ b, Hid (inB (callsL x) (fN : Int) = b) := ⟨_, Lib.hid rfl⟩
        have HIB : Hid (Iv = true → B = true) := Lib.hid (fun h => by rw [← HB.out]; exact rec_self Hok.out Hg_x.out (in_calls (by rw [HI.out]; exact h)))
        have hBB : (B == B) = true := by simp
        go_upto_region 14 with fail
        refine wp_region_lit ?_
        refine st_val S (Op.move (.const (.int .i64 (k : Nat)))) (.int .i64 (k : Nat)) rfl rfl (wanted_none rfl _) (by simp [execOp, resolve, S.g 11 rfl, ev_c, ev_f]) ?_ (fun a S => ?_)
        · intro K' hK'
          go_wp2_with fail
          exact hK'
        refine st_val S (Op.move (.const (.slice ca cn cc))) (.slice ca cn cc) rfl rfl (wanted_none rfl _) (by simp [execOp, resolve, S.g 8 rfl, ev_c, ev_f]) ?_ (fun a S => ?_)
        · intro K' hK'
          go_wp2_with fail
          exact hK'
        refine st_pure S (.int .i64 cn) rfl rfl (wanted_none rfl _) (by simp [execOp, resolve, S.g 76 rfl, ev_c, ev_f]; go_simp) (fun a S => ?_)
        refine st_val S (Op.binOp BinOp.lss 3 (.const (.int .i64 (k : Nat))) (.const (.int .i64 cn)) 3) (.bool false) rfl rfl (wanted_none rfl _) (by simp [execOp, resolve, S.g 75 rfl, S.g 77 rfl, ev_c, ev_f, eqGuard]) ?_ (fun a S => ?_)
        · intro K' hK'
          go_wp2_with fail
          exact hK'
        go_upto_region 41 with fail
        refine wp_cond_false (S.g 78 rfl) ?_
        go_upto_region 41 with fail
        refine wp_region_lit ?_
        refine st_val S (Op.move (.const (.bool B))) (.bool B) rfl rfl (wanted_none rfl _) (by simp [execOp, resolve, S.g 6 rfl, ev_c, ev_f]) ?_ (fun a S => ?_)
        · intro K' hK'
          go_wp2_with fail
          exact hK'
        refine st_val S (Op.move (.const (.bool B))) (.bool B) rfl rfl (wanted_none rfl _) (by simp [execOp, resolve, S.g 10 rfl, ev_c, ev_f]) ?_ (fun a S => ?_)
        · intro K' hK'
          go_wp2_with fail
          exact hK'
        refine st_val S (Op.binOp BinOp.eql 4 (.const (.bool B)) (.const (.bool B)) 4) (.bool true) rfl rfl (wanted_none rfl _) (by simp [execOp, resolve, S.g 191 rfl, S.g 192 rfl, ev_c, ev_f, eqGuard]) ?_ (fun a S => ?_)
        · intro K' hK'
          go_wp2_with fail
          exact hK'
        refine st_val S (Op.move (.const (.bool true))) (.bool true) rfl rfl (wanted_none rfl _) (by simp [execOp, resolve, S.g 193 rfl, ev_c, ev_f]) ?_ (fun a S => ?_)
        · intro K' hK'
          go_wp2_with fail
          exact hK'
        refine st_val S (Op.move (.const (.slice ca cn cc))) (.slice ca cn cc) rfl rfl (want_at (g := 3) (d := 194) (b := true) S rfl rfl rfl rfl rfl) (by simp [execOp, resolve, S.g 8 rfl, ev_c, ev_f]) ?_ (fun a S => ?_)
        · intro K' hK'
          go_wp2_with fail
          exact hK'
        refine st_val S (Op.move (.const (.int .i64 (fN : Nat)))) (.int .i64 (fN : Nat)) rfl rfl (want_at (g := 3) (d := 194) (b := true) S rfl rfl rfl rfl rfl) (by simp [execOp, resolve, S.g 1 rfl, ev_c, ev_f]) ?_ (fun a S => ?_)
        · intro K' hK'
          go_wp2_with fail
          exact hK'
        refine st_any S (Op.call { callee := Callee.value (Operand.func 21), args := #[.const (.slice ca cn cc), .const (.int .i64 (fN : Nat))], argTypes := #[56, 3] }) (fun u w'' => u = .bool Iv ∧ Grow (ext (ext (w.alloc (.cells #[.slice (some ⟨b_x, off_x, none⟩) n cap] 43)) z) z') w'') rfl rfl (want_at (g := 3) (d := 194) (b := true) S rfl rfl rfl rfl rfl) (by simp [execOp, resolve, S.g 195 rfl, S.g 196 rfl, ev_c, ev_f]) ?_ (fun u w'' a h S => ?_)
        · intro K' hK'
          go_wp2_with ((go_at_call 21; ((with_reducible refine (law08_in_at _ (callsL x) (fN : Int) _ (hcs.mono Gw.h) hf HI.out).mono ?_); rintro e w1 ⟨rfl, hb1⟩; obtain ⟨x1, rfl⟩ := ext_of_grow hb1; clear hb1)))
          exact hK' _ _ ⟨rfl, Gw.h⟩
        obtain ⟨rfl, hg⟩ := h
        obtain ⟨x6, rfl⟩ := ext_of_grow hg
        clear hg
        cases Iv
        · clear HIB
          refine st_val S (Op.unOp UnOp.not 4 (.const (.bool false))) (.bool true) rfl rfl (want_at (g := 3) (d := 194) (b := true) S rfl rfl rfl rfl rfl) (by simp [execOp, resolve, S.g 197 rfl, ev_c, ev_f]) ?_ (fun a S => ?_)
          · intro K' hK'
            go_wp2_with fail
            exact hK'
          refine st_val S (Op.move (.const (.bool true))) (.bool true) rfl rfl (want_at (g := 3) (d := 194) (b := true) S rfl rfl rfl rfl rfl) (by simp [execOp, resolve, S.g 198 rfl, ev_c, ev_f]) ?_ (fun a S => ?_)
          · intro K' hK'
            go_wp2_with fail
            exact hK'
          refine st_skip S rfl rfl (want_not (g := 8) (d := 199) (b := false) S rfl rfl rfl rfl rfl rfl) (fun a S => ?_)
          refine st_val S (Op.pick (.const (.bool true)) (.const (.bool true)) (.const (undef))) (.bool true) rfl rfl (want_at (g := 3) (d := 194) (b := true) S rfl rfl rfl rfl rfl) (by simp [execOp, resolve, S.g 199 rfl, S.g 200 rfl, ev_c, ev_f]) ?_ (fun a S => ?_)
          · intro K' hK'
            go_wp2_with fail
            exact hK'
          refine st_val S (Op.pick (.const (.bool true)) (.const (.bool true)) (.const (.bool false))) (.bool true) rfl rfl (wanted_none rfl _) (by simp [execOp, resolve, S.g 194 rfl, S.g 201 rfl, ev_c, ev_f]) ?_ (fun a S => ?_)
          · intro K' hK'
            go_wp2_with fail
            exact hK'
          refine st_val S (Op.move (.const (.bool true))) (.bool true) rfl rfl (wanted_none rfl _) (by simp [execOp, resolve, S.g 202 rfl, ev_c, ev_f]) ?_ (fun a S => ?_)
          · intro K' hK'
            go_wp2_with fail
            exact hK'
          refine st_any S (Op.call { callee := Callee.value (Operand.func 16), args := #[], argTypes := #[] }) (fun u w'' => u = .bool true ∧ Grow (ext (ext (w.alloc (.cells #[.slice (some ⟨b_x, off_x, none⟩) n cap] 43)) z) z') w'') rfl rfl (want_at (g := 12) (d := 203) (b := true) S rfl rfl rfl rfl rfl) (by simp [execOp, resolve, ev_c, ev_f]) ?_ (fun u w'' a h S => ?_)
          · intro K' hK'
            go_wp2_with ((go_at_call 16; ((with_reducible refine (law08_alive _).mono ?_); rintro e w1 ⟨rfl, hb1⟩; obtain ⟨x1, rfl⟩ := ext_of_grow hb1; clear hb1)))
            exact hK' _ _ ⟨rfl, Gw.h⟩
          obtain ⟨rfl, hg⟩ := h
          obtain ⟨x7, rfl⟩ := ext_of_grow hg
          clear hg
          refine st_val S (Op.pick (.const (.bool true)) (.const (.bool true)) (.const (.bool false))) (.bool true) rfl rfl (wanted_none rfl _) (by simp [execOp, resolve, S.g 203 rfl, S.g 204 rfl, ev_c, ev_f]) ?_ (fun a S => ?_)
          · intro K' hK'
            go_wp2_with fail
            exact hK'
          refine st_val S (Op.assign (.const (.bool true))) (.bool true) rfl rfl (wanted_none rfl _) (by simp [execOp, resolve, S.g 205 rfl, ev_c, ev_f]) ?_ (fun a S => ?_)
          · intro K' hK'
            go_wp2_with fail
            exact hK'
          obtain ⟨f, hf, hfk⟩ := st_frame S
          have h4 : f 4 = .bool true := hfk 4 _ rfl
          clear hfk S
          subst hf
          rw [show (List.range 206).map f = [f 0, f 1, f 2, f 3, f 4, f 5, f 6, f 7, f 8, f 9, f 10, f 11, f 12, f 13, f 14, f 15, f 16, f 17, f 18, f 19, f 20, f 21, f 22, f 23, f 24, f 25, f 26, f 27, f 28, f 29, f 30, f 31, f 32, f 33, f 34, f 35, f 36, f 37, f 38, f 39, f 40, f 41, f 42, f 43, f 44, f 45, f 46, f 47, f 48, f 49, f 50, f 51, f 52, f 53, f 54, f 55, f 56, f 57, f 58, f 59, f 60, f 61, f 62, f 63, f 64, f 65, f 66, f 67, f 68, f 69, f 70, f 71, f 72, f 73, f 74, f 75, f 76, f 77, f 78, f 79, f 80, f 81, f 82, f 83, f 84, f 85, f 86, f 87, f 88, f 89, f 90, f 91, f 92, f 93, f 94, f 95, f 96, f 97, f 98, f 99, f 100, f 101, f 102, f 103, f 104, f 105, f 106, f 107, f 108, f 109, f 110, f 111, f 112, f 113, f 114, f 115, f 116, f 117, f 118, f 119, f 120, f 121, f 122, f 123, f 124, f 125, f 126, f 127, f 128, f 129, f 130, f 131, f 132, f 133, f 134, f 135, f 136, f 137, f 138, f 139, f 140, f 141, f 142, f 143, f 144, f 145, f 146, f 147, f 148, f 149, f 150, f 151, f 152, f 153, f 154, f 155, f 156, f 157, f 158, f 159, f 160, f 161, f 162, f 163, f 164, f 165, f 166, f 167, f 168, f 169, f 170, f 171, f 172, f 173, f 174, f 175, f 176, f 177, f 178, f 179, f 180, f 181, f 182, f 183, f 184, f 185, f 186, f 187, f 188, f 189, f 190, f 191, f 192, f 193, f 194, f 195, f 196, f 197, f 198, f 199, f 200, f 201, f 202, f 203, f 204, f 205] by kernel_rfl]
          rw [h4]
          clear h4
          go_wp2_with fail
          go_ret
          exact Ret.mk rfl Gw.h
        · obtain rfl : B = true := HIB.out rfl
          refine st_val S (Op.unOp UnOp.not 4 (.const (.bool true))) (.bool false) rfl rfl (want_at (g := 3) (d := 194) (b := true) S rfl rfl rfl rfl rfl) (by simp [execOp, resolve, S.g 197 rfl, ev_c, ev_f]) ?_ (fun a S => ?_)
          · intro K' hK'
            go_wp2_with fail
            exact hK'
          refine st_val S (Op.move (.const (.bool false))) (.bool false) rfl rfl (want_at (g := 3) (d := 194) (b := true) S rfl rfl rfl rfl rfl) (by simp [execOp, resolve, S.g 198 rfl, ev_c, ev_f]) ?_ (fun a S => ?_)
          · intro K' hK'
            go_wp2_with fail
            exact hK'
          refine st_val S (Op.move (.const (.bool true))) (.bool true) rfl rfl (want_at (g := 8) (d := 199) (b := false) S rfl rfl rfl rfl rfl) (by simp [execOp, resolve, S.g 6 rfl, ev_c, ev_f]) ?_ (fun a S => ?_)
          · intro K' hK'
            go_wp2_with fail
            exact hK'
          refine st_val S (Op.pick (.const (.bool false)) (.const (.bool true)) (.const (.bool true))) (.bool true) rfl rfl (want_at (g := 3) (d := 194) (b := true) S rfl rfl rfl rfl rfl) (by simp [execOp, resolve, S.g 199 rfl, S.g 200 rfl, ev_c, ev_f]) ?_ (fun a S => ?_)
          · intro K' hK'
            go_wp2_with fail
            exact hK'
          refine st_val S (Op.pick (.const (.bool true)) (.const (.bool true)) (.const (.bool false))) (.bool true) rfl rfl (wanted_none rfl _) (by simp [execOp, resolve, S.g 194 rfl, S.g 201 rfl, ev_c, ev_f]) ?_ (fun a S => ?_)
          · intro K' hK'
            go_wp2_with fail
            exact hK'
          refine st_val S (Op.move (.const (.bool true))) (.bool true) rfl rfl (wanted_none rfl _) (by simp [execOp, resolve, S.g 202 rfl, ev_c, ev_f]) ?_ (fun a S => ?_)
          · intro K' hK'
            go_wp2_with fail
            exact hK'
          refine st_any S (Op.call { callee := Callee.value (Operand.func 16), args := #[], argTypes := #[] }) (fun u w'' => u = .bool true ∧ Grow (ext (ext (w.alloc (.cells #[.slice (some ⟨b_x, off_x, none⟩) n cap] 43)) z) z') w'') rfl rfl (want_at (g := 12) (d := 203) (b := true) S rfl rfl rfl rfl rfl) (by simp [execOp, resolve, ev_c, ev_f]) ?_ (fun u w'' a h S => ?_)
          · intro K' hK'
            go_wp2_with ((go_at_call 16; ((with_reducible refine (law08_alive _).mono ?_); rintro e w1 ⟨rfl, hb1⟩; obtain ⟨x1, rfl⟩ := ext_of_grow hb1; clear hb1)))
            exact hK' _ _ ⟨rfl, Gw.h⟩
          obtain ⟨rfl, hg⟩ := h
          obtain ⟨x8, rfl⟩ := ext_of_grow hg
          clear hg
          refine st_val S (Op.pick (.const (.bool true)) (.const (.bool true)) (.const (.bool false))) (.bool true) rfl rfl (wanted_none rfl _) (by simp [execOp, resolve, S.g 203 rfl, S.g 204 rfl, ev_c, ev_f]) ?_ (fun a S => ?_)
          · intro K' hK'
            go_wp2_with fail
            exact hK'
          refine st_val S (Op.assign (.const (.bool true))) (.bool true) rfl rfl (wanted_none rfl _) (by simp [execOp, resolve, S.g 205 rfl, ev_c, ev_f]) ?_ (fun a S => ?_)
          · intro K' hK'
            go_wp2_with fail
            exact hK'
          obtain ⟨f, hf, hfk⟩ := st_frame S
          have h4 : f 4 = .bool true := hfk 4 _ rfl
          clear hfk S
          subst hf
          rw [show (List.range 206).map f = [f 0, f 1, f 2, f 3, f 4, f 5, f 6, f 7, f 8, f 9, f 10, f 11, f 12, f 13, f 14, f 15, f 16, f 17, f 18, f 19, f 20, f 21, f 22, f 23, f 24, f 25, f 26, f 27, f 28, f 29, f 30, f 31, f 32, f 33, f 34, f 35, f 36, f 37, f 38, f 39, f 40, f 41, f 42, f 43, f 44, f 45, f 46, f 47, f 48, f 49, f 50, f 51, f 52, f 53, f 54, f 55, f 56, f 57, f 58, f 59, f 60, f 61, f 62, f 63, f 64, f 65, f 66, f 67, f 68, f 69, f 70, f 71, f 72, f 73, f 74, f 75, f 76, f 77, f 78, f 79, f 80, f 81, f 82, f 83, f 84, f 85, f 86, f 87, f 88, f 89, f 90, f 91, f 92, f 93, f 94, f 95, f 96, f 97, f 98, f 99, f 100, f 101, f 102, f 103, f 104, f 105, f 106, f 107, f 108, f 109, f 110, f 111, f 112, f 113, f 114, f 115, f 116, f 117, f 118, f 119, f 120, f 121, f 122, f 123, f 124, f 125, f 126, f 127, f 128, f 129, f 130, f 131, f 132, f 133, f 134, f 135, f 136, f 137, f 138, f 139, f 140, f 141, f 142, f 143, f 144, f 145, f 146, f 147, f 148, f 149, f 150, f 151, f 152, f 153, f 154, f 155, f 156, f 157, f 158, f 159, f 160, f 161, f 162, f 163, f 164, f 165, f 166, f 167, f 168, f 169, f 170, f 171, f 172, f 173, f 174, f 175, f 176, f 177, f 178, f 179, f 180, f 181, f 182, f 183, f 184, f 185, f 186, f 187, f 188, f 189, f 190, f 191, f 192, f 193, f 194, f 195, f 196, f 197, f 198, f 199, f 200, f 201, f 202, f 203, f 204, f 205] by kernel_rfl]
          rw [h4]
          clear h4
          go_wp2_with fail
          go_ret
          exact Ret.mk rfl Gw.h
end Go.Proofs.Ythackfblfkpddaa
