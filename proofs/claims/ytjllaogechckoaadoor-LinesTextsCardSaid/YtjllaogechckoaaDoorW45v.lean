/- Layer 45: the text of a conflict is read: four numbers and a place. -/
import Derived.Test.YtjllaogechckoaaDoorW45g
import Derived.Test.YtjllaogechckoaaDoorW45u
import Derived.Deep.DeepCutAuto
import Derived.Deep.CutBlock
import Derived.StillTailTactics
import Derived.BigRegion
namespace Go.Proofs.YtjllaogechckoaaDoor
open Go.RowKit
set_option linter.unusedSimpArgs false
set_option linter.unusedVariables false

theorem sl_cells {F : Nat → Prop} {w : World} {a : Option Addr} {n c : Nat} {l : List Bs} (h : Sl F w (.slice a n c) l) (hn : 0 < n) : ∃ b off, a = some ⟨b, off, none⟩ ∧ LtW b w ∧ ∀ i, i < n → ∃ x, l[i]? = some x ∧ w.cell? ⟨b, off + i, none⟩ = some (.string (str x)) := by
  obtain ⟨b, off, x, rfl, ⟨hx, hl, c0⟩⟩ := h.bs 0 hn
  refine ⟨b, off, rfl, hl, fun i hi => ?_⟩
  obtain ⟨b', off', x', e, ⟨hx', _, c'⟩⟩ := h.bs i hi
  simp only [Option.some.injEq, Addr.mk.injEq, and_true] at e
  obtain ⟨rfl, rfl⟩ := e
  exact ⟨x', hx'.out, c'⟩
theorem borrowP_len {l : List Bs} (h : l.length ≠ 8) : borrowP l = none := by
  unfold borrowP
  split
  · simp at h
  · rfl
abbrev vbo (n0 n1 n2 : Int) (x : Pl) (wr dp : Bool) : Ve := ⟨3, 48, n0, n1, n2, x, wr, dp, 0, 0, [], []⟩
theorem borrowP_of (a b c d e f g h : Bs) : borrowP [a, b, c, d, e, f, g, h] = if (Lib.hasPrefix a [102] && (b == t_at) && (d == t_loan)) then (match numP (a.drop 1), numP c, numP e, plFind h with
    | some n0, some n1, some n2, some x => if ((f == t_write || f == t_read) && (g == t_deep || g == t_shallow)) then some (vbo n0 n1 n2 x (f == t_write) (g == t_deep)) else none
    | _, _, _, _ => none) else none := by
  unfold borrowP
  dsimp only
  by_cases h1 : Lib.hasPrefix a [102] = true ∧ b = t_at ∧ d = t_loan
  · rw [if_pos h1, if_pos (by simp [h1])]
    cases numP (a.drop 1) <;> cases numP c <;> cases numP e <;> cases plFind h <;> (try rfl)
    dsimp only
    by_cases h2 : (f = t_write ∨ f = t_read) ∧ (g = t_deep ∨ g = t_shallow)
    · rw [if_pos h2, if_pos (by simpa using h2)]
    · rw [if_neg h2, if_neg (by simpa using h2)]
  · rw [if_neg h1, if_neg (by intro h; apply h1; simpa [and_assoc] using h)]
theorem sl3 {w : World} {g : Nat} {e : TypeId} {a b c : Bs} (hg : w.heap[g]? = some (.cells #[.string (str a), .string (str b), .string (str c)] e)) : Sl (fun _ => True) w (.slice (some ⟨g, 0, none⟩) 3 3) [a, b, c] := by
  refine ⟨_, 3, rfl, Nat.le_refl _, by omega, (fun h => by cases h), fun i hi => ⟨g, 0, rfl, trivial, (Array.getElem?_eq_some_iff.1 hg).1, [.string (str ([a, b, c][i]))], rfl, fun j hj => ?_⟩⟩
  obtain rfl : j = 0 := by simpa using hj
  simp only [World.cell?, hg, Nat.zero_add, sz_bs, Nat.mul_one, Nat.add_zero]
  have hi' : i < 3 := hi
  match i, hi' with
  | 0, _ => rfl
  | 1, _ => rfl
  | 2, _ => rfl
theorem mapM3 (a b c : Bs) : [a, b, c].mapM numP = match numP a, numP b, numP c with | some x, some y, some z => some [x, y, z] | _, _, _ => none := by
  simp only [List.mapM_cons, List.mapM_nil]
  cases numP a <;> cases numP b <;> cases numP c <;> rfl
theorem sl_ints {F : Nat → Prop} {w : World} {a : Option Addr} {c : Nat} {n0 n1 n2 : Int} (h : Sl F w (.slice a 3 c) [n0, n1, n2]) : ∃ b off, a = some ⟨b, off, none⟩ ∧ F b ∧ b < w.heap.size ∧ w.cell? ⟨b, off, none⟩ = some (.int .i64 n0) ∧ w.cell? ⟨b, off + 1, none⟩ = some (.int .i64 n1) ∧ w.cell? ⟨b, off + 2, none⟩ = some (.int .i64 n2) := by
  obtain ⟨a', cap, hv, _, _, _, hr⟩ := h
  injection hv with e1 _ e2
  subst e1 e2
  obtain ⟨b, off, rfl, hF, hlt, cs, ⟨rfl, _⟩, h0⟩ := hr 0 (by simp)
  obtain ⟨b1, off1, e, _, _, cs, ⟨rfl, _⟩, h1⟩ := hr 1 (by simp)
  simp only [Option.some.injEq, Addr.mk.injEq, and_true] at e
  obtain ⟨rfl, rfl⟩ := e
  obtain ⟨b1, off1, e, _, _, cs, ⟨rfl, _⟩, h2⟩ := hr 2 (by simp)
  simp only [Option.some.injEq, Addr.mk.injEq, and_true] at e
  obtain ⟨rfl, rfl⟩ := e
  exact ⟨b, off, rfl, hF, hlt, by simpa [sz_int] using h0 0 (by simp), by simpa [sz_int] using h1 0 (by simp), by simpa [sz_int] using h2 0 (by simp)⟩
theorem agr_at {F : Nat → Prop} {w w' : World} (h : Agr F w w') {b o : Nat} {v : Value} (hF : F b) (hc : w.cell? ⟨b, o, none⟩ = some v) : w'.cell? ⟨b, o, none⟩ = some v := by
  have hb := lt_of_cell hc
  unfold World.cell? at hc ⊢
  dsimp only at hc ⊢
  rw [h b hF hb]; exact hc
theorem plOk_wf {p : Pl} (h : plOk p = true) : p.wf := by
  unfold plOk at h
  have h := of_decide_eq_true h
  exact ⟨by unfold I64; omega, by unfold U8; omega⟩
theorem wp_still_tail_drew {P : Program} {id : Nat} {Q : Exit → Act → World → Prop} {a : Act} {w : World} {l : List Oper} (n : Nat) (hm : P.follows .mixedOrders = true) (hB : Region.lexTailB .any l.toArray n = true)
    (h : wpStill P l.toArray w.drew (fun a' => wpList P l.toArray Q (l.drop n) a' w.drew) (l.take n) a) : (Code.region id l.toArray true).wp P Q a w := wp_region_still_tail n hm hB h
theorem AgrS.dr {F : Nat → Prop} {w w' : World} (h : AgrS F w w') : AgrS F w.drew w'.drew := ⟨h.size, h.agr⟩
theorem bor_agr {w : World} {Z B Z' B' : Array Value} {x1 x8 : Ext} {t0 x2 x4 : Bs} : Agr (fun k => w.heap.size + 2 ≤ k) (ext ((ext ((w.alloc (.cells Z 31)).alloc (.cells B 31)) x1).alloc (.cells #[.string (str t0), .string (str x2), .string (str x4)] 9)).drew x8) (ext ((ext ((w.alloc (.cells Z' 31)).alloc (.cells B' 31)) x1).alloc (.cells #[.string (str t0), .string (str x2), .string (str x4)] 9)).drew x8) :=
  (((((((AgrS.refl (fun k => w.heap.size + 2 ≤ k) w).alloc (by simp) _ _).alloc (by simp) _ _).ext x1).same _).dr).ext x8).agr
theorem bor_cell {w : World} {Z B : Array Value} {x1 x8 : Ext} {t0 x2 x4 : Bs} {nb no : Nat} {v : Value} (hF : w.heap.size + 2 ≤ nb) (hc : World.cell? (ext ((ext ((w.alloc (.cells Z 31)).alloc (.cells B 31)) x1).alloc (.cells #[.string (str t0), .string (str x2), .string (str x4)] 9)).drew x8) ⟨nb, no, none⟩ = some v) (Z' B' : Array Value) : World.cell? (ext ((ext ((w.alloc (.cells Z' 31)).alloc (.cells B' 31)) x1).alloc (.cells #[.string (str t0), .string (str x2), .string (str x4)] 9)).drew x8) ⟨nb, no, none⟩ = some v := agr_at bor_agr hF hc
set_option maxRecDepth 100000 in
set_option maxHeartbeats 8000000 in
theorem borrow_some (b off c : Nat) (t0 x1 x2 x3 x4 x5 x6 x7 : Bs) (w : World) (hlt : LtW b w) (k0 : w.cell? ⟨b, off, none⟩ = some (.string (str (102 :: t0)))) (k1 : w.cell? ⟨b, off + 1, none⟩ = some (.string (str x1))) (k2 : w.cell? ⟨b, off + 2, none⟩ = some (.string (str x2))) (k3 : w.cell? ⟨b, off + 3, none⟩ = some (.string (str x3))) (k4 : w.cell? ⟨b, off + 4, none⟩ = some (.string (str x4))) (k5 : w.cell? ⟨b, off + 5, none⟩ = some (.string (str x5))) (k6 : w.cell? ⟨b, off + 6, none⟩ = some (.string (str x6))) (k7 : w.cell? ⟨b, off + 7, none⟩ = some (.string (str x7)))
    (z0 : (102 :: t0).length ≤ 900000) (z2 : x2.length ≤ 900000) (z4 : x4.length ≤ 900000) (z7 : x7.length ≤ 900000) (hw : Laid w) (p1 : (x1 == t_at) = true) (p3 : (x3 == t_loan) = true) (ns : List Int) (hm : [t0, x2, x4].mapM numP = some ns) (pl : Pl) (hq : plFind x7 = some pl) :
    Calls Tryd.prog 46 #[.slice (some ⟨b, off, none⟩) 8 c] w (RetP w (RdR w (borrowP [102 :: t0, x1, x2, x3, x4, x5, x6, x7]))) := by
  have p0 : Lib.hasPrefix (102 :: t0) [102] = true := rfl
  have HP := Lib.hid (fun w => hasP_c (102 :: t0) [102] w)
  have HR := Lib.hid (borrowP_of (102 :: t0) x1 x2 x3 x4 x5 x6 x7)
  obtain ⟨R, HRR⟩ : ∃ R, Hid (borrowP [102 :: t0, x1, x2, x3, x4, x5, x6, x7] = R) := ⟨_, Lib.hid rfl⟩
  rw [HRR.out] at HR ⊢
  rw [p0] at HP HR
  clear p0
  have hx := str_tail 102 t0
  have hn3 := mapM3 t0 x2 x4
  have HN : Hid (∀ w (v : Value), Sl (fun _ => True) w v [t0, x2, x4] → Laid w → Calls Tryd.prog 58 #[v] w (RetP w fun v w' => ∃ ua uc, v = .tuple #[.slice ua 3 uc, .bool true] ∧ Sl (Frs w) w' (.slice ua 3 uc) ns)) := Lib.hid (fun w v hs hw =>
    (lines_numbers v [t0, x2, x4] w hs (by simp) (by intro s hs; simp only [List.mem_cons, List.not_mem_nil, or_false] at hs; rcases hs with rfl | rfl | rfl <;> (simp at z0; omega)) hw).mono (by
      rintro e w' ⟨_, rfl, hR, hg⟩
      rcases hR with ⟨ns', u, h2, rfl, hsl⟩ | ⟨h2, _⟩
      · rw [hm] at h2; injection h2 with h2; subst h2
        obtain ⟨ua, un, uc, rfl, Hu, _, _, _, _⟩ := hsl.open
        have hu : un = 3 := Hu.out.trans (mapM_len _ _ hm)
        subst hu
        exact ⟨_, rfl, ⟨ua, uc, rfl, hsl⟩, hg⟩
      · rw [hm] at h2; cases h2))
  obtain ⟨n0, n1, n2, rfl, hN0, hN1, hN2⟩ : ∃ n0 n1 n2, ns = [n0, n1, n2] ∧ numP t0 = some n0 ∧ numP x2 = some n1 ∧ numP x4 = some n2 := by
    rw [hm] at hn3
    revert hn3
    cases numP t0 <;> cases numP x2 <;> cases numP x4 <;> simp
    rintro rfl; exact ⟨_, _, _, rfl, rfl, rfl, rfl⟩
  have HPR := Lib.hid (fun w hw => place_Read x7 (by omega) w hw)
  clear hn3 hm
  have hI0 := (numP_some hN0).2
  have hI1 := (numP_some hN1).2
  have hI2 := (numP_some hN2).2
  have e1 : plE x7 = 0 ∧ plD x7 = pl := by unfold plE plD; rw [hq]; exact ⟨rfl, rfl⟩
  rw [e1.1, e1.2] at HPR
  replace HR : Hid (R = if ((x5 == t_write || x5 == t_read) && (x6 == t_deep || x6 == t_shallow)) then some (vbo n0 n1 n2 pl (x5 == t_write) (x6 == t_deep)) else none) := Lib.hid (by rw [HR.out, hq, p1, p3]; simp only [List.drop_succ_cons, List.drop_zero, hN0, hN1, hN2]; rfl)
  have Hpl := Lib.hid (plFind_some hq).1
  clear e1 hq hN0 hN1 hN2
  go_enter Tryd.func46, Tryd.ntmps46
  go_upto_region 4 with (first | (go_at_call 57; ((with_reducible refine (HP.out _).mono ?_); rintro e w1 ⟨rfl, hb1⟩; obtain ⟨x1, rfl⟩ := ext_of_grow hb1; clear hb1)))
  have hC : ∀ w', Grow (ext ((w.alloc (.cells #[.int .u8 0, .int .i64 0, .int .i64 0, .int .i64 0, .int .i64 0, .int .i64 0, .bool false, .int .u8 0, .bool false, .bool false, .int .u8 0, .int .i64 0, .slice none 0 0, .slice none 0 0] 31)).alloc (.cells #[.int .u8 3, .int .i64 48, .int .i64 0, .int .i64 0, .int .i64 0, .int .i64 0, .bool false, .int .u8 0, .bool false, .bool false, .int .u8 0, .int .i64 0, .slice none 0 0, .slice none 0 0] 31)) x1) w' → ∃ q : Ext, w' = ext (ext ((w.alloc (.cells #[.int .u8 0, .int .i64 0, .int .i64 0, .int .i64 0, .int .i64 0, .int .i64 0, .bool false, .int .u8 0, .bool false, .bool false, .int .u8 0, .int .i64 0, .slice none 0 0, .slice none 0 0] 31)).alloc (.cells #[.int .u8 3, .int .i64 48, .int .i64 0, .int .i64 0, .int .i64 0, .int .i64 0, .bool false, .int .u8 0, .bool false, .bool false, .int .u8 0, .int .i64 0, .slice none 0 0, .slice none 0 0] 31)) x1) q := fun w' g => ext_of_grow g
  refine wp_region_J (fun w' => ∃ q : Ext, w' = ext (ext ((w.alloc (.cells #[.int .u8 0, .int .i64 0, .int .i64 0, .int .i64 0, .int .i64 0, .int .i64 0, .bool false, .int .u8 0, .bool false, .bool false, .int .u8 0, .int .i64 0, .slice none 0 0, .slice none 0 0] 31)).alloc (.cells #[.int .u8 3, .int .i64 48, .int .i64 0, .int .i64 0, .int .i64 0, .int .i64 0, .bool false, .int .u8 0, .bool false, .bool false, .int .u8 0, .int .i64 0, .slice none 0 0, .slice none 0 0] 31)) x1) q) 17 (by kernel_rfl) (by rfl) ?_
  ((refine J_quiet 0 rfl (by decide +kernel) (by first | exact Or.inl rfl | exact Or.inr rfl) (hC _ (by (repeat (first | (with_reducible exact Grow.refl _) | assumption | refine Grow.ext ?_ _ | refine Grow.alloc ?_ _ | refine Grow.drew ?_ | refine Grow.setCell ?_ (by first | (simp; done) | (simp; omega)) _ | refine Grow.trans ?_ (by assumption))))) ?_; (first | go_big_quiet_step (fail) | (refine wpQuiet_step (fun K hK => ?_); go_simp; split <;> (refine hK _ ?_; clear hK K))); refine wpQuiet_nil ?_); (refine J_quiet 1 rfl (by decide +kernel) (by first | exact Or.inl rfl | exact Or.inr rfl) (hC _ (by (repeat (first | (with_reducible exact Grow.refl _) | assumption | refine Grow.ext ?_ _ | refine Grow.alloc ?_ _ | refine Grow.drew ?_ | refine Grow.setCell ?_ (by first | (simp; done) | (simp; omega)) _ | refine Grow.trans ?_ (by assumption))))) ?_; (first | go_big_quiet_step (fail) | (refine wpQuiet_step (fun K hK => ?_); go_simp; split <;> (refine hK _ ?_; clear hK K))); refine wpQuiet_nil ?_); (refine J_quiet 2 rfl (by decide +kernel) (by first | exact Or.inl rfl | exact Or.inr rfl) (hC _ (by (repeat (first | (with_reducible exact Grow.refl _) | assumption | refine Grow.ext ?_ _ | refine Grow.alloc ?_ _ | refine Grow.drew ?_ | refine Grow.setCell ?_ (by first | (simp; done) | (simp; omega)) _ | refine Grow.trans ?_ (by assumption))))) ?_; (first | go_big_quiet_step (fail) | (refine wpQuiet_step (fun K hK => ?_); go_simp; split <;> (refine hK _ ?_; clear hK K))); refine wpQuiet_nil ?_); (refine J_quiet 4 rfl (by decide +kernel) (by first | exact Or.inl rfl | exact Or.inr rfl) (hC _ (by (repeat (first | (with_reducible exact Grow.refl _) | assumption | refine Grow.ext ?_ _ | refine Grow.alloc ?_ _ | refine Grow.drew ?_ | refine Grow.setCell ?_ (by first | (simp; done) | (simp; omega)) _ | refine Grow.trans ?_ (by assumption))))) ?_; (first | go_big_quiet_step (fail) | (refine wpQuiet_step (fun K hK => ?_); go_simp; split <;> (refine hK _ ?_; clear hK K))); refine wpQuiet_nil ?_); (refine J_quiet 5 rfl (by decide +kernel) (by first | exact Or.inl rfl | exact Or.inr rfl) (hC _ (by (repeat (first | (with_reducible exact Grow.refl _) | assumption | refine Grow.ext ?_ _ | refine Grow.alloc ?_ _ | refine Grow.drew ?_ | refine Grow.setCell ?_ (by first | (simp; done) | (simp; omega)) _ | refine Grow.trans ?_ (by assumption))))) ?_; (first | go_big_quiet_step (fail) | (refine wpQuiet_step (fun K hK => ?_); go_simp; split <;> (refine hK _ ?_; clear hK K))); refine wpQuiet_nil ?_); (refine J_quiet 6 rfl (by decide +kernel) (by first | exact Or.inl rfl | exact Or.inr rfl) (hC _ (by (repeat (first | (with_reducible exact Grow.refl _) | assumption | refine Grow.ext ?_ _ | refine Grow.alloc ?_ _ | refine Grow.drew ?_ | refine Grow.setCell ?_ (by first | (simp; done) | (simp; omega)) _ | refine Grow.trans ?_ (by assumption))))) ?_; (first | go_big_quiet_step (fail) | (refine wpQuiet_step (fun K hK => ?_); go_simp; split <;> (refine hK _ ?_; clear hK K))); refine wpQuiet_nil ?_); (refine J_quiet 7 rfl (by decide +kernel) (by first | exact Or.inl rfl | exact Or.inr rfl) (hC _ (by (repeat (first | (with_reducible exact Grow.refl _) | assumption | refine Grow.ext ?_ _ | refine Grow.alloc ?_ _ | refine Grow.drew ?_ | refine Grow.setCell ?_ (by first | (simp; done) | (simp; omega)) _ | refine Grow.trans ?_ (by assumption))))) ?_; (first | go_big_quiet_step (fail) | (refine wpQuiet_step (fun K hK => ?_); go_simp; split <;> (refine hK _ ?_; clear hK K))); refine wpQuiet_nil ?_); (refine J_quiet 8 rfl (by decide +kernel) (by first | exact Or.inl rfl | exact Or.inr rfl) (hC _ (by (repeat (first | (with_reducible exact Grow.refl _) | assumption | refine Grow.ext ?_ _ | refine Grow.alloc ?_ _ | refine Grow.drew ?_ | refine Grow.setCell ?_ (by first | (simp; done) | (simp; omega)) _ | refine Grow.trans ?_ (by assumption))))) ?_; (first | go_big_quiet_step (fail) | (refine wpQuiet_step (fun K hK => ?_); go_simp; split <;> (refine hK _ ?_; clear hK K))); refine wpQuiet_nil ?_); (refine J_quiet 9 rfl (by decide +kernel) (by first | exact Or.inl rfl | exact Or.inr rfl) (hC _ (by (repeat (first | (with_reducible exact Grow.refl _) | assumption | refine Grow.ext ?_ _ | refine Grow.alloc ?_ _ | refine Grow.drew ?_ | refine Grow.setCell ?_ (by first | (simp; done) | (simp; omega)) _ | refine Grow.trans ?_ (by assumption))))) ?_; (first | go_big_quiet_step (fail) | (refine wpQuiet_step (fun K hK => ?_); go_simp; split <;> (refine hK _ ?_; clear hK K))); refine wpQuiet_nil ?_); (repeat (any_goals (first | (refine J_quiet 12 rfl (by decide +kernel) (by first | exact Or.inl rfl | exact Or.inr rfl) (hC _ (by (repeat (first | (with_reducible exact Grow.refl _) | assumption | refine Grow.ext ?_ _ | refine Grow.alloc ?_ _ | refine Grow.drew ?_ | refine Grow.setCell ?_ (by first | (simp; done) | (simp; omega)) _ | refine Grow.trans ?_ (by assumption))))) ?_; (first | go_big_quiet_step (fail) | (refine wpQuiet_step (fun K hK => ?_); go_simp; split <;> (refine hK _ ?_; clear hK K))); refine wpQuiet_nil ?_) | (refine J_quiet 13 rfl (by decide +kernel) (by first | exact Or.inl rfl | exact Or.inr rfl) (hC _ (by (repeat (first | (with_reducible exact Grow.refl _) | assumption | refine Grow.ext ?_ _ | refine Grow.alloc ?_ _ | refine Grow.drew ?_ | refine Grow.setCell ?_ (by first | (simp; done) | (simp; omega)) _ | refine Grow.trans ?_ (by assumption))))) ?_; (first | go_big_quiet_step (fail) | (refine wpQuiet_step (fun K hK => ?_); go_simp; split <;> (refine hK _ ?_; clear hK K))); refine wpQuiet_nil ?_) | (refine J_quiet 14 rfl (by decide +kernel) (by first | exact Or.inl rfl | exact Or.inr rfl) (hC _ (by (repeat (first | (with_reducible exact Grow.refl _) | assumption | refine Grow.ext ?_ _ | refine Grow.alloc ?_ _ | refine Grow.drew ?_ | refine Grow.setCell ?_ (by first | (simp; done) | (simp; omega)) _ | refine Grow.trans ?_ (by assumption))))) ?_; (first | go_big_quiet_step (fail) | (refine wpQuiet_step (fun K hK => ?_); go_simp; split <;> (refine hK _ ?_; clear hK K))); refine wpQuiet_nil ?_) | (refine J_quiet 15 rfl (by decide +kernel) (by first | exact Or.inl rfl | exact Or.inr rfl) (hC _ (by (repeat (first | (with_reducible exact Grow.refl _) | assumption | refine Grow.ext ?_ _ | refine Grow.alloc ?_ _ | refine Grow.drew ?_ | refine Grow.setCell ?_ (by first | (simp; done) | (simp; omega)) _ | refine Grow.trans ?_ (by assumption))))) ?_; (first | go_big_quiet_step (fail) | (refine wpQuiet_step (fun K hK => ?_); go_simp; split <;> (refine hK _ ?_; clear hK K))); refine wpQuiet_nil ?_) | (refine J_quiet 16 rfl (by decide +kernel) (by first | exact Or.inl rfl | exact Or.inr rfl) (hC _ (by (repeat (first | (with_reducible exact Grow.refl _) | assumption | refine Grow.ext ?_ _ | refine Grow.alloc ?_ _ | refine Grow.drew ?_ | refine Grow.setCell ?_ (by first | (simp; done) | (simp; omega)) _ | refine Grow.trans ?_ (by assumption))))) ?_; (first | go_big_quiet_step (fail) | (refine wpQuiet_step (fun K hK => ?_); go_simp; split <;> (refine hK _ ?_; clear hK K))); refine wpQuiet_nil ?_) | ((first | (refine J_any [3] (by decide +kernel) ?_) | (refine J_any [10] (by decide +kernel) ?_) | (refine J_any [11] (by decide +kernel) ?_) | (refine J_any [12] (by decide +kernel) ?_) | (refine J_any [13,14] (by decide +kernel) ?_; refine ⟨?_, ?_⟩) | (refine J_any [13] (by decide +kernel) ?_) | (refine J_any [14] (by decide +kernel) ?_) | (refine J_any [15,16] (by decide +kernel) ?_; refine ⟨?_, ?_⟩) | (refine J_any [15] (by decide +kernel) ?_) | (refine J_any [16] (by decide +kernel) ?_)) <;> (refine ⟨_, rfl, fun K hK => ?_⟩; go_wp2_with (first | (go_at_call 58; ((with_reducible refine (HN.out _ _ (sl3 (e := 9) (by first | (simp only [hp_at, hp_alloc, hp_ext, hp_drew]; done) | (simp only [hp_at, hp_alloc, hp_ext, hp_drew]; kernel_rfl))) (hw.grow (by (repeat (first | (with_reducible exact Grow.refl _) | assumption | refine Grow.ext ?_ _ | refine Grow.alloc ?_ _ | refine Grow.drew ?_ | refine Grow.setCell ?_ (by first | (simp; done) | (simp; omega)) _ | refine Grow.trans ?_ (by assumption)))))).mono ?_); rintro e w7 ⟨_, rfl, ⟨ua, uc, rfl, hnm⟩, hb7⟩; obtain ⟨x8, rfl⟩ := ext_of_grow hb7; clear hb7))); refine hK _ _ (hC _ (by (repeat (first | (with_reducible exact Grow.refl _) | assumption | refine Grow.ext ?_ _ | refine Grow.alloc ?_ _ | refine Grow.drew ?_ | refine Grow.setCell ?_ (by first | (simp; done) | (simp; omega)) _ | refine Grow.trans ?_ (by assumption))))) ?_; clear hK K))))))
  all_goals (refine J_end (by decide +kernel) ?_)
  all_goals
    obtain ⟨nb, no, rfl, hF, hlt', c0, c1, c2⟩ := sl_ints hnm
    have hF' : w.heap.size + 2 ≤ nb := by
      refine Nat.le_trans ?_ (show _ ≤ nb from hF)
      simp [ext, World.drew]; omega
    have hI : ∀ Z B, LtW nb (ext ((ext ((w.alloc (.cells Z 31)).alloc (.cells B 31)) x1).alloc (.cells #[.string (str t0), .string (str x2), .string (str x4)] 9)).drew x8) := fun Z B => ⟨lt_of_cell (bor_cell hF' c0 Z B)⟩
    have C0 : ∀ Z B, World.cell? (ext ((ext ((w.alloc (.cells Z 31)).alloc (.cells B 31)) x1).alloc (.cells #[.string (str t0), .string (str x2), .string (str x4)] 9)).drew x8) ⟨nb, no, none⟩ = some (.int .i64 n0) := bor_cell hF' c0
    have C1 : ∀ Z B, World.cell? (ext ((ext ((w.alloc (.cells Z 31)).alloc (.cells B 31)) x1).alloc (.cells #[.string (str t0), .string (str x2), .string (str x4)] 9)).drew x8) ⟨nb, no + 1, none⟩ = some (.int .i64 n1) := bor_cell hF' c1
    have C2 : ∀ Z B, World.cell? (ext ((ext ((w.alloc (.cells Z 31)).alloc (.cells B 31)) x1).alloc (.cells #[.string (str t0), .string (str x2), .string (str x4)] 9)).drew x8) ⟨nb, no + 2, none⟩ = some (.int .i64 n2) := bor_cell hF' c2
    clear c0 c1 c2 hnm hC
    go_upto_region 9 with (first | (go_at_call 59; ((with_reducible refine (HPR.out _ (hw.grow (by (repeat (first | (with_reducible exact Grow.refl _) | assumption | refine Grow.ext ?_ _ | refine Grow.alloc ?_ _ | refine Grow.drew ?_ | refine Grow.setCell ?_ (by first | (simp; done) | (simp; omega)) _ | refine Grow.trans ?_ (by assumption)))))).mono ?_); rintro e w2 ⟨rfl, hb2⟩; obtain ⟨x2, rfl⟩ := ext_of_grow hb2; clear hb2)))
    refine wp_still_tail_drew 18 (by kernel_rfl) (by kernel_rfl) ?_
    simp only [List.take_succ_cons, List.take_zero, List.drop_succ_cons, List.drop_zero]
    repeat still_step
    refine wpStill_nil ?_
    go_upto_region 10 with fail
    have hok : ∀ a b, (vbo n0 n1 n2 pl a b).ok := fun a b => ⟨by unfold U8; dsimp only; omega, by unfold I64; dsimp only; omega, hI0, hI1, hI2, plOk_wf Hpl.out, by unfold U8; dsimp only; omega, by unfold I64; dsimp only; omega, (by intro n h; cases h), (by intro n h; cases h)⟩
    clear hI C0 C1 C2 hF hlt' hF'
    have t5 : ((x5 == t_write) = true ∧ (x5 == t_read) = false) ∨ ((x5 == t_write) = false ∧ (x5 == t_read) = true) ∨ ((x5 == t_write) = false ∧ (x5 == t_read) = false) := by
      cases q5 : (x5 == t_write)
      · cases q6 : (x5 == t_read)
        · exact Or.inr (Or.inr ⟨rfl, rfl⟩)
        · exact Or.inr (Or.inl ⟨rfl, rfl⟩)
      · exact Or.inl ⟨rfl, by rw [beq_iff_eq.1 q5]; rfl⟩
    have t6 : ((x6 == t_deep) = true ∧ (x6 == t_shallow) = false) ∨ ((x6 == t_deep) = false ∧ (x6 == t_shallow) = true) ∨ ((x6 == t_deep) = false ∧ (x6 == t_shallow) = false) := by
      cases q5 : (x6 == t_deep)
      · cases q6 : (x6 == t_shallow)
        · exact Or.inr (Or.inr ⟨rfl, rfl⟩)
        · exact Or.inr (Or.inl ⟨rfl, rfl⟩)
      · exact Or.inl ⟨rfl, by rw [beq_iff_eq.1 q5]; rfl⟩
    clear HN HPR HP hw hx z0 z2 z4 z7 HRR
    rcases t5 with ⟨q5, q6⟩ | ⟨q5, q6⟩ | ⟨q5, q6⟩
    all_goals rcases t6 with ⟨q7, q8⟩ | ⟨q7, q8⟩ | ⟨q7, q8⟩
    all_goals
      rw [q5, q6, q7, q8] at HR
      go_region
      go_wp2_with fail
      first
        | (refine postP_of (by simp only [results, Tryd.results46]; go_simp) rfl (by (repeat (first | (with_reducible exact Grow.refl _) | assumption | refine Grow.ext ?_ _ | refine Grow.alloc ?_ _ | refine Grow.drew ?_ | refine Grow.setCell ?_ (by first | (simp; done) | (simp; omega)) _ | refine Grow.trans ?_ (by assumption)))) ⟨vbo n0 n1 n2 pl _ _, none, 0, 0, none, 0, 0, true, rfl, HR.out, fun _ => ⟨hok _ _, Sl.nil _ _, Sl.nil _ _⟩⟩)
        | (refine postP_of (by simp only [results, Tryd.results46]; go_simp) rfl (by (repeat (first | (with_reducible exact Grow.refl _) | assumption | refine Grow.ext ?_ _ | refine Grow.alloc ?_ _ | refine Grow.drew ?_ | refine Grow.setCell ?_ (by first | (simp; done) | (simp; omega)) _ | refine Grow.trans ?_ (by assumption)))) ⟨vbo n0 n1 n2 pl _ _, none, 0, 0, none, 0, 0, false, rfl, HR.out, fun h => by cases h⟩)
end Go.Proofs.YtjllaogechckoaaDoor
