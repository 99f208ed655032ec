/- Layer 8: the law ProgramNames. Printed by gen08q.py. -/
import Derived.Test.YthackfblfkpddaaLP08c
namespace Go.Proofs.Ythackfblfkpddaa
open Go.RowKit
set_option linter.unusedSimpArgs false
set_option linter.unusedVariables false

theorem hide_wp8 {P : Program} {Q : Exit → Act → World → Prop} {c : Code} {a : Act} {w : World} (h : ∀ a0 : Act, Hid (a0 = a) → c.wp P Q a0 w) : c.wp P Q a w := h a (Lib.hid rfl)
theorem slT_fn8 : SlT Try.prog 41 50 4 64 := SlT.mk' (z := .agg #[.int .i64 0, .bool false, .slice none 0 0, .slice none 0 0]) Try.underlying41 (by kernel_rfl) rfl (by omega)
structure QP8 where
  V : Value
  q : Ext
instance : Inhabited QP8 := ⟨⟨undef, ⟨0, #[]⟩⟩⟩
def ph10 (vg vc m39 : Nat) (ba38 : Option Addr) (bn38 bc38 B41 cap41 E41 : Nat) (w wb : World) (i : Nat) (v : Value) (wz : World) : Prop :=
  match i with
  | 0 => v = .agg #[.slice (some ⟨vg, 0, none⟩) 9 vc]
  | 1 => v = .agg #[.slice none 0 0]
  | 2 => FnV wz v F0
  | 3 => v = .agg #[.int .i64 0, .bool false, .slice (some ⟨m39, 0, none⟩) 17 17, .slice ba38 bn38 bc38]
  | 4 => ∃ b, v = .slice (some ⟨b, 0, none⟩) 2 2 ∧ Sl (fun _ => True) wz (.slice (some ⟨b, 0, none⟩) 2 2) [F0, BR]
  | 5 => ∃ b, v = .agg #[.slice (some ⟨b, 0, none⟩) 2 2] ∧ Sl (fun _ => True) wz (.slice (some ⟨b, 0, none⟩) 2 2) [F0, BR]
  | 6 => FnV wz v C10
  | 7 => ∃ b, v = .slice (some ⟨b, 0, none⟩) 1 1 ∧ Sl (fun _ => True) wz (.slice (some ⟨b, 0, none⟩) 1 1) [C10]
  | 8 => ∃ b, v = .agg #[.slice (some ⟨b, 0, none⟩) 1 1] ∧ Sl (fun _ => True) wz (.slice (some ⟨b, 0, none⟩) 1 1) [C10]
  | 9 => FnV wz v C11
  | 10 => FnV wz v F0
  | 11 => ∃ b, v = .slice (some ⟨b, 0, none⟩) 2 2 ∧ Sl (fun _ => True) wz (.slice (some ⟨b, 0, none⟩) 2 2) [C11, F0]
  | 12 => ∃ b, v = .agg #[.slice (some ⟨b, 0, none⟩) 2 2] ∧ Sl (fun _ => True) wz (.slice (some ⟨b, 0, none⟩) 2 2) [C11, F0]
  | 13 => FnV wz v C11
  | 14 => FnV wz v F2
  | 15 => ∃ b, v = .slice (some ⟨b, 0, none⟩) 2 2 ∧ Sl (fun _ => True) wz (.slice (some ⟨b, 0, none⟩) 2 2) [C11, F2]
  | 16 => ∃ b, v = .agg #[.slice (some ⟨b, 0, none⟩) 2 2] ∧ Sl (fun _ => True) wz (.slice (some ⟨b, 0, none⟩) 2 2) [C11, F2]
  | 17 => v = .agg #[.int .i64 1, .bool false, .slice (some ⟨B41, 0, none⟩) 2 cap41, .slice (some ⟨E41, 0, none⟩) 1 1]
  | 18 => ∃ b, v = .slice (some ⟨b, 0, none⟩) 1 1 ∧ Sl (fun _ => True) wz (.slice (some ⟨b, 0, none⟩) 1 1) [SH]
  | 19 => ∃ b, v = .agg #[.slice (some ⟨b, 0, none⟩) 1 1] ∧ Sl (fun _ => True) wz (.slice (some ⟨b, 0, none⟩) 1 1) [SH]
  | 20 => FnV wz v F0
  | 21 => FnV wz v C70
  | 22 => ∃ b, v = .slice (some ⟨b, 0, none⟩) 2 2 ∧ Sl (fun _ => True) wz (.slice (some ⟨b, 0, none⟩) 2 2) [F0, C70]
  | 23 => ∃ b, v = .agg #[.slice (some ⟨b, 0, none⟩) 2 2] ∧ Sl (fun _ => True) wz (.slice (some ⟨b, 0, none⟩) 2 2) [F0, C70]
  | _ => True
theorem ph10_stay (vg vc m39 : Nat) (ba38 : Option Addr) (bn38 bc38 B41 cap41 E41 : Nat) (w0 wb : World) (i : Nat) (v : Value) (w w' : World) (g : Grow w w') (h : ph10 vg vc m39 ba38 bn38 bc38 B41 cap41 E41 w0 wb i v w) : ph10 vg vc m39 ba38 bn38 bc38 B41 cap41 E41 w0 wb i v w' := by
  unfold ph10 at h ⊢
  split at h <;> first
    | exact h
    | exact FnV.mono h g
    | (obtain ⟨b, e, s⟩ := h; exact ⟨b, e, s.mono g⟩)
def ph23 (B41 cap41 E41 : Nat) (w wb : World) (i : Nat) (v : Value) (wz : World) : Prop :=
  match i with
  | 0 => FnV wz v F2
  | 1 => FnV wz v C02
  | 2 => v = .agg #[.int .i64 1, .bool false, .slice (some ⟨B41, 0, none⟩) 2 cap41, .slice (some ⟨E41, 0, none⟩) 1 1]
  | 3 => ∃ b, v = .slice (some ⟨b, 0, none⟩) 3 3 ∧ Sl (fun _ => True) wz (.slice (some ⟨b, 0, none⟩) 3 3) [F2, C02, SH]
  | 4 => ∃ b, v = .agg #[.slice (some ⟨b, 0, none⟩) 3 3] ∧ Sl (fun _ => True) wz (.slice (some ⟨b, 0, none⟩) 3 3) [F2, C02, SH]
  | 5 => ∃ b, v = .pointer (some ⟨b, 0, none⟩) ∧ wb.heap.size ≤ b ∧ wz.heap[b]? = some (.cells #[.slice none 0 0] 43)
  | _ => True
theorem ph23_stay (B41 cap41 E41 : Nat) (w0 wb : World) (i : Nat) (v : Value) (w w' : World) (g : Grow w w') (h : ph23 B41 cap41 E41 w0 wb i v w) : ph23 B41 cap41 E41 w0 wb i v w' := by
  unfold ph23 at h ⊢
  split at h <;> first
    | exact h
    | exact FnV.mono h g
    | (obtain ⟨b, e, s⟩ := h; exact ⟨b, e, s.mono g⟩)
    | (obtain ⟨b, e, hb, h⟩ := h; exact ⟨b, e, hb, block_stay g h⟩)
set_option maxRecDepth 100000 in
set_option maxHeartbeats 32000000 in
theorem law_ProgramNames (w : World) : Calls Try.prog 5 #[] w (Ret w (.bool true)) := by
  go_enter Try.func5, Try.ntmps5
  go_wp2_with fail
  go_loopw [2] (fun i wr => ∃ (q : Nat) (V : Value) (x : Ext), q ≤ 9 ∧ i = .int .i64 q ∧ wr = ext (w.alloc (.cells #[V] 43)) x ∧ Own (fun _ => False) (w.heap.size + 1) 50 wr V (List.replicate q F0)) (fun i _ => 9 - (intOf i).toNat)
  case atStart =>
    obtain ⟨y, hy⟩ := ext_of_grow (Grow.refl (w.alloc (.cells #[.slice none 0 0] 43)))
    exact ⟨0, _, y, by omega, rfl, hy, Own.nil _ _ _ _⟩
  case round =>
    obtain ⟨q, V, x, hq, rfl, rfl, hown⟩ := hrel
    obtain ⟨va, vn, vc, rfl, Hvn, hvn, hown⟩ := hown.open8
    have hn : vn = q := by have := Hvn.out; simpa using this
    subst hn
    clear Hvn
    by_cases hlt : vn < 9
    · have hrow := hown.row_lt
      have hlt' : (vn : Int) < 9 := by omega
      go_upto_region 5 with fail
      have hC : ∀ (V : Value) (y : Ext) w', Grow (ext (w.alloc (.cells #[V] 43)) y) w' → ∃ q : QP8, w' = ext (w.alloc (.cells #[q.V] 43)) q.q := fun V y w' g => by
        obtain ⟨z, rfl⟩ := ext_of_grow ((grow_ext (w.alloc (.cells #[V] 43)) y).trans g)
        exact ⟨⟨_, z⟩, rfl⟩
      refine wp_region_J (fun w' => ∃ q : QP8, w' = ext (w.alloc (.cells #[q.V] 43)) q.q) 7 (by kernel_rfl) (by rfl) ?_
      ((refine J_quiet 0 rfl (by decide +kernel) (by first | exact Or.inl rfl | exact Or.inr rfl) (hC _ _ _ (by (repeat (first | (with_reducible exact Grow.refl _) | assumption | refine Grow.ext ?_ _ | refine Grow.alloc ?_ _ | refine Grow.drew ?_ | refine Grow.setCell ?_ (by first | (simp; done) | (simp; omega)) _ | refine Grow.trans ?_ (by assumption))))) ?_; (first | go_big_quiet_step (fail) | (refine wpQuiet_step (fun K hK => ?_); go_simp; split <;> (refine hK _ ?_; clear hK K))); refine wpQuiet_nil ?_); (repeat (any_goals (first | (refine J_quiet 5 rfl (by decide +kernel) (by first | exact Or.inl rfl | exact Or.inr rfl) (hC _ _ _ (by (repeat (first | (with_reducible exact Grow.refl _) | assumption | refine Grow.ext ?_ _ | refine Grow.alloc ?_ _ | refine Grow.drew ?_ | refine Grow.setCell ?_ (by first | (simp; done) | (simp; omega)) _ | refine Grow.trans ?_ (by assumption))))) ?_; (first | go_big_quiet_step (fail) | (refine wpQuiet_step (fun K hK => ?_); go_simp; split <;> (refine hK _ ?_; clear hK K))); refine wpQuiet_nil ?_) | ((first | (refine J_any [1,2] (by decide +kernel) ?_; refine ⟨?_, ?_⟩) | (refine J_any [1,3] (by decide +kernel) ?_; refine ⟨?_, ?_⟩) | (refine J_any [1] (by decide +kernel) ?_) | (refine J_any [2] (by decide +kernel) ?_) | (refine J_any [3] (by decide +kernel) ?_) | (refine J_any [4] (by decide +kernel) ?_) | (refine J_any [6] (by decide +kernel) ?_)) <;> (refine ⟨_, rfl, fun K hK => ?_⟩; go_wp2_with (first | (go_at_call 22; ((with_reducible refine (leaf0_c _).mono ?_); rintro e w5 ⟨_, rfl, ⟨la, ln, lc, ba, bn, bc, rfl, hf5⟩, hb5⟩; obtain ⟨x5, rfl⟩ := ext_of_grow hb5; clear hb5; simp only [size_ext, alloc_size, drew_size] at hf5)) | (at_builtin; go_must (refine wpList_app1 (α := Fn) slT_fn8 rfl rfl rfl hown (by (repeat (first | (with_reducible exact Grow.refl _) | assumption | refine Grow.ext ?_ _ | refine Grow.alloc ?_ _ | refine Grow.drew ?_ | refine Grow.setCell ?_ (by first | (simp; done) | (simp; omega)) _ | refine Grow.trans ?_ (by assumption)))) (by simp) (by simp; omega) rfl (y := F0) (Rp.keep (Agr.of_grow (by (repeat (first | (with_reducible exact Grow.refl _) | assumption | refine Grow.ext ?_ _ | refine Grow.alloc ?_ _ | refine Grow.drew ?_ | refine Grow.setCell ?_ (by first | (simp; done) | (simp; omega)) _ | refine Grow.trans ?_ (by assumption))))) hf5) (fun k hk => ⟨by have := hk.2; simp at this ⊢; omega, Or.inr (by have := hk.1; omega), fun e => by have h1 := hrow k e; have h2 := hk.1; simp at h1 h2; omega⟩) (by (repeat (refine CellsAt.cons (by go_simp) ?_)); exact CellsAt.nil _ _ _) rfl (by simp; omega) (by simp; omega) ?_); intro tv' x' hown' hsz' hagr; obtain ⟨ta, tn, tc, rfl, Htn, htn, hown'⟩ := hown'.open8)); refine hK _ _ (hC _ _ _ (by (repeat (first | (with_reducible exact Grow.refl _) | assumption | refine Grow.ext ?_ _ | refine Grow.alloc ?_ _ | refine Grow.drew ?_ | refine Grow.setCell ?_ (by first | (simp; done) | (simp; omega)) _ | refine Grow.trans ?_ (by assumption))))) ?_; clear hK K))))))
      all_goals (refine J_end (by decide +kernel) ?_)
      all_goals
        go_wp2_with fail
        go_roundw
        case rel => exact ⟨vn + 1, _, x', by omega, by go_num, rfl, by
        have h := hown'.keep' (agr_new (W' := w.alloc (.cells #[.slice ta tn tc] 43)) x' (by simp)) (fun k hk => by unfold New; simp; omega) (by simp)
        rw [List.replicate_succ']; exact h⟩
        case measure => simp [intOf]; omega
    · obtain rfl : vn = 9 := by omega
      clear hlt
      obtain ⟨vg, rfl, h9c, h9m⟩ := own_addr hown (by omega)
      have own9 : Sl (fun _ => True) (ext (w.alloc (.cells #[.slice (some ⟨vg, 0, none⟩) 9 vc] 43)) x) (.slice (some ⟨vg, 0, none⟩) 9 vc) (List.replicate 9 F0) := hown.sl.wide (fun _ _ _ => trivial)
      clear hown hq hvn
      obtain ⟨i17, z17, hi17, hz17, hs17, hb17, Hz17⟩ := zero17
      go_upto_region 6 with fail
      refine hide_wp8 (fun a ha => ?_)
      have S : St8 a 203 _ := ⟨by rw [ha.out]; rfl, by rw [ha.out], Lk.cons (k := 1) (v := .pointer (some ⟨w.heap.size, 0, none⟩)) (by rw [ha.out]; rfl) Lk.nil⟩
      clear ha
      go_upto_region 6 with fail
      refine wp_region_lit ?_
      refine st_any S (Op.call { callee := Callee.value (Operand.func 22), args := #[.const (.int .i64 0)], argTypes := #[3] }) (fun u w'' => FnAt (ext (w.alloc (.cells #[.slice (some ⟨vg, 0, none⟩) 9 vc] 43)) x) w'' u F0 ∧ Grow (ext (w.alloc (.cells #[.slice (some ⟨vg, 0, none⟩) 9 vc] 43)) x) w'') rfl rfl (wanted_none rfl _) (by simp [execOp, resolve, ev_c, ev_f]) ?_ (fun u w'' a h S => ?_)
      · intro K' hK'
        go_wp2_with ((go_at_call 22; (with_reducible refine (leaf0_c _).mono ?_); rintro e w1 ⟨v1, rfl, hf, hb⟩))
        exact hK' _ _ ⟨hf, hb⟩
      obtain ⟨⟨la38, ln38, lc38, ba38, bn38, bc38, rfl, hf38⟩, hg⟩ := h
      obtain ⟨x1, rfl⟩ := ext_of_grow hg
      clear hg
      refine st_any S (Op.alloc 50) (fun u w'' => ∃ b, u = .pointer (some ⟨b, 0, none⟩) ∧ b = (ext (ext (w.alloc (.cells #[.slice (some ⟨vg, 0, none⟩) 9 vc] 43)) x) x1).heap.size ∧ w'' = (ext (ext (w.alloc (.cells #[.slice (some ⟨vg, 0, none⟩) 9 vc] 43)) x) x1).alloc (.cells #[.int .i64 0, .bool false, .slice none 0 0, .slice none 0 0] 50)) rfl rfl (wanted_none rfl _) (by simp [execOp, resolve, ev_c, ev_f]) ?_ (fun u w'' a h S => ?_)
      · intro K' hK'
        go_wp2_with (fail)
        exact hK' _ _ ⟨_, rfl, by first | rfl | (simp only [size_ext, alloc_size]; done) | (simp only [size_ext, alloc_size]; omega), rfl⟩
      obtain ⟨p3, rfl, hp3, rfl⟩ := h
      haveI ep3 : EqW p3 (ext (ext (w.alloc (.cells #[.slice (some ⟨vg, 0, none⟩) 9 vc] 43)) x) x1) := ⟨hp3⟩
      clear hp3
      refine st_put S (Op.store 50 (.const (.pointer (some ⟨p3, 0, none⟩))) (.const (.agg #[.int .i64 0, .bool false, .slice la38 ln38 lc38, .slice ba38 bn38 bc38]))) ((ext (ext (w.alloc (.cells #[.slice (some ⟨vg, 0, none⟩) 9 vc] 43)) x) x1).alloc (.cells #[.int .i64 0, .bool false, .slice la38 ln38 lc38, .slice ba38 bn38 bc38] 50)) rfl (wanted_none rfl _) (by simp [execOp, resolve, S.g 3 rfl, S.g 38 rfl, ev_c, ev_f]) ?_ (fun a S => ?_)
      · intro K' hK'
        go_wp2_with fail
        exact hK' _
      replace S : St8 a 203 _ := ⟨S.size, S.defers, Lk.cons (S.g 1 rfl) (Lk.cons (S.g 3 rfl) (Lk.nil))⟩
      go_upto_region 7 with fail
      refine wp_region_lit ?_
      refine st_any S (Op.makeSlice 24 (.const (.int .i64 17)) (.const (.int .i64 17))) (fun u w'' => ∃ b, u = .slice (some ⟨b, 0, none⟩) 17 17 ∧ Grow ((ext (ext (w.alloc (.cells #[.slice (some ⟨vg, 0, none⟩) 9 vc] 43)) x) x1).alloc (.cells #[.int .i64 0, .bool false, .slice la38 ln38 lc38, .slice ba38 bn38 bc38] 50)) w'' ∧ Own (fun _ => False) ((ext (ext (w.alloc (.cells #[.slice (some ⟨vg, 0, none⟩) 9 vc] 43)) x) x1).alloc (.cells #[.int .i64 0, .bool false, .slice la38 ln38 lc38, .slice ba38 bn38 bc38] 50)).heap.size 23 w'' (.slice (some ⟨b, 0, none⟩) 17 17) (List.replicate 17 (⟨0, 0⟩ : Ty))) rfl rfl (wanted_none rfl _) (by simp [execOp, resolve, ev_c, ev_f]) ?_ (fun u w'' a h S => ?_)
      · intro K' hK'
        (refine wpList_make_full _ rfl _ _ 24 rfl ((ext (ext (w.alloc (.cells #[.slice (some ⟨vg, 0, none⟩) 9 vc] 43)) x) x1).alloc (.cells #[.int .i64 0, .bool false, .slice la38 ln38 lc38, .slice ba38 bn38 bc38] 50)).heap.size 23 i17 z17 2 slT_ty8.ut hi17 hz17 hs17 .i64 .i64 _ _ 17 rfl rfl rfl rfl (by rw [hb17]; omega) (by unfold maxLen; omega) (Nat.le_refl _) ?_; intro w9 hown9 hgrow9; have hgz := grown_grow (Grow.refl _) hgrow9 (by simp); have hoz := Hz17.out _ _ _ hown9)
        exact hK' _ _ ⟨_, rfl, hgz, hoz⟩
      obtain ⟨m39, rfl, hg, hm39⟩ := h
      obtain ⟨x2, rfl⟩ := ext_of_grow hg
      clear hg
      refine st_val S (Op.fieldAddr 50 (.const (.pointer (some ⟨p3, 0, none⟩))) 2) (.pointer (some ⟨p3, 2, none⟩)) rfl rfl (wanted_none rfl _) (by simp [execOp, resolve, S.g 3 rfl, ev_c, ev_f]) ?_ (fun a S => ?_)
      · intro K' hK'
        go_wp2_with fail
        exact hK'
      refine st_put S (Op.store 24 (.const (.pointer (some ⟨p3, 2, none⟩))) (.const (.slice (some ⟨m39, 0, none⟩) 17 17))) (ext ((ext (ext (w.alloc (.cells #[.slice (some ⟨vg, 0, none⟩) 9 vc] 43)) x) x1).alloc (.cells #[.int .i64 0, .bool false, .slice (some ⟨m39, 0, none⟩) 17 17, .slice ba38 bn38 bc38] 50)) x2) rfl (wanted_none rfl _) (by simp [execOp, resolve, S.g 40 rfl, S.g 39 rfl, ev_c, ev_f]) ?_ (fun a S => ?_)
      · intro K' hK'
        go_wp2_with fail
        exact hK' _
      replace S : St8 a 203 _ := ⟨S.size, S.defers, Lk.cons (S.g 1 rfl) (Lk.cons (S.g 3 rfl) (Lk.nil))⟩
      clear hi17 hz17 hs17 hb17 Hz17
      replace hm39 : Own (fun _ => False) _ 23 (ext ((ext (ext (w.alloc (.cells #[.slice (some ⟨vg, 0, none⟩) 9 vc] 43)) x) x1).alloc (.cells #[.int .i64 0, .bool false, .slice (some ⟨m39, 0, none⟩) 17 17, .slice ba38 bn38 bc38] 50)) x2) (.slice (some ⟨m39, 0, none⟩) 17 17) (List.replicate 17 (⟨0, 0⟩ : Ty)) := hm39.keep' (agr_new _ (by simp only [alloc_size])) (fun k hk => hk) (by simp only [size_ext, alloc_size]; exact Nat.le_refl _)
      go_upto_region 8 with fail
      refine wp_region_lit ?_
      refine st_any S (Op.call { callee := Callee.value (Operand.func 22), args := #[.const (.int .i64 1)], argTypes := #[3] }) (fun u w'' => ∃ C cap B E, u = F1.v (.slice (some ⟨B, 0, none⟩) 2 cap) (.slice (some ⟨E, 0, none⟩) 1 1) ∧ 2 ≤ cap ∧ cap ≤ 9223372036854775807 ∧ (ext ((ext (ext (w.alloc (.cells #[.slice (some ⟨vg, 0, none⟩) 9 vc] 43)) x) x1).alloc (.cells #[.int .i64 0, .bool false, .slice (some ⟨m39, 0, none⟩) 17 17, .slice ba38 bn38 bc38] 50)) x2).heap.size ≤ B ∧ E ≠ B ∧ w''.heap[B]? = some (.cells C 23) ∧ Rows8 (fun _ => True) (ext ((ext (ext (w.alloc (.cells #[.slice (some ⟨vg, 0, none⟩) 9 vc] 43)) x) x1).alloc (.cells #[.int .i64 0, .bool false, .slice (some ⟨m39, 0, none⟩) 17 17, .slice ba38 bn38 bc38] 50)) x2) C [t10, t10] ∧ w''.heap[E]? = some (.cells exCells 63) ∧ Grow (ext ((ext (ext (w.alloc (.cells #[.slice (some ⟨vg, 0, none⟩) 9 vc] 43)) x) x1).alloc (.cells #[.int .i64 0, .bool false, .slice (some ⟨m39, 0, none⟩) 17 17, .slice ba38 bn38 bc38] 50)) x2) w'') rfl rfl (wanted_none rfl _) (by simp [execOp, resolve, ev_c, ev_f]) ?_ (fun u w'' a h S => ?_)
      · intro K' hK'
        go_wp2_with ((go_at_call 22; (with_reducible refine (leaf1_c _).mono ?_); rintro e w1 ⟨_, rfl, ⟨C, cap, B, E, rfl, h1, h2, h3, h4, hB, hC, hE⟩, hb⟩))
        exact hK' _ _ ⟨C, cap, B, E, rfl, h1, h2, h3, h4, hB, hC, hE, hb⟩
      obtain ⟨C41, cap41, B41, E41, rfl, hc1, hc2, hB, hEB, hBc, hrows, hEc, hg⟩ := h
      obtain ⟨x3, rfl⟩ := ext_of_grow hg
      clear hg
      obtain ⟨x4, x5, hBq, hw⟩ := split_box hBc hB
      rw [hw] at hEc ⊢
      clear hw hBc hB
      obtain ⟨hC0, hC1, hC2, hC3⟩ := rows_ty hrows
      clear hrows
      haveI eB41 : EqW B41 (ext (ext ((ext (ext (w.alloc (.cells #[.slice (some ⟨vg, 0, none⟩) 9 vc] 43)) x) x1).alloc (.cells #[.int .i64 0, .bool false, .slice (some ⟨m39, 0, none⟩) 17 17, .slice ba38 bn38 bc38] 50)) x2) x4) := ⟨hBq⟩
      replace hBq := Lib.hid hBq
      refine st_any S (Op.alloc 50) (fun u w'' => ∃ b, u = .pointer (some ⟨b, 0, none⟩) ∧ b = (ext ((ext (ext ((ext (ext (w.alloc (.cells #[.slice (some ⟨vg, 0, none⟩) 9 vc] 43)) x) x1).alloc (.cells #[.int .i64 0, .bool false, .slice (some ⟨m39, 0, none⟩) 17 17, .slice ba38 bn38 bc38] 50)) x2) x4).alloc (.cells C41 23)) x5).heap.size ∧ w'' = (ext ((ext (ext ((ext (ext (w.alloc (.cells #[.slice (some ⟨vg, 0, none⟩) 9 vc] 43)) x) x1).alloc (.cells #[.int .i64 0, .bool false, .slice (some ⟨m39, 0, none⟩) 17 17, .slice ba38 bn38 bc38] 50)) x2) x4).alloc (.cells C41 23)) x5).alloc (.cells #[.int .i64 0, .bool false, .slice none 0 0, .slice none 0 0] 50)) rfl rfl (wanted_none rfl _) (by simp [execOp, resolve, ev_c, ev_f]) ?_ (fun u w'' a h S => ?_)
      · intro K' hK'
        go_wp2_with (fail)
        exact hK' _ _ ⟨_, rfl, by first | rfl | (simp only [size_ext, alloc_size]; done) | (simp only [size_ext, alloc_size]; omega), rfl⟩
      obtain ⟨p4, rfl, hp4, rfl⟩ := h
      haveI ep4 : EqW p4 (ext ((ext (ext ((ext (ext (w.alloc (.cells #[.slice (some ⟨vg, 0, none⟩) 9 vc] 43)) x) x1).alloc (.cells #[.int .i64 0, .bool false, .slice (some ⟨m39, 0, none⟩) 17 17, .slice ba38 bn38 bc38] 50)) x2) x4).alloc (.cells C41 23)) x5) := ⟨hp4⟩
      clear hp4
      refine st_put S (Op.store 50 (.const (.pointer (some ⟨p4, 0, none⟩))) (.const (.agg #[.int .i64 1, .bool false, .slice (some ⟨B41, 0, none⟩) 2 cap41, .slice (some ⟨E41, 0, none⟩) 1 1]))) ((ext ((ext (ext ((ext (ext (w.alloc (.cells #[.slice (some ⟨vg, 0, none⟩) 9 vc] 43)) x) x1).alloc (.cells #[.int .i64 0, .bool false, .slice (some ⟨m39, 0, none⟩) 17 17, .slice ba38 bn38 bc38] 50)) x2) x4).alloc (.cells C41 23)) x5).alloc (.cells #[.int .i64 1, .bool false, .slice (some ⟨B41, 0, none⟩) 2 cap41, .slice (some ⟨E41, 0, none⟩) 1 1] 50)) rfl (wanted_none rfl _) (by simp [execOp, resolve, S.g 4 rfl, S.g 41 rfl, ev_c, ev_f]) ?_ (fun a S => ?_)
      · intro K' hK'
        go_wp2_with fail
        exact hK' _
      replace S : St8 a 203 _ := ⟨S.size, S.defers, Lk.cons (S.g 1 rfl) (Lk.cons (S.g 3 rfl) (Lk.cons (S.g 4 rfl) (Lk.nil)))⟩
      go_upto_region 9 with fail
      refine wp_region_lit ?_
      refine st_val S (Op.fieldAddr 50 (.const (.pointer (some ⟨p4, 0, none⟩))) 2) (.pointer (some ⟨p4, 2, none⟩)) rfl rfl (wanted_none rfl _) (by simp [execOp, resolve, S.g 4 rfl, ev_c, ev_f]) ?_ (fun a S => ?_)
      · intro K' hK'
        go_wp2_with fail
        exact hK'
      refine st_val S (Op.load 24 (.const (.pointer (some ⟨p4, 2, none⟩)))) (.slice (some ⟨B41, 0, none⟩) 2 cap41) rfl rfl (wanted_none rfl _) (by simp [execOp, resolve, S.g 42 rfl, ev_c, ev_f]) ?_ (fun a S => ?_)
      · intro K' hK'
        go_wp2_with fail
        exact hK'
      refine st_val S (Op.build 23 #[(0, .const (.int .u8 3)), (1, .const (.int .u8 1))]) (.agg #[.int .u8 3, .int .u8 1]) rfl rfl (wanted_none rfl _) (by simp [execOp, resolve, ev_c, ev_f]) ?_ (fun a S => ?_)
      · intro K' hK'
        go_wp2_with fail
        exact hK'
      refine st_val S (Op.indexAddr 24 (.const (.slice (some ⟨B41, 0, none⟩) 2 cap41)) (.const (.int .i64 1))) (.pointer (some ⟨B41, 2, none⟩)) rfl rfl (wanted_none rfl _) (by simp [execOp, resolve, S.g 43 rfl, ev_c, ev_f]) ?_ (fun a S => ?_)
      · intro K' hK'
        go_wp2_with fail
        exact hK'
      refine st_put S (Op.store 23 (.const (.pointer (some ⟨B41, 2, none⟩))) (.const (.agg #[.int .u8 3, .int .u8 1]))) ((ext ((ext (ext ((ext (ext (w.alloc (.cells #[.slice (some ⟨vg, 0, none⟩) 9 vc] 43)) x) x1).alloc (.cells #[.int .i64 0, .bool false, .slice (some ⟨m39, 0, none⟩) 17 17, .slice ba38 bn38 bc38] 50)) x2) x4).alloc (.cells ((List.take 2 C41.toList ++ .int .u8 3 :: .int .u8 1 :: List.drop 4 C41.toList).toArray) 23)) x5).alloc (.cells #[.int .i64 1, .bool false, .slice (some ⟨B41, 0, none⟩) 2 cap41, .slice (some ⟨E41, 0, none⟩) 1 1] 50)) rfl (wanted_none rfl _) (by simp [execOp, resolve, S.g 45 rfl, S.g 44 rfl, ev_c, ev_f]) ?_ (fun a S => ?_)
      · intro K' hK'
        go_wp2_with fail
        all_goals first
          | exact hK' _
          | (exfalso; have := (Array.getElem?_eq_some_iff.1 hC3).1; omega)
      replace ep4 : EqW p4 (ext ((ext (ext ((ext (ext (w.alloc (.cells #[.slice (some ⟨vg, 0, none⟩) 9 vc] 43)) x) x1).alloc (.cells #[.int .i64 0, .bool false, .slice (some ⟨m39, 0, none⟩) 17 17, .slice ba38 bn38 bc38] 50)) x2) x4).alloc (.cells ((List.take 2 C41.toList ++ .int .u8 3 :: .int .u8 1 :: List.drop 4 C41.toList).toArray) 23)) x5) := ⟨ep4.eq.trans (by simp only [alloc_size, size_ext])⟩
      replace S : St8 a 203 _ := ⟨S.size, S.defers, Lk.cons (S.g 1 rfl) (Lk.cons (S.g 3 rfl) (Lk.cons (S.g 4 rfl) (Lk.nil)))⟩
      have hE1 : (ext ((ext (ext ((ext (ext (w.alloc (.cells #[.slice (some ⟨vg, 0, none⟩) 9 vc] 43)) x) x1).alloc (.cells #[.int .i64 0, .bool false, .slice (some ⟨m39, 0, none⟩) 17 17, .slice ba38 bn38 bc38] 50)) x2) x4).alloc (.cells ((List.take 2 C41.toList ++ .int .u8 3 :: .int .u8 1 :: List.drop 4 C41.toList).toArray) 23)) x5).heap[E41]? = some (.cells exCells 63) := (agr_swap hBq.out E41 hEB (Array.getElem?_eq_some_iff.1 hEc).1).trans hEc
      have hE41 : ((ext ((ext (ext ((ext (ext (w.alloc (.cells #[.slice (some ⟨vg, 0, none⟩) 9 vc] 43)) x) x1).alloc (.cells #[.int .i64 0, .bool false, .slice (some ⟨m39, 0, none⟩) 17 17, .slice ba38 bn38 bc38] 50)) x2) x4).alloc (.cells ((List.take 2 C41.toList ++ .int .u8 3 :: .int .u8 1 :: List.drop 4 C41.toList).toArray) 23)) x5).alloc (.cells #[.int .i64 1, .bool false, .slice (some ⟨B41, 0, none⟩) 2 cap41, .slice (some ⟨E41, 0, none⟩) 1 1] 50)).heap[E41]? = some (.cells exCells 63) := block_stay Gw.h hE1
      have hB41 : ((ext ((ext (ext ((ext (ext (w.alloc (.cells #[.slice (some ⟨vg, 0, none⟩) 9 vc] 43)) x) x1).alloc (.cells #[.int .i64 0, .bool false, .slice (some ⟨m39, 0, none⟩) 17 17, .slice ba38 bn38 bc38] 50)) x2) x4).alloc (.cells ((List.take 2 C41.toList ++ .int .u8 3 :: .int .u8 1 :: List.drop 4 C41.toList).toArray) 23)) x5).alloc (.cells #[.int .i64 1, .bool false, .slice (some ⟨B41, 0, none⟩) 2 cap41, .slice (some ⟨E41, 0, none⟩) 1 1] 50)).heap[B41]? = some (.cells ((List.take 2 C41.toList ++ .int .u8 3 :: .int .u8 1 :: List.drop 4 C41.toList).toArray) 23) := by simp only [hp_alloc, hp_at, hp_ext, hp_drew]
      have hSH : Rp.R (fun _ => True) ((ext ((ext (ext ((ext (ext (w.alloc (.cells #[.slice (some ⟨vg, 0, none⟩) 9 vc] 43)) x) x1).alloc (.cells #[.int .i64 0, .bool false, .slice (some ⟨m39, 0, none⟩) 17 17, .slice ba38 bn38 bc38] 50)) x2) x4).alloc (.cells ((List.take 2 C41.toList ++ .int .u8 3 :: .int .u8 1 :: List.drop 4 C41.toList).toArray) 23)) x5).alloc (.cells #[.int .i64 1, .bool false, .slice (some ⟨B41, 0, none⟩) 2 cap41, .slice (some ⟨E41, 0, none⟩) 1 1] 50)) SH (SH.c (.slice (some ⟨B41, 0, none⟩) 2 cap41) (.slice (some ⟨E41, 0, none⟩) 1 1)) := fn_mk (x := SH) (⟨by decide, by decide⟩ : I64 1) (sl_two_ty hB41 (sh_cells hC0 hC1 hC2 hC3) hc1 hc2) (sl_end trivial hE41)
      have hBR : Rp.R (fun _ => True) ((ext ((ext (ext ((ext (ext (w.alloc (.cells #[.slice (some ⟨vg, 0, none⟩) 9 vc] 43)) x) x1).alloc (.cells #[.int .i64 0, .bool false, .slice (some ⟨m39, 0, none⟩) 17 17, .slice ba38 bn38 bc38] 50)) x2) x4).alloc (.cells ((List.take 2 C41.toList ++ .int .u8 3 :: .int .u8 1 :: List.drop 4 C41.toList).toArray) 23)) x5).alloc (.cells #[.int .i64 1, .bool false, .slice (some ⟨B41, 0, none⟩) 2 cap41, .slice (some ⟨E41, 0, none⟩) 1 1] 50)) BR (BR.c (.slice (some ⟨m39, 0, none⟩) 17 17) (.slice ba38 bn38 bc38)) := fn_mk (x := BR) (⟨by decide, by decide⟩ : I64 0) ((hm39.sl.wide (fun _ _ _ => trivial)).mono Gw.h) (((fn_parts hf38).2.wide (fun _ _ _ => trivial)).mono Gw.h)
      replace own9 : Sl (fun _ => True) ((ext ((ext (ext ((ext (ext (w.alloc (.cells #[.slice (some ⟨vg, 0, none⟩) 9 vc] 43)) x) x1).alloc (.cells #[.int .i64 0, .bool false, .slice (some ⟨m39, 0, none⟩) 17 17, .slice ba38 bn38 bc38] 50)) x2) x4).alloc (.cells ((List.take 2 C41.toList ++ .int .u8 3 :: .int .u8 1 :: List.drop 4 C41.toList).toArray) 23)) x5).alloc (.cells #[.int .i64 1, .bool false, .slice (some ⟨B41, 0, none⟩) 2 cap41, .slice (some ⟨E41, 0, none⟩) 1 1] 50)) _ _ := own9.mono Gw.h
      clear hE1 hE41 hB41 hm39 hf38 hEc hEB hBq hC0 hC1 hC2 hC3 hc1 hc2
      go_upto_region 10 with fail
      refine region_inv' 24 203 (by kernel_rfl) (by kernel_rfl) S.size (by kernel_rfl) (ph10 vg vc m39 ba38 bn38 bc38 B41 cap41 E41 w (w)) (ph10_stay vg vc m39 ba38 bn38 bc38 B41 cap41 E41 w _) (fun i hi vs w' A hg hΦ hin hout hsz K hK => ?_) (fun vs w' A hDA hg hΦ hin hout hNA => ?_)
      · obtain ⟨xq, rfl⟩ := ext_of_grow (Grow.trans (by exact Gw.h : Grow ((ext ((ext (ext ((ext (ext (w.alloc (.cells #[.slice (some ⟨vg, 0, none⟩) 9 vc] 43)) x) x1).alloc (.cells #[.int .i64 0, .bool false, .slice (some ⟨m39, 0, none⟩) 17 17, .slice ba38 bn38 bc38] 50)) x2) x4).alloc (.cells ((List.take 2 C41.toList ++ .int .u8 3 :: .int .u8 1 :: List.drop 4 C41.toList).toArray) 23)) x5).alloc (.cells #[.int .i64 1, .bool false, .slice (some ⟨B41, 0, none⟩) 2 cap41, .slice (some ⟨E41, 0, none⟩) 1 1] 50)) _) hg)
        clear hg
        obtain rfl | rfl | rfl | rfl | rfl | rfl | rfl | rfl | rfl | rfl | rfl | rfl | rfl | rfl | rfl | rfl | rfl | rfl | rfl | rfl | rfl | rfl | rfl | rfl : i = 0 ∨ i = 1 ∨ i = 2 ∨ i = 3 ∨ i = 4 ∨ i = 5 ∨ i = 6 ∨ i = 7 ∨ i = 8 ∨ i = 9 ∨ i = 10 ∨ i = 11 ∨ i = 12 ∨ i = 13 ∨ i = 14 ∨ i = 15 ∨ i = 16 ∨ i = 17 ∨ i = 18 ∨ i = 19 ∨ i = 20 ∨ i = 21 ∨ i = 22 ∨ i = 23 := by omega
        · have e1 := hout 1 _ (by kernel_rfl) (S.g 1 rfl)
          refine ⟨_, rfl, ?_⟩
          refine wp_tiny (Op.load 43 (.const (.pointer (some ⟨w.heap.size, 0, none⟩)))) (R := fun u w'' => Grow (ext ((ext ((ext (ext ((ext (ext (w.alloc (.cells #[.slice (some ⟨vg, 0, none⟩) 9 vc] 43)) x) x1).alloc (.cells #[.int .i64 0, .bool false, .slice (some ⟨m39, 0, none⟩) 17 17, .slice ba38 bn38 bc38] 50)) x2) x4).alloc (.cells ((List.take 2 C41.toList ++ .int .u8 3 :: .int .u8 1 :: List.drop 4 C41.toList).toArray) 23)) x5).alloc (.cells #[.int .i64 1, .bool false, .slice (some ⟨B41, 0, none⟩) 2 cap41, .slice (some ⟨E41, 0, none⟩) 1 1] 50)) xq) w'' ∧ ph10 vg vc m39 ba38 bn38 bc38 B41 cap41 E41 w w 0 u w'') (wanted_none rfl _) (by simp [execOp, resolve, e1, ev_c, ev_f]) ?_ (fun u w'' h => hK u w'' h.1 h.2)
          clear hK
          intro K' hK'
          go_wp2_with (fail)
          exact hK' _ _ ⟨Gw.h, rfl⟩
        · refine ⟨_, rfl, ?_⟩
          refine wp_tiny (Op.build 43 #[]) (R := fun u w'' => Grow (ext ((ext ((ext (ext ((ext (ext (w.alloc (.cells #[.slice (some ⟨vg, 0, none⟩) 9 vc] 43)) x) x1).alloc (.cells #[.int .i64 0, .bool false, .slice (some ⟨m39, 0, none⟩) 17 17, .slice ba38 bn38 bc38] 50)) x2) x4).alloc (.cells ((List.take 2 C41.toList ++ .int .u8 3 :: .int .u8 1 :: List.drop 4 C41.toList).toArray) 23)) x5).alloc (.cells #[.int .i64 1, .bool false, .slice (some ⟨B41, 0, none⟩) 2 cap41, .slice (some ⟨E41, 0, none⟩) 1 1] 50)) xq) w'' ∧ ph10 vg vc m39 ba38 bn38 bc38 B41 cap41 E41 w w 1 u w'') (wanted_none rfl _) (by simp [execOp, resolve, ev_c, ev_f]) ?_ (fun u w'' h => hK u w'' h.1 h.2)
          clear hK
          intro K' hK'
          go_wp2_with (fail)
          exact hK' _ _ ⟨Gw.h, rfl⟩
        · refine ⟨_, rfl, ?_⟩
          refine wp_tiny (Op.call { callee := Callee.value (Operand.func 22), args := #[.const (.int .i64 0)], argTypes := #[3] }) (R := fun u w'' => Grow (ext ((ext ((ext (ext ((ext (ext (w.alloc (.cells #[.slice (some ⟨vg, 0, none⟩) 9 vc] 43)) x) x1).alloc (.cells #[.int .i64 0, .bool false, .slice (some ⟨m39, 0, none⟩) 17 17, .slice ba38 bn38 bc38] 50)) x2) x4).alloc (.cells ((List.take 2 C41.toList ++ .int .u8 3 :: .int .u8 1 :: List.drop 4 C41.toList).toArray) 23)) x5).alloc (.cells #[.int .i64 1, .bool false, .slice (some ⟨B41, 0, none⟩) 2 cap41, .slice (some ⟨E41, 0, none⟩) 1 1] 50)) xq) w'' ∧ ph10 vg vc m39 ba38 bn38 bc38 B41 cap41 E41 w w 2 u w'') (wanted_none rfl _) (by simp [execOp, resolve, ev_c, ev_f]) ?_ (fun u w'' h => hK u w'' h.1 h.2)
          clear hK
          intro K' hK'
          go_wp2_with ((go_at_call 22; (with_reducible refine (leaf0_c _).mono ?_); rintro e w1 ⟨v1, rfl, hf, hb⟩; obtain ⟨x1, rfl⟩ := ext_of_grow hb; clear hb))
          exact hK' _ _ ⟨Gw.h, FnAt.v hf⟩
        · have e3 := hout 3 _ (by kernel_rfl) (S.g 3 rfl)
          refine ⟨_, rfl, ?_⟩
          refine wp_tiny (Op.load 50 (.const (.pointer (some ⟨p3, 0, none⟩)))) (R := fun u w'' => Grow (ext ((ext ((ext (ext ((ext (ext (w.alloc (.cells #[.slice (some ⟨vg, 0, none⟩) 9 vc] 43)) x) x1).alloc (.cells #[.int .i64 0, .bool false, .slice (some ⟨m39, 0, none⟩) 17 17, .slice ba38 bn38 bc38] 50)) x2) x4).alloc (.cells ((List.take 2 C41.toList ++ .int .u8 3 :: .int .u8 1 :: List.drop 4 C41.toList).toArray) 23)) x5).alloc (.cells #[.int .i64 1, .bool false, .slice (some ⟨B41, 0, none⟩) 2 cap41, .slice (some ⟨E41, 0, none⟩) 1 1] 50)) xq) w'' ∧ ph10 vg vc m39 ba38 bn38 bc38 B41 cap41 E41 w w 3 u w'') (wanted_none rfl _) (by simp [execOp, resolve, e3, ev_c, ev_f]) ?_ (fun u w'' h => hK u w'' h.1 h.2)
          clear hK
          intro K' hK'
          go_wp2_with (fail)
          exact hK' _ _ ⟨Gw.h, rfl⟩
        · obtain ⟨la48, ln48, lc48, ba48, bn48, bc48, z48, hf48⟩ := (hΦ 2 (List.mem_of_elem_eq_true (by kernel_rfl)))
          have e48 := (hin 2 48 (by omega) (by kernel_rfl)).trans z48
          have e49 : A.eval (.tmp 49) = .agg #[.int .i64 0, .bool false, .slice (some ⟨m39, 0, none⟩) 17 17, .slice ba38 bn38 bc38] := (hin 3 49 (by omega) (by kernel_rfl)).trans (hΦ 3 (List.mem_of_elem_eq_true (by kernel_rfl)))
          refine ⟨_, rfl, ?_⟩
          refine wp_tiny (Op.buildSlice 41 2 #[(0, .const (.agg #[.int .i64 0, .bool false, .slice la48 ln48 lc48, .slice ba48 bn48 bc48])), (1, .const (.agg #[.int .i64 0, .bool false, .slice (some ⟨m39, 0, none⟩) 17 17, .slice ba38 bn38 bc38]))]) (R := fun u w'' => Grow (ext ((ext ((ext (ext ((ext (ext (w.alloc (.cells #[.slice (some ⟨vg, 0, none⟩) 9 vc] 43)) x) x1).alloc (.cells #[.int .i64 0, .bool false, .slice (some ⟨m39, 0, none⟩) 17 17, .slice ba38 bn38 bc38] 50)) x2) x4).alloc (.cells ((List.take 2 C41.toList ++ .int .u8 3 :: .int .u8 1 :: List.drop 4 C41.toList).toArray) 23)) x5).alloc (.cells #[.int .i64 1, .bool false, .slice (some ⟨B41, 0, none⟩) 2 cap41, .slice (some ⟨E41, 0, none⟩) 1 1] 50)) xq) w'' ∧ ph10 vg vc m39 ba38 bn38 bc38 B41 cap41 E41 w w 4 u w'') (wanted_none rfl _) (by simp [execOp, resolve, e48, e49, ev_c, ev_f]) ?_ (fun u w'' h => hK u w'' h.1 h.2)
          clear hK
          intro K' hK'
          go_wp2_with (fail)
          exact hK' _ _ ⟨Gw.h, _, rfl, sl_fn2 (Rp.keep (Agr.of_grow Gw.h) hf48) (Rp.keep (Agr.of_grow Gw.h) hBR) (heap_newE (by simp only [size_ext, alloc_size])) (by rfl)⟩
        · obtain ⟨s50, z50, hs50⟩ := (hΦ 4 (List.mem_of_elem_eq_true (by kernel_rfl)))
          have e50 := (hin 4 50 (by omega) (by kernel_rfl)).trans z50
          refine ⟨_, rfl, ?_⟩
          refine wp_tiny (Op.build 43 #[(0, .const (.slice (some ⟨s50, 0, none⟩) 2 2))]) (R := fun u w'' => Grow (ext ((ext ((ext (ext ((ext (ext (w.alloc (.cells #[.slice (some ⟨vg, 0, none⟩) 9 vc] 43)) x) x1).alloc (.cells #[.int .i64 0, .bool false, .slice (some ⟨m39, 0, none⟩) 17 17, .slice ba38 bn38 bc38] 50)) x2) x4).alloc (.cells ((List.take 2 C41.toList ++ .int .u8 3 :: .int .u8 1 :: List.drop 4 C41.toList).toArray) 23)) x5).alloc (.cells #[.int .i64 1, .bool false, .slice (some ⟨B41, 0, none⟩) 2 cap41, .slice (some ⟨E41, 0, none⟩) 1 1] 50)) xq) w'' ∧ ph10 vg vc m39 ba38 bn38 bc38 B41 cap41 E41 w w 5 u w'') (wanted_none rfl _) (by simp [execOp, resolve, e50, ev_c, ev_f]) ?_ (fun u w'' h => hK u w'' h.1 h.2)
          clear hK
          intro K' hK'
          go_wp2_with (fail)
          exact hK' _ _ ⟨Gw.h, _, rfl, hs50.mono Gw.h⟩
        · refine ⟨_, rfl, ?_⟩
          refine wp_tiny (Op.call { callee := Callee.value (Operand.func 23), args := #[.const (.int .i64 1), .const (.int .i64 0)], argTypes := #[3, 3] }) (R := fun u w'' => Grow (ext ((ext ((ext (ext ((ext (ext (w.alloc (.cells #[.slice (some ⟨vg, 0, none⟩) 9 vc] 43)) x) x1).alloc (.cells #[.int .i64 0, .bool false, .slice (some ⟨m39, 0, none⟩) 17 17, .slice ba38 bn38 bc38] 50)) x2) x4).alloc (.cells ((List.take 2 C41.toList ++ .int .u8 3 :: .int .u8 1 :: List.drop 4 C41.toList).toArray) 23)) x5).alloc (.cells #[.int .i64 1, .bool false, .slice (some ⟨B41, 0, none⟩) 2 cap41, .slice (some ⟨E41, 0, none⟩) 1 1] 50)) xq) w'' ∧ ph10 vg vc m39 ba38 bn38 bc38 B41 cap41 E41 w w 6 u w'') (wanted_none rfl _) (by simp [execOp, resolve, ev_c, ev_f]) ?_ (fun u w'' h => hK u w'' h.1 h.2)
          clear hK
          intro K' hK'
          go_wp2_with ((go_at_call 23; (with_reducible refine (c10_c _).mono ?_); rintro e w1 ⟨v1, rfl, hf, hb⟩; obtain ⟨x1, rfl⟩ := ext_of_grow hb; clear hb))
          exact hK' _ _ ⟨Gw.h, FnAt.v hf⟩
        · obtain ⟨la52, ln52, lc52, ba52, bn52, bc52, z52, hf52⟩ := (hΦ 6 (List.mem_of_elem_eq_true (by kernel_rfl)))
          have e52 := (hin 6 52 (by omega) (by kernel_rfl)).trans z52
          refine ⟨_, rfl, ?_⟩
          refine wp_tiny (Op.buildSlice 41 1 #[(0, .const (.agg #[.int .i64 0, .bool false, .slice la52 ln52 lc52, .slice ba52 bn52 bc52]))]) (R := fun u w'' => Grow (ext ((ext ((ext (ext ((ext (ext (w.alloc (.cells #[.slice (some ⟨vg, 0, none⟩) 9 vc] 43)) x) x1).alloc (.cells #[.int .i64 0, .bool false, .slice (some ⟨m39, 0, none⟩) 17 17, .slice ba38 bn38 bc38] 50)) x2) x4).alloc (.cells ((List.take 2 C41.toList ++ .int .u8 3 :: .int .u8 1 :: List.drop 4 C41.toList).toArray) 23)) x5).alloc (.cells #[.int .i64 1, .bool false, .slice (some ⟨B41, 0, none⟩) 2 cap41, .slice (some ⟨E41, 0, none⟩) 1 1] 50)) xq) w'' ∧ ph10 vg vc m39 ba38 bn38 bc38 B41 cap41 E41 w w 7 u w'') (wanted_none rfl _) (by simp [execOp, resolve, e52, ev_c, ev_f]) ?_ (fun u w'' h => hK u w'' h.1 h.2)
          clear hK
          intro K' hK'
          go_wp2_with (fail)
          exact hK' _ _ ⟨Gw.h, _, rfl, sl_fn1 (Rp.keep (Agr.of_grow Gw.h) hf52) (heap_newE (by simp only [size_ext, alloc_size])) (by rfl)⟩
        · obtain ⟨s53, z53, hs53⟩ := (hΦ 7 (List.mem_of_elem_eq_true (by kernel_rfl)))
          have e53 := (hin 7 53 (by omega) (by kernel_rfl)).trans z53
          refine ⟨_, rfl, ?_⟩
          refine wp_tiny (Op.build 43 #[(0, .const (.slice (some ⟨s53, 0, none⟩) 1 1))]) (R := fun u w'' => Grow (ext ((ext ((ext (ext ((ext (ext (w.alloc (.cells #[.slice (some ⟨vg, 0, none⟩) 9 vc] 43)) x) x1).alloc (.cells #[.int .i64 0, .bool false, .slice (some ⟨m39, 0, none⟩) 17 17, .slice ba38 bn38 bc38] 50)) x2) x4).alloc (.cells ((List.take 2 C41.toList ++ .int .u8 3 :: .int .u8 1 :: List.drop 4 C41.toList).toArray) 23)) x5).alloc (.cells #[.int .i64 1, .bool false, .slice (some ⟨B41, 0, none⟩) 2 cap41, .slice (some ⟨E41, 0, none⟩) 1 1] 50)) xq) w'' ∧ ph10 vg vc m39 ba38 bn38 bc38 B41 cap41 E41 w w 8 u w'') (wanted_none rfl _) (by simp [execOp, resolve, e53, ev_c, ev_f]) ?_ (fun u w'' h => hK u w'' h.1 h.2)
          clear hK
          intro K' hK'
          go_wp2_with (fail)
          exact hK' _ _ ⟨Gw.h, _, rfl, hs53.mono Gw.h⟩
        · refine ⟨_, rfl, ?_⟩
          refine wp_tiny (Op.call { callee := Callee.value (Operand.func 23), args := #[.const (.int .i64 1), .const (.int .i64 1)], argTypes := #[3, 3] }) (R := fun u w'' => Grow (ext ((ext ((ext (ext ((ext (ext (w.alloc (.cells #[.slice (some ⟨vg, 0, none⟩) 9 vc] 43)) x) x1).alloc (.cells #[.int .i64 0, .bool false, .slice (some ⟨m39, 0, none⟩) 17 17, .slice ba38 bn38 bc38] 50)) x2) x4).alloc (.cells ((List.take 2 C41.toList ++ .int .u8 3 :: .int .u8 1 :: List.drop 4 C41.toList).toArray) 23)) x5).alloc (.cells #[.int .i64 1, .bool false, .slice (some ⟨B41, 0, none⟩) 2 cap41, .slice (some ⟨E41, 0, none⟩) 1 1] 50)) xq) w'' ∧ ph10 vg vc m39 ba38 bn38 bc38 B41 cap41 E41 w w 9 u w'') (wanted_none rfl _) (by simp [execOp, resolve, ev_c, ev_f]) ?_ (fun u w'' h => hK u w'' h.1 h.2)
          clear hK
          intro K' hK'
          go_wp2_with ((go_at_call 23; (with_reducible refine (c11_c _).mono ?_); rintro e w1 ⟨v1, rfl, hf, hb⟩; obtain ⟨x1, rfl⟩ := ext_of_grow hb; clear hb))
          exact hK' _ _ ⟨Gw.h, FnAt.v hf⟩
        · refine ⟨_, rfl, ?_⟩
          refine wp_tiny (Op.call { callee := Callee.value (Operand.func 22), args := #[.const (.int .i64 0)], argTypes := #[3] }) (R := fun u w'' => Grow (ext ((ext ((ext (ext ((ext (ext (w.alloc (.cells #[.slice (some ⟨vg, 0, none⟩) 9 vc] 43)) x) x1).alloc (.cells #[.int .i64 0, .bool false, .slice (some ⟨m39, 0, none⟩) 17 17, .slice ba38 bn38 bc38] 50)) x2) x4).alloc (.cells ((List.take 2 C41.toList ++ .int .u8 3 :: .int .u8 1 :: List.drop 4 C41.toList).toArray) 23)) x5).alloc (.cells #[.int .i64 1, .bool false, .slice (some ⟨B41, 0, none⟩) 2 cap41, .slice (some ⟨E41, 0, none⟩) 1 1] 50)) xq) w'' ∧ ph10 vg vc m39 ba38 bn38 bc38 B41 cap41 E41 w w 10 u w'') (wanted_none rfl _) (by simp [execOp, resolve, ev_c, ev_f]) ?_ (fun u w'' h => hK u w'' h.1 h.2)
          clear hK
          intro K' hK'
          go_wp2_with ((go_at_call 22; (with_reducible refine (leaf0_c _).mono ?_); rintro e w1 ⟨v1, rfl, hf, hb⟩; obtain ⟨x1, rfl⟩ := ext_of_grow hb; clear hb))
          exact hK' _ _ ⟨Gw.h, FnAt.v hf⟩
        · obtain ⟨la55, ln55, lc55, ba55, bn55, bc55, z55, hf55⟩ := (hΦ 9 (List.mem_of_elem_eq_true (by kernel_rfl)))
          have e55 := (hin 9 55 (by omega) (by kernel_rfl)).trans z55
          obtain ⟨la56, ln56, lc56, ba56, bn56, bc56, z56, hf56⟩ := (hΦ 10 (List.mem_of_elem_eq_true (by kernel_rfl)))
          have e56 := (hin 10 56 (by omega) (by kernel_rfl)).trans z56
          refine ⟨_, rfl, ?_⟩
          refine wp_tiny (Op.buildSlice 41 2 #[(0, .const (.agg #[.int .i64 0, .bool false, .slice la55 ln55 lc55, .slice ba55 bn55 bc55])), (1, .const (.agg #[.int .i64 0, .bool false, .slice la56 ln56 lc56, .slice ba56 bn56 bc56]))]) (R := fun u w'' => Grow (ext ((ext ((ext (ext ((ext (ext (w.alloc (.cells #[.slice (some ⟨vg, 0, none⟩) 9 vc] 43)) x) x1).alloc (.cells #[.int .i64 0, .bool false, .slice (some ⟨m39, 0, none⟩) 17 17, .slice ba38 bn38 bc38] 50)) x2) x4).alloc (.cells ((List.take 2 C41.toList ++ .int .u8 3 :: .int .u8 1 :: List.drop 4 C41.toList).toArray) 23)) x5).alloc (.cells #[.int .i64 1, .bool false, .slice (some ⟨B41, 0, none⟩) 2 cap41, .slice (some ⟨E41, 0, none⟩) 1 1] 50)) xq) w'' ∧ ph10 vg vc m39 ba38 bn38 bc38 B41 cap41 E41 w w 11 u w'') (wanted_none rfl _) (by simp [execOp, resolve, e55, e56, ev_c, ev_f]) ?_ (fun u w'' h => hK u w'' h.1 h.2)
          clear hK
          intro K' hK'
          go_wp2_with (fail)
          exact hK' _ _ ⟨Gw.h, _, rfl, sl_fn2 (Rp.keep (Agr.of_grow Gw.h) hf55) (Rp.keep (Agr.of_grow Gw.h) hf56) (heap_newE (by simp only [size_ext, alloc_size])) (by rfl)⟩
        · obtain ⟨s57, z57, hs57⟩ := (hΦ 11 (List.mem_of_elem_eq_true (by kernel_rfl)))
          have e57 := (hin 11 57 (by omega) (by kernel_rfl)).trans z57
          refine ⟨_, rfl, ?_⟩
          refine wp_tiny (Op.build 43 #[(0, .const (.slice (some ⟨s57, 0, none⟩) 2 2))]) (R := fun u w'' => Grow (ext ((ext ((ext (ext ((ext (ext (w.alloc (.cells #[.slice (some ⟨vg, 0, none⟩) 9 vc] 43)) x) x1).alloc (.cells #[.int .i64 0, .bool false, .slice (some ⟨m39, 0, none⟩) 17 17, .slice ba38 bn38 bc38] 50)) x2) x4).alloc (.cells ((List.take 2 C41.toList ++ .int .u8 3 :: .int .u8 1 :: List.drop 4 C41.toList).toArray) 23)) x5).alloc (.cells #[.int .i64 1, .bool false, .slice (some ⟨B41, 0, none⟩) 2 cap41, .slice (some ⟨E41, 0, none⟩) 1 1] 50)) xq) w'' ∧ ph10 vg vc m39 ba38 bn38 bc38 B41 cap41 E41 w w 12 u w'') (wanted_none rfl _) (by simp [execOp, resolve, e57, ev_c, ev_f]) ?_ (fun u w'' h => hK u w'' h.1 h.2)
          clear hK
          intro K' hK'
          go_wp2_with (fail)
          exact hK' _ _ ⟨Gw.h, _, rfl, hs57.mono Gw.h⟩
        · refine ⟨_, rfl, ?_⟩
          refine wp_tiny (Op.call { callee := Callee.value (Operand.func 23), args := #[.const (.int .i64 1), .const (.int .i64 1)], argTypes := #[3, 3] }) (R := fun u w'' => Grow (ext ((ext ((ext (ext ((ext (ext (w.alloc (.cells #[.slice (some ⟨vg, 0, none⟩) 9 vc] 43)) x) x1).alloc (.cells #[.int .i64 0, .bool false, .slice (some ⟨m39, 0, none⟩) 17 17, .slice ba38 bn38 bc38] 50)) x2) x4).alloc (.cells ((List.take 2 C41.toList ++ .int .u8 3 :: .int .u8 1 :: List.drop 4 C41.toList).toArray) 23)) x5).alloc (.cells #[.int .i64 1, .bool false, .slice (some ⟨B41, 0, none⟩) 2 cap41, .slice (some ⟨E41, 0, none⟩) 1 1] 50)) xq) w'' ∧ ph10 vg vc m39 ba38 bn38 bc38 B41 cap41 E41 w w 13 u w'') (wanted_none rfl _) (by simp [execOp, resolve, ev_c, ev_f]) ?_ (fun u w'' h => hK u w'' h.1 h.2)
          clear hK
          intro K' hK'
          go_wp2_with ((go_at_call 23; (with_reducible refine (c11_c _).mono ?_); rintro e w1 ⟨v1, rfl, hf, hb⟩; obtain ⟨x1, rfl⟩ := ext_of_grow hb; clear hb))
          exact hK' _ _ ⟨Gw.h, FnAt.v hf⟩
        · refine ⟨_, rfl, ?_⟩
          refine wp_tiny (Op.call { callee := Callee.value (Operand.func 22), args := #[.const (.int .i64 2)], argTypes := #[3] }) (R := fun u w'' => Grow (ext ((ext ((ext (ext ((ext (ext (w.alloc (.cells #[.slice (some ⟨vg, 0, none⟩) 9 vc] 43)) x) x1).alloc (.cells #[.int .i64 0, .bool false, .slice (some ⟨m39, 0, none⟩) 17 17, .slice ba38 bn38 bc38] 50)) x2) x4).alloc (.cells ((List.take 2 C41.toList ++ .int .u8 3 :: .int .u8 1 :: List.drop 4 C41.toList).toArray) 23)) x5).alloc (.cells #[.int .i64 1, .bool false, .slice (some ⟨B41, 0, none⟩) 2 cap41, .slice (some ⟨E41, 0, none⟩) 1 1] 50)) xq) w'' ∧ ph10 vg vc m39 ba38 bn38 bc38 B41 cap41 E41 w w 14 u w'') (wanted_none rfl _) (by simp [execOp, resolve, ev_c, ev_f]) ?_ (fun u w'' h => hK u w'' h.1 h.2)
          clear hK
          intro K' hK'
          go_wp2_with ((go_at_call 22; (with_reducible refine (leaf2_c _).mono ?_); rintro e w1 ⟨v1, rfl, hf, hb⟩; obtain ⟨x1, rfl⟩ := ext_of_grow hb; clear hb))
          exact hK' _ _ ⟨Gw.h, FnAt.v hf⟩
        · obtain ⟨la59, ln59, lc59, ba59, bn59, bc59, z59, hf59⟩ := (hΦ 13 (List.mem_of_elem_eq_true (by kernel_rfl)))
          have e59 := (hin 13 59 (by omega) (by kernel_rfl)).trans z59
          obtain ⟨la60, ln60, lc60, ba60, bn60, bc60, z60, hf60⟩ := (hΦ 14 (List.mem_of_elem_eq_true (by kernel_rfl)))
          have e60 := (hin 14 60 (by omega) (by kernel_rfl)).trans z60
          refine ⟨_, rfl, ?_⟩
          refine wp_tiny (Op.buildSlice 41 2 #[(0, .const (.agg #[.int .i64 0, .bool false, .slice la59 ln59 lc59, .slice ba59 bn59 bc59])), (1, .const (.agg #[.int .i64 2, .bool false, .slice la60 ln60 lc60, .slice ba60 bn60 bc60]))]) (R := fun u w'' => Grow (ext ((ext ((ext (ext ((ext (ext (w.alloc (.cells #[.slice (some ⟨vg, 0, none⟩) 9 vc] 43)) x) x1).alloc (.cells #[.int .i64 0, .bool false, .slice (some ⟨m39, 0, none⟩) 17 17, .slice ba38 bn38 bc38] 50)) x2) x4).alloc (.cells ((List.take 2 C41.toList ++ .int .u8 3 :: .int .u8 1 :: List.drop 4 C41.toList).toArray) 23)) x5).alloc (.cells #[.int .i64 1, .bool false, .slice (some ⟨B41, 0, none⟩) 2 cap41, .slice (some ⟨E41, 0, none⟩) 1 1] 50)) xq) w'' ∧ ph10 vg vc m39 ba38 bn38 bc38 B41 cap41 E41 w w 15 u w'') (wanted_none rfl _) (by simp [execOp, resolve, e59, e60, ev_c, ev_f]) ?_ (fun u w'' h => hK u w'' h.1 h.2)
          clear hK
          intro K' hK'
          go_wp2_with (fail)
          exact hK' _ _ ⟨Gw.h, _, rfl, sl_fn2 (Rp.keep (Agr.of_grow Gw.h) hf59) (Rp.keep (Agr.of_grow Gw.h) hf60) (heap_newE (by simp only [size_ext, alloc_size])) (by rfl)⟩
        · obtain ⟨s61, z61, hs61⟩ := (hΦ 15 (List.mem_of_elem_eq_true (by kernel_rfl)))
          have e61 := (hin 15 61 (by omega) (by kernel_rfl)).trans z61
          refine ⟨_, rfl, ?_⟩
          refine wp_tiny (Op.build 43 #[(0, .const (.slice (some ⟨s61, 0, none⟩) 2 2))]) (R := fun u w'' => Grow (ext ((ext ((ext (ext ((ext (ext (w.alloc (.cells #[.slice (some ⟨vg, 0, none⟩) 9 vc] 43)) x) x1).alloc (.cells #[.int .i64 0, .bool false, .slice (some ⟨m39, 0, none⟩) 17 17, .slice ba38 bn38 bc38] 50)) x2) x4).alloc (.cells ((List.take 2 C41.toList ++ .int .u8 3 :: .int .u8 1 :: List.drop 4 C41.toList).toArray) 23)) x5).alloc (.cells #[.int .i64 1, .bool false, .slice (some ⟨B41, 0, none⟩) 2 cap41, .slice (some ⟨E41, 0, none⟩) 1 1] 50)) xq) w'' ∧ ph10 vg vc m39 ba38 bn38 bc38 B41 cap41 E41 w w 16 u w'') (wanted_none rfl _) (by simp [execOp, resolve, e61, ev_c, ev_f]) ?_ (fun u w'' h => hK u w'' h.1 h.2)
          clear hK
          intro K' hK'
          go_wp2_with (fail)
          exact hK' _ _ ⟨Gw.h, _, rfl, hs61.mono Gw.h⟩
        · have e4 := hout 4 _ (by kernel_rfl) (S.g 4 rfl)
          refine ⟨_, rfl, ?_⟩
          refine wp_tiny (Op.load 50 (.const (.pointer (some ⟨p4, 0, none⟩)))) (R := fun u w'' => Grow (ext ((ext ((ext (ext ((ext (ext (w.alloc (.cells #[.slice (some ⟨vg, 0, none⟩) 9 vc] 43)) x) x1).alloc (.cells #[.int .i64 0, .bool false, .slice (some ⟨m39, 0, none⟩) 17 17, .slice ba38 bn38 bc38] 50)) x2) x4).alloc (.cells ((List.take 2 C41.toList ++ .int .u8 3 :: .int .u8 1 :: List.drop 4 C41.toList).toArray) 23)) x5).alloc (.cells #[.int .i64 1, .bool false, .slice (some ⟨B41, 0, none⟩) 2 cap41, .slice (some ⟨E41, 0, none⟩) 1 1] 50)) xq) w'' ∧ ph10 vg vc m39 ba38 bn38 bc38 B41 cap41 E41 w w 17 u w'') (wanted_none rfl _) (by simp [execOp, resolve, e4, ev_c, ev_f]) ?_ (fun u w'' h => hK u w'' h.1 h.2)
          clear hK
          intro K' hK'
          go_wp2_with (fail)
          exact hK' _ _ ⟨Gw.h, rfl⟩
        · have e63 : A.eval (.tmp 63) = .agg #[.int .i64 1, .bool false, .slice (some ⟨B41, 0, none⟩) 2 cap41, .slice (some ⟨E41, 0, none⟩) 1 1] := (hin 17 63 (by omega) (by kernel_rfl)).trans (hΦ 17 (List.mem_of_elem_eq_true (by kernel_rfl)))
          refine ⟨_, rfl, ?_⟩
          refine wp_tiny (Op.buildSlice 41 1 #[(0, .const (.agg #[.int .i64 1, .bool false, .slice (some ⟨B41, 0, none⟩) 2 cap41, .slice (some ⟨E41, 0, none⟩) 1 1]))]) (R := fun u w'' => Grow (ext ((ext ((ext (ext ((ext (ext (w.alloc (.cells #[.slice (some ⟨vg, 0, none⟩) 9 vc] 43)) x) x1).alloc (.cells #[.int .i64 0, .bool false, .slice (some ⟨m39, 0, none⟩) 17 17, .slice ba38 bn38 bc38] 50)) x2) x4).alloc (.cells ((List.take 2 C41.toList ++ .int .u8 3 :: .int .u8 1 :: List.drop 4 C41.toList).toArray) 23)) x5).alloc (.cells #[.int .i64 1, .bool false, .slice (some ⟨B41, 0, none⟩) 2 cap41, .slice (some ⟨E41, 0, none⟩) 1 1] 50)) xq) w'' ∧ ph10 vg vc m39 ba38 bn38 bc38 B41 cap41 E41 w w 18 u w'') (wanted_none rfl _) (by simp [execOp, resolve, e63, ev_c, ev_f]) ?_ (fun u w'' h => hK u w'' h.1 h.2)
          clear hK
          intro K' hK'
          go_wp2_with (fail)
          exact hK' _ _ ⟨Gw.h, _, rfl, sl_fn1 (Rp.keep (Agr.of_grow Gw.h) hSH) (heap_newE (by simp only [size_ext, alloc_size])) (by rfl)⟩
        · obtain ⟨s64, z64, hs64⟩ := (hΦ 18 (List.mem_of_elem_eq_true (by kernel_rfl)))
          have e64 := (hin 18 64 (by omega) (by kernel_rfl)).trans z64
          refine ⟨_, rfl, ?_⟩
          refine wp_tiny (Op.build 43 #[(0, .const (.slice (some ⟨s64, 0, none⟩) 1 1))]) (R := fun u w'' => Grow (ext ((ext ((ext (ext ((ext (ext (w.alloc (.cells #[.slice (some ⟨vg, 0, none⟩) 9 vc] 43)) x) x1).alloc (.cells #[.int .i64 0, .bool false, .slice (some ⟨m39, 0, none⟩) 17 17, .slice ba38 bn38 bc38] 50)) x2) x4).alloc (.cells ((List.take 2 C41.toList ++ .int .u8 3 :: .int .u8 1 :: List.drop 4 C41.toList).toArray) 23)) x5).alloc (.cells #[.int .i64 1, .bool false, .slice (some ⟨B41, 0, none⟩) 2 cap41, .slice (some ⟨E41, 0, none⟩) 1 1] 50)) xq) w'' ∧ ph10 vg vc m39 ba38 bn38 bc38 B41 cap41 E41 w w 19 u w'') (wanted_none rfl _) (by simp [execOp, resolve, e64, ev_c, ev_f]) ?_ (fun u w'' h => hK u w'' h.1 h.2)
          clear hK
          intro K' hK'
          go_wp2_with (fail)
          exact hK' _ _ ⟨Gw.h, _, rfl, hs64.mono Gw.h⟩
        · refine ⟨_, rfl, ?_⟩
          refine wp_tiny (Op.call { callee := Callee.value (Operand.func 22), args := #[.const (.int .i64 0)], argTypes := #[3] }) (R := fun u w'' => Grow (ext ((ext ((ext (ext ((ext (ext (w.alloc (.cells #[.slice (some ⟨vg, 0, none⟩) 9 vc] 43)) x) x1).alloc (.cells #[.int .i64 0, .bool false, .slice (some ⟨m39, 0, none⟩) 17 17, .slice ba38 bn38 bc38] 50)) x2) x4).alloc (.cells ((List.take 2 C41.toList ++ .int .u8 3 :: .int .u8 1 :: List.drop 4 C41.toList).toArray) 23)) x5).alloc (.cells #[.int .i64 1, .bool false, .slice (some ⟨B41, 0, none⟩) 2 cap41, .slice (some ⟨E41, 0, none⟩) 1 1] 50)) xq) w'' ∧ ph10 vg vc m39 ba38 bn38 bc38 B41 cap41 E41 w w 20 u w'') (wanted_none rfl _) (by simp [execOp, resolve, ev_c, ev_f]) ?_ (fun u w'' h => hK u w'' h.1 h.2)
          clear hK
          intro K' hK'
          go_wp2_with ((go_at_call 22; (with_reducible refine (leaf0_c _).mono ?_); rintro e w1 ⟨v1, rfl, hf, hb⟩; obtain ⟨x1, rfl⟩ := ext_of_grow hb; clear hb))
          exact hK' _ _ ⟨Gw.h, FnAt.v hf⟩
        · refine ⟨_, rfl, ?_⟩
          refine wp_tiny (Op.call { callee := Callee.value (Operand.func 23), args := #[.const (.int .i64 7), .const (.int .i64 0)], argTypes := #[3, 3] }) (R := fun u w'' => Grow (ext ((ext ((ext (ext ((ext (ext (w.alloc (.cells #[.slice (some ⟨vg, 0, none⟩) 9 vc] 43)) x) x1).alloc (.cells #[.int .i64 0, .bool false, .slice (some ⟨m39, 0, none⟩) 17 17, .slice ba38 bn38 bc38] 50)) x2) x4).alloc (.cells ((List.take 2 C41.toList ++ .int .u8 3 :: .int .u8 1 :: List.drop 4 C41.toList).toArray) 23)) x5).alloc (.cells #[.int .i64 1, .bool false, .slice (some ⟨B41, 0, none⟩) 2 cap41, .slice (some ⟨E41, 0, none⟩) 1 1] 50)) xq) w'' ∧ ph10 vg vc m39 ba38 bn38 bc38 B41 cap41 E41 w w 21 u w'') (wanted_none rfl _) (by simp [execOp, resolve, ev_c, ev_f]) ?_ (fun u w'' h => hK u w'' h.1 h.2)
          clear hK
          intro K' hK'
          go_wp2_with ((go_at_call 23; (with_reducible refine (c70_c _).mono ?_); rintro e w1 ⟨v1, rfl, hf, hb⟩; obtain ⟨x1, rfl⟩ := ext_of_grow hb; clear hb))
          exact hK' _ _ ⟨Gw.h, FnAt.v hf⟩
        · obtain ⟨la66, ln66, lc66, ba66, bn66, bc66, z66, hf66⟩ := (hΦ 20 (List.mem_of_elem_eq_true (by kernel_rfl)))
          have e66 := (hin 20 66 (by omega) (by kernel_rfl)).trans z66
          obtain ⟨la67, ln67, lc67, ba67, bn67, bc67, z67, hf67⟩ := (hΦ 21 (List.mem_of_elem_eq_true (by kernel_rfl)))
          have e67 := (hin 21 67 (by omega) (by kernel_rfl)).trans z67
          refine ⟨_, rfl, ?_⟩
          refine wp_tiny (Op.buildSlice 41 2 #[(0, .const (.agg #[.int .i64 0, .bool false, .slice la66 ln66 lc66, .slice ba66 bn66 bc66])), (1, .const (.agg #[.int .i64 0, .bool false, .slice la67 ln67 lc67, .slice ba67 bn67 bc67]))]) (R := fun u w'' => Grow (ext ((ext ((ext (ext ((ext (ext (w.alloc (.cells #[.slice (some ⟨vg, 0, none⟩) 9 vc] 43)) x) x1).alloc (.cells #[.int .i64 0, .bool false, .slice (some ⟨m39, 0, none⟩) 17 17, .slice ba38 bn38 bc38] 50)) x2) x4).alloc (.cells ((List.take 2 C41.toList ++ .int .u8 3 :: .int .u8 1 :: List.drop 4 C41.toList).toArray) 23)) x5).alloc (.cells #[.int .i64 1, .bool false, .slice (some ⟨B41, 0, none⟩) 2 cap41, .slice (some ⟨E41, 0, none⟩) 1 1] 50)) xq) w'' ∧ ph10 vg vc m39 ba38 bn38 bc38 B41 cap41 E41 w w 22 u w'') (wanted_none rfl _) (by simp [execOp, resolve, e66, e67, ev_c, ev_f]) ?_ (fun u w'' h => hK u w'' h.1 h.2)
          clear hK
          intro K' hK'
          go_wp2_with (fail)
          exact hK' _ _ ⟨Gw.h, _, rfl, sl_fn2 (Rp.keep (Agr.of_grow Gw.h) hf66) (Rp.keep (Agr.of_grow Gw.h) hf67) (heap_newE (by simp only [size_ext, alloc_size])) (by rfl)⟩
        · obtain ⟨s68, z68, hs68⟩ := (hΦ 22 (List.mem_of_elem_eq_true (by kernel_rfl)))
          have e68 := (hin 22 68 (by omega) (by kernel_rfl)).trans z68
          refine ⟨_, rfl, ?_⟩
          refine wp_tiny (Op.build 43 #[(0, .const (.slice (some ⟨s68, 0, none⟩) 2 2))]) (R := fun u w'' => Grow (ext ((ext ((ext (ext ((ext (ext (w.alloc (.cells #[.slice (some ⟨vg, 0, none⟩) 9 vc] 43)) x) x1).alloc (.cells #[.int .i64 0, .bool false, .slice (some ⟨m39, 0, none⟩) 17 17, .slice ba38 bn38 bc38] 50)) x2) x4).alloc (.cells ((List.take 2 C41.toList ++ .int .u8 3 :: .int .u8 1 :: List.drop 4 C41.toList).toArray) 23)) x5).alloc (.cells #[.int .i64 1, .bool false, .slice (some ⟨B41, 0, none⟩) 2 cap41, .slice (some ⟨E41, 0, none⟩) 1 1] 50)) xq) w'' ∧ ph10 vg vc m39 ba38 bn38 bc38 B41 cap41 E41 w w 23 u w'') (wanted_none rfl _) (by simp [execOp, resolve, e68, ev_c, ev_f]) ?_ (fun u w'' h => hK u w'' h.1 h.2)
          clear hK
          intro K' hK'
          go_wp2_with (fail)
          exact hK' _ _ ⟨Gw.h, _, rfl, hs68.mono Gw.h⟩
      obtain ⟨xq10, rfl⟩ := ext_of_grow (Grow.trans (by exact Gw.h : Grow ((ext ((ext (ext ((ext (ext (w.alloc (.cells #[.slice (some ⟨vg, 0, none⟩) 9 vc] 43)) x) x1).alloc (.cells #[.int .i64 0, .bool false, .slice (some ⟨m39, 0, none⟩) 17 17, .slice ba38 bn38 bc38] 50)) x2) x4).alloc (.cells ((List.take 2 C41.toList ++ .int .u8 3 :: .int .u8 1 :: List.drop 4 C41.toList).toArray) 23)) x5).alloc (.cells #[.int .i64 1, .bool false, .slice (some ⟨B41, 0, none⟩) 2 cap41, .slice (some ⟨E41, 0, none⟩) 1 1] 50)) _) hg)
      clear hg
      obtain ⟨s51, z51, hs51⟩ := (hΦ 5 (by omega))
      have e51 := (hin 5 51 (by omega) (by kernel_rfl)).trans z51
      obtain ⟨s54, z54, hs54⟩ := (hΦ 8 (by omega))
      have e54 := (hin 8 54 (by omega) (by kernel_rfl)).trans z54
      obtain ⟨s58, z58, hs58⟩ := (hΦ 12 (by omega))
      have e58 := (hin 12 58 (by omega) (by kernel_rfl)).trans z58
      obtain ⟨s62, z62, hs62⟩ := (hΦ 16 (by omega))
      have e62 := (hin 16 62 (by omega) (by kernel_rfl)).trans z62
      obtain ⟨s65, z65, hs65⟩ := (hΦ 19 (by omega))
      have e65 := (hin 19 65 (by omega) (by kernel_rfl)).trans z65
      obtain ⟨s69, z69, hs69⟩ := (hΦ 23 (by omega))
      have e69 := (hin 23 69 (by omega) (by kernel_rfl)).trans z69
      replace S : St8 A 203 _ := ⟨hNA, hDA.trans S.defers, Lk.cons (hout 1 _ (by kernel_rfl) (S.g 1 rfl)) (Lk.cons (hout 4 _ (by kernel_rfl) (S.g 4 rfl)) (Lk.cons ((hin 0 46 (by omega) (by kernel_rfl)).trans (hΦ 0 (by omega))) (Lk.cons ((hin 1 47 (by omega) (by kernel_rfl)).trans (hΦ 1 (by omega))) (Lk.cons (e51) (Lk.cons (e54) (Lk.cons (e58) (Lk.cons (e62) (Lk.cons (e65) (Lk.cons (e69) (Lk.nil))))))))))⟩
      clear hΦ hin hout hNA hDA a
      rename Act => a
      simp only [List.drop_succ_cons, List.drop_zero]
      refine st_any S (Op.buildSlice 69 8 #[(0, .const (.agg #[.slice (some ⟨vg, 0, none⟩) 9 vc])), (1, .const (.agg #[.slice none 0 0])), (2, .const (.agg #[.slice (some ⟨s51, 0, none⟩) 2 2])), (3, .const (.agg #[.slice (some ⟨s54, 0, none⟩) 1 1])), (4, .const (.agg #[.slice (some ⟨s58, 0, none⟩) 2 2])), (5, .const (.agg #[.slice (some ⟨s62, 0, none⟩) 2 2])), (6, .const (.agg #[.slice (some ⟨s65, 0, none⟩) 1 1])), (7, .const (.agg #[.slice (some ⟨s69, 0, none⟩) 2 2]))]) (fun u w'' => ∃ b, u = .slice (some ⟨b, 0, none⟩) 8 8 ∧ Grow (ext ((ext ((ext (ext ((ext (ext (w.alloc (.cells #[.slice (some ⟨vg, 0, none⟩) 9 vc] 43)) x) x1).alloc (.cells #[.int .i64 0, .bool false, .slice (some ⟨m39, 0, none⟩) 17 17, .slice ba38 bn38 bc38] 50)) x2) x4).alloc (.cells ((List.take 2 C41.toList ++ .int .u8 3 :: .int .u8 1 :: List.drop 4 C41.toList).toArray) 23)) x5).alloc (.cells #[.int .i64 1, .bool false, .slice (some ⟨B41, 0, none⟩) 2 cap41, .slice (some ⟨E41, 0, none⟩) 1 1] 50)) xq10) w'' ∧ Sl (fun _ => True) w'' (.slice (some ⟨b, 0, none⟩) 8 8) badPs) rfl rfl (wanted_none rfl _) (by simp [execOp, resolve, S.g 46 rfl, S.g 47 rfl, S.g 51 rfl, S.g 54 rfl, S.g 58 rfl, S.g 62 rfl, S.g 65 rfl, S.g 69 rfl, ev_c, ev_f]) ?_ (fun u w'' a h S => ?_)
      · intro K' hK'
        go_wp2_with (fail)
        exact hK' _ _ ⟨_, rfl, Gw.h, sl_bads (own9.mono Gw.h) (Sl.nil _ _) (hs51.mono Gw.h) (hs54.mono Gw.h) (hs58.mono Gw.h) (hs62.mono Gw.h) (hs65.mono Gw.h) (hs69.mono Gw.h) (heap_newE (by simp only [size_ext, alloc_size])) (by rfl)⟩
      obtain ⟨bb, rfl, hg, hbads⟩ := h
      obtain ⟨x6, rfl⟩ := ext_of_grow hg
      clear hg
      clear hs51 z51 e51 hs54 z54 e54 hs58 z58 e58 hs62 z62 e62 hs65 z65 e65 hs69 z69 e69
      refine st_val S (Op.assign (.const (.slice (some ⟨bb, 0, none⟩) 8 8))) (.slice (some ⟨bb, 0, none⟩) 8 8) rfl rfl (wanted_none rfl _) (by simp [execOp, resolve, S.g 70 rfl, ev_c, ev_f]) ?_ (fun a S => ?_)
      · intro K' hK'
        go_wp2_with fail
        exact hK'
      replace S : St8 a 203 _ := ⟨S.size, S.defers, Lk.cons (S.g 1 rfl) (Lk.cons (S.g 4 rfl) (Lk.cons (S.g 5 rfl) (Lk.nil)))⟩
      go_upto_region 11 with fail
      refine wp_region_lit ?_
      refine st_any S (Op.buildSlice 70 8 #[(0, .const (.int .i64 4)), (1, .const (.int .i64 8)), (2, .const (.int .i64 4)), (3, .const (.int .i64 8)), (4, .const (.int .i64 8)), (5, .const (.int .i64 8)), (6, .const (.int .i64 8)), (7, .const (.int .i64 8))]) (fun u w'' => ∃ b, u = .slice (some ⟨b, 0, none⟩) 8 8 ∧ Grow (ext (ext ((ext ((ext (ext ((ext (ext (w.alloc (.cells #[.slice (some ⟨vg, 0, none⟩) 9 vc] 43)) x) x1).alloc (.cells #[.int .i64 0, .bool false, .slice (some ⟨m39, 0, none⟩) 17 17, .slice ba38 bn38 bc38] 50)) x2) x4).alloc (.cells ((List.take 2 C41.toList ++ .int .u8 3 :: .int .u8 1 :: List.drop 4 C41.toList).toArray) 23)) x5).alloc (.cells #[.int .i64 1, .bool false, .slice (some ⟨B41, 0, none⟩) 2 cap41, .slice (some ⟨E41, 0, none⟩) 1 1] 50)) xq10) x6) w'' ∧ Sl (fun _ => True) w'' (.slice (some ⟨b, 0, none⟩) 8 8) wantEs) rfl rfl (wanted_none rfl _) (by simp [execOp, resolve, ev_c, ev_f]) ?_ (fun u w'' a h S => ?_)
      · intro K' hK'
        go_wp2_with (fail)
        exact hK' _ _ ⟨_, rfl, Gw.h, sl_wants (heap_newE (by simp only [size_ext, alloc_size])) (by rfl)⟩
      obtain ⟨wb, rfl, hg, hwants⟩ := h
      obtain ⟨x7, rfl⟩ := ext_of_grow hg
      clear hg
      refine st_val S (Op.assign (.const (.slice (some ⟨wb, 0, none⟩) 8 8))) (.slice (some ⟨wb, 0, none⟩) 8 8) rfl rfl (wanted_none rfl _) (by simp [execOp, resolve, S.g 71 rfl, ev_c, ev_f]) ?_ (fun a S => ?_)
      · intro K' hK'
        go_wp2_with fail
        exact hK'
      replace S : St8 a 203 _ := ⟨S.size, S.defers, Lk.cons (S.g 1 rfl) (Lk.cons (S.g 4 rfl) (Lk.cons (S.g 5 rfl) (Lk.cons (S.g 6 rfl) (Lk.nil))))⟩
      go_upto_region 12 with fail
      refine wp_region_lit ?_
      refine st_val S (Op.assign (.const (.int .i64 0))) (.int .i64 0) rfl rfl (wanted_none rfl _) (by simp [execOp, resolve, ev_c, ev_f]) ?_ (fun a S => ?_)
      · intro K' hK'
        go_wp2_with fail
        exact hK'
      obtain ⟨WX, hWX⟩ : ∃ W, W = ext (ext (ext ((ext ((ext (ext ((ext (ext (w.alloc (.cells #[.slice (some ⟨vg, 0, none⟩) 9 vc] 43)) x) x1).alloc (.cells #[.int .i64 0, .bool false, .slice (some ⟨m39, 0, none⟩) 17 17, .slice ba38 bn38 bc38] 50)) x2) x4).alloc (.cells ((List.take 2 C41.toList ++ .int .u8 3 :: .int .u8 1 :: List.drop 4 C41.toList).toArray) 23)) x5).alloc (.cells #[.int .i64 1, .bool false, .slice (some ⟨B41, 0, none⟩) 2 cap41, .slice (some ⟨E41, 0, none⟩) 1 1] 50)) xq10) x6) x7 := ⟨_, rfl⟩
      replace hbads : Sl (fun _ => True) (ext (ext (ext ((ext ((ext (ext ((ext (ext (w.alloc (.cells #[.slice (some ⟨vg, 0, none⟩) 9 vc] 43)) x) x1).alloc (.cells #[.int .i64 0, .bool false, .slice (some ⟨m39, 0, none⟩) 17 17, .slice ba38 bn38 bc38] 50)) x2) x4).alloc (.cells ((List.take 2 C41.toList ++ .int .u8 3 :: .int .u8 1 :: List.drop 4 C41.toList).toArray) 23)) x5).alloc (.cells #[.int .i64 1, .bool false, .slice (some ⟨B41, 0, none⟩) 2 cap41, .slice (some ⟨E41, 0, none⟩) 1 1] 50)) xq10) x6) x7) _ _ := hbads.mono Gw.h
      replace own9 : Sl (fun _ => True) (ext (ext (ext ((ext ((ext (ext ((ext (ext (w.alloc (.cells #[.slice (some ⟨vg, 0, none⟩) 9 vc] 43)) x) x1).alloc (.cells #[.int .i64 0, .bool false, .slice (some ⟨m39, 0, none⟩) 17 17, .slice ba38 bn38 bc38] 50)) x2) x4).alloc (.cells ((List.take 2 C41.toList ++ .int .u8 3 :: .int .u8 1 :: List.drop 4 C41.toList).toArray) 23)) x5).alloc (.cells #[.int .i64 1, .bool false, .slice (some ⟨B41, 0, none⟩) 2 cap41, .slice (some ⟨E41, 0, none⟩) 1 1] 50)) xq10) x6) x7) _ _ := own9.mono Gw.h
      replace hSH : Rp.R (fun _ => True) (ext (ext (ext ((ext ((ext (ext ((ext (ext (w.alloc (.cells #[.slice (some ⟨vg, 0, none⟩) 9 vc] 43)) x) x1).alloc (.cells #[.int .i64 0, .bool false, .slice (some ⟨m39, 0, none⟩) 17 17, .slice ba38 bn38 bc38] 50)) x2) x4).alloc (.cells ((List.take 2 C41.toList ++ .int .u8 3 :: .int .u8 1 :: List.drop 4 C41.toList).toArray) 23)) x5).alloc (.cells #[.int .i64 1, .bool false, .slice (some ⟨B41, 0, none⟩) 2 cap41, .slice (some ⟨E41, 0, none⟩) 1 1] 50)) xq10) x6) x7) _ _ := Rp.keep (Agr.of_grow Gw.h) hSH
      have hgW : Grow w (ext (ext (ext ((ext ((ext (ext ((ext (ext (w.alloc (.cells #[.slice (some ⟨vg, 0, none⟩) 9 vc] 43)) x) x1).alloc (.cells #[.int .i64 0, .bool false, .slice (some ⟨m39, 0, none⟩) 17 17, .slice ba38 bn38 bc38] 50)) x2) x4).alloc (.cells ((List.take 2 C41.toList ++ .int .u8 3 :: .int .u8 1 :: List.drop 4 C41.toList).toArray) 23)) x5).alloc (.cells #[.int .i64 1, .bool false, .slice (some ⟨B41, 0, none⟩) 2 cap41, .slice (some ⟨E41, 0, none⟩) 1 1] 50)) xq10) x6) x7) := Gw.h
      rw [← hWX] at hbads own9 hSH hwants hgW ⊢
      clear hBR
      replace hWX := Lib.hid hWX
      obtain ⟨f, hf, hfk⟩ := st_frame S
      have h1 := hfk 1 _ rfl
      have h4 := hfk 4 _ rfl
      have h5 := hfk 5 _ rfl
      have h6 := hfk 6 _ rfl
      have h7 := hfk 7 _ rfl
      clear hfk S
      subst hf
      rw [show (List.range 203).map f = [f 0, f 1, f 2, f 3, f 4, f 5, f 6, f 7, f 8, f 9, f 10, f 11, f 12, f 13, f 14, f 15, f 16, f 17, f 18, f 19, f 20, f 21, f 22, f 23, f 24, f 25, f 26, f 27, f 28, f 29, f 30, f 31, f 32, f 33, f 34, f 35, f 36, f 37, f 38, f 39, f 40, f 41, f 42, f 43, f 44, f 45, f 46, f 47, f 48, f 49, f 50, f 51, f 52, f 53, f 54, f 55, f 56, f 57, f 58, f 59, f 60, f 61, f 62, f 63, f 64, f 65, f 66, f 67, f 68, f 69, f 70, f 71, f 72, f 73, f 74, f 75, f 76, f 77, f 78, f 79, f 80, f 81, f 82, f 83, f 84, f 85, f 86, f 87, f 88, f 89, f 90, f 91, f 92, f 93, f 94, f 95, f 96, f 97, f 98, f 99, f 100, f 101, f 102, f 103, f 104, f 105, f 106, f 107, f 108, f 109, f 110, f 111, f 112, f 113, f 114, f 115, f 116, f 117, f 118, f 119, f 120, f 121, f 122, f 123, f 124, f 125, f 126, f 127, f 128, f 129, f 130, f 131, f 132, f 133, f 134, f 135, f 136, f 137, f 138, f 139, f 140, f 141, f 142, f 143, f 144, f 145, f 146, f 147, f 148, f 149, f 150, f 151, f 152, f 153, f 154, f 155, f 156, f 157, f 158, f 159, f 160, f 161, f 162, f 163, f 164, f 165, f 166, f 167, f 168, f 169, f 170, f 171, f 172, f 173, f 174, f 175, f 176, f 177, f 178, f 179, f 180, f 181, f 182, f 183, f 184, f 185, f 186, f 187, f 188, f 189, f 190, f 191, f 192, f 193, f 194, f 195, f 196, f 197, f 198, f 199, f 200, f 201, f 202] by kernel_rfl]
      rw [h1, h4, h5, h6, h7]
      clear h1 h4 h5 h6 h7
      go_wp2_with fail
      go_loopw [7] (fun i wr => ∃ (q : Nat) (y : Ext), q ≤ 8 ∧ i = .int .i64 q ∧ wr = ext WX y) (fun i _ => 8 - (intOf i).toNat)
      case atStart =>
        obtain ⟨y, hy⟩ := ext_of_grow (Grow.refl WX)
        exact ⟨0, y, by omega, rfl, hy⟩
      case round =>
        obtain ⟨q, y, hq, rfl, rfl⟩ := hrel
        by_cases hlt : q < 8
        · have hlt8 : (q : Int) < 8 := by omega
          obtain ⟨pa, pn, pc, p, hbl, hcb, Hp, hps⟩ := bad_get hbads hlt
          obtain ⟨e, hwl, hcw, He⟩ := want_get hwants hlt
          have Hpe := Lib.hid (bad_at Hp.out He.out)
          have hrb := row_one hcb
          have hrw := row_one hcw
          clear hbads hwants own9 hSH Hp He hWX
          haveI : LtW bb WX := ⟨hbl⟩
          haveI : LtW wb WX := ⟨hwl⟩
          clear hbl hwl
          go_wp2_with (first | (go_at_call 24; ((with_reducible refine (bad_inputs _ _ (hps.mono Gw.h) Hpe.out).mono ?_); rintro e w1 ⟨rfl, hb1⟩; obtain ⟨x1, rfl⟩ := ext_of_grow hb1; clear hb1)) | (go_at_call 25; ((with_reducible refine (bad_size _ _ (hps.mono Gw.h) Hpe.out).mono ?_); rintro e w2 ⟨rfl, hb2⟩; obtain ⟨x2, rfl⟩ := ext_of_grow hb2; clear hb2)) | (go_at_call 20; ((with_reducible refine (bad_reached _ _ (hps.mono Gw.h) Hpe.out).mono ?_); rintro e w3 ⟨rfl, hb3⟩; obtain ⟨x3, rfl⟩ := ext_of_grow hb3; clear hb3)) | (go_at_call 17; ((with_reducible refine (bad_rec _ _ (hps.mono Gw.h) Hpe.out).mono ?_); rintro e w4 ⟨rfl, hb4⟩; obtain ⟨x4, rfl⟩ := ext_of_grow hb4; clear hb4)) | (go_at_call 26; ((with_reducible refine (is_check _ _ (hps.mono Gw.h) Hpe.out.1).mono ?_); rintro e w5 ⟨rfl, hb5⟩; obtain ⟨x5, rfl⟩ := ext_of_grow hb5; clear hb5)))
          go_roundw
          case rel => exact ⟨q + 1, _, by omega, by go_num, (ext_of_grow Gw.h).choose_spec⟩
          case measure => simp [intOf]; omega
        · obtain rfl : q = 8 := by omega
          clear hlt hq
          have h8 := sl_take8 own9
          go_upto_region 22 with fail
          refine hide_wp8 (fun a ha => ?_)
          have S : St8 a 203 _ := ⟨by rw [ha.out]; rfl, by rw [ha.out], Lk.cons (k := 1) (v := .pointer (some ⟨w.heap.size, 0, none⟩)) (by rw [ha.out]; rfl) (Lk.cons (k := 4) (v := .pointer (some ⟨p4, 0, none⟩)) (by rw [ha.out]; rfl) (Lk.nil))⟩
          clear ha
          rw [hWX.out] at h8 hSH ⊢
          clear hbads hwants own9 hWX hgW
          go_upto_region 22 with fail
          refine wp_region_lit ?_
          refine st_val S (Op.fieldAddr 43 (.const (.pointer (some ⟨w.heap.size, 0, none⟩))) 0) (.pointer (some ⟨w.heap.size, 0, none⟩)) rfl rfl (wanted_none rfl _) (by simp [execOp, resolve, S.g 1 rfl, ev_c, ev_f]) ?_ (fun a S => ?_)
          · intro K' hK'
            go_wp2_with fail
            exact hK'
          refine st_val S (Op.load 41 (.const (.pointer (some ⟨w.heap.size, 0, none⟩)))) (.slice (some ⟨vg, 0, none⟩) 9 vc) rfl rfl (wanted_none rfl _) (by simp [execOp, resolve, S.g 141 rfl, ev_c, ev_f]) ?_ (fun a S => ?_)
          · intro K' hK'
            go_wp2_with fail
            exact hK'
          refine st_val S (Op.slice 41 (.const (.slice (some ⟨vg, 0, none⟩) 9 vc)) none (some (.const (.int .i64 8))) none) (.slice (some ⟨vg, 0, none⟩) 8 vc) rfl rfl (wanted_none rfl _) (by simp [execOp, resolve, S.g 142 rfl, ev_c, ev_f]) ?_ (fun a S => ?_)
          · intro K' hK'
            go_wp2_with fail
            exact hK'
          refine st_val S (Op.build 43 #[(0, .const (.slice (some ⟨vg, 0, none⟩) 8 vc))]) (.agg #[.slice (some ⟨vg, 0, none⟩) 8 vc]) rfl rfl (wanted_none rfl _) (by simp [execOp, resolve, S.g 143 rfl, ev_c, ev_f]) ?_ (fun a S => ?_)
          · intro K' hK'
            go_wp2_with fail
            exact hK'
          refine st_any S (Op.alloc 43) (fun u w'' => ∃ b, u = .pointer (some ⟨b, 0, none⟩) ∧ b = (ext (ext (ext (ext ((ext ((ext (ext ((ext (ext (w.alloc (.cells #[.slice (some ⟨vg, 0, none⟩) 9 vc] 43)) x) x1).alloc (.cells #[.int .i64 0, .bool false, .slice (some ⟨m39, 0, none⟩) 17 17, .slice ba38 bn38 bc38] 50)) x2) x4).alloc (.cells ((List.take 2 C41.toList ++ .int .u8 3 :: .int .u8 1 :: List.drop 4 C41.toList).toArray) 23)) x5).alloc (.cells #[.int .i64 1, .bool false, .slice (some ⟨B41, 0, none⟩) 2 cap41, .slice (some ⟨E41, 0, none⟩) 1 1] 50)) xq10) x6) x7) y).heap.size ∧ w'' = (ext (ext (ext (ext ((ext ((ext (ext ((ext (ext (w.alloc (.cells #[.slice (some ⟨vg, 0, none⟩) 9 vc] 43)) x) x1).alloc (.cells #[.int .i64 0, .bool false, .slice (some ⟨m39, 0, none⟩) 17 17, .slice ba38 bn38 bc38] 50)) x2) x4).alloc (.cells ((List.take 2 C41.toList ++ .int .u8 3 :: .int .u8 1 :: List.drop 4 C41.toList).toArray) 23)) x5).alloc (.cells #[.int .i64 1, .bool false, .slice (some ⟨B41, 0, none⟩) 2 cap41, .slice (some ⟨E41, 0, none⟩) 1 1] 50)) xq10) x6) x7) y).alloc (.cells #[.slice none 0 0] 43)) rfl rfl (wanted_none rfl _) (by simp [execOp, resolve, ev_c, ev_f]) ?_ (fun u w'' a h S => ?_)
          · intro K' hK'
            go_wp2_with (fail)
            exact hK' _ _ ⟨_, rfl, by first | rfl | (simp only [size_ext, alloc_size]; done) | (simp only [size_ext, alloc_size]; omega), rfl⟩
          obtain ⟨p17, rfl, hp17, rfl⟩ := h
          haveI ep17 : EqW p17 (ext (ext (ext (ext ((ext ((ext (ext ((ext (ext (w.alloc (.cells #[.slice (some ⟨vg, 0, none⟩) 9 vc] 43)) x) x1).alloc (.cells #[.int .i64 0, .bool false, .slice (some ⟨m39, 0, none⟩) 17 17, .slice ba38 bn38 bc38] 50)) x2) x4).alloc (.cells ((List.take 2 C41.toList ++ .int .u8 3 :: .int .u8 1 :: List.drop 4 C41.toList).toArray) 23)) x5).alloc (.cells #[.int .i64 1, .bool false, .slice (some ⟨B41, 0, none⟩) 2 cap41, .slice (some ⟨E41, 0, none⟩) 1 1] 50)) xq10) x6) x7) y) := ⟨hp17⟩
          clear hp17
          refine st_put S (Op.store 43 (.const (.pointer (some ⟨p17, 0, none⟩))) (.const (.agg #[.slice (some ⟨vg, 0, none⟩) 8 vc]))) ((ext (ext (ext (ext ((ext ((ext (ext ((ext (ext (w.alloc (.cells #[.slice (some ⟨vg, 0, none⟩) 9 vc] 43)) x) x1).alloc (.cells #[.int .i64 0, .bool false, .slice (some ⟨m39, 0, none⟩) 17 17, .slice ba38 bn38 bc38] 50)) x2) x4).alloc (.cells ((List.take 2 C41.toList ++ .int .u8 3 :: .int .u8 1 :: List.drop 4 C41.toList).toArray) 23)) x5).alloc (.cells #[.int .i64 1, .bool false, .slice (some ⟨B41, 0, none⟩) 2 cap41, .slice (some ⟨E41, 0, none⟩) 1 1] 50)) xq10) x6) x7) y).alloc (.cells #[.slice (some ⟨vg, 0, none⟩) 8 vc] 43)) rfl (wanted_none rfl _) (by simp [execOp, resolve, S.g 17 rfl, S.g 144 rfl, ev_c, ev_f]) ?_ (fun a S => ?_)
          · intro K' hK'
            go_wp2_with fail
            exact hK' _
          replace S : St8 a 203 _ := ⟨S.size, S.defers, Lk.cons (S.g 4 rfl) (Lk.cons (S.g 17 rfl) (Lk.nil))⟩
          replace hSH : Rp.R (fun _ => True) ((ext (ext (ext (ext ((ext ((ext (ext ((ext (ext (w.alloc (.cells #[.slice (some ⟨vg, 0, none⟩) 9 vc] 43)) x) x1).alloc (.cells #[.int .i64 0, .bool false, .slice (some ⟨m39, 0, none⟩) 17 17, .slice ba38 bn38 bc38] 50)) x2) x4).alloc (.cells ((List.take 2 C41.toList ++ .int .u8 3 :: .int .u8 1 :: List.drop 4 C41.toList).toArray) 23)) x5).alloc (.cells #[.int .i64 1, .bool false, .slice (some ⟨B41, 0, none⟩) 2 cap41, .slice (some ⟨E41, 0, none⟩) 1 1] 50)) xq10) x6) x7) y).alloc (.cells #[.slice (some ⟨vg, 0, none⟩) 8 vc] 43)) _ _ := Rp.keep (Agr.of_grow Gw.h) hSH
          replace h8 : Sl (fun _ => True) ((ext (ext (ext (ext ((ext ((ext (ext ((ext (ext (w.alloc (.cells #[.slice (some ⟨vg, 0, none⟩) 9 vc] 43)) x) x1).alloc (.cells #[.int .i64 0, .bool false, .slice (some ⟨m39, 0, none⟩) 17 17, .slice ba38 bn38 bc38] 50)) x2) x4).alloc (.cells ((List.take 2 C41.toList ++ .int .u8 3 :: .int .u8 1 :: List.drop 4 C41.toList).toArray) 23)) x5).alloc (.cells #[.int .i64 1, .bool false, .slice (some ⟨B41, 0, none⟩) 2 cap41, .slice (some ⟨E41, 0, none⟩) 1 1] 50)) xq10) x6) x7) y).alloc (.cells #[.slice (some ⟨vg, 0, none⟩) 8 vc] 43)) _ _ := h8.mono Gw.h
          go_upto_region 23 with fail
          refine region_inv' 6 203 (by kernel_rfl) (by kernel_rfl) S.size (by kernel_rfl) (ph23 B41 cap41 E41 w ((ext (ext (ext (ext ((ext ((ext (ext ((ext (ext (w.alloc (.cells #[.slice (some ⟨vg, 0, none⟩) 9 vc] 43)) x) x1).alloc (.cells #[.int .i64 0, .bool false, .slice (some ⟨m39, 0, none⟩) 17 17, .slice ba38 bn38 bc38] 50)) x2) x4).alloc (.cells ((List.take 2 C41.toList ++ .int .u8 3 :: .int .u8 1 :: List.drop 4 C41.toList).toArray) 23)) x5).alloc (.cells #[.int .i64 1, .bool false, .slice (some ⟨B41, 0, none⟩) 2 cap41, .slice (some ⟨E41, 0, none⟩) 1 1] 50)) xq10) x6) x7) y).alloc (.cells #[.slice (some ⟨vg, 0, none⟩) 8 vc] 43))) (ph23_stay B41 cap41 E41 w _) (fun i hi vs w' A hg hΦ hin hout hsz K hK => ?_) (fun vs w' A hDA hg hΦ hin hout hNA => ?_)
          · obtain ⟨xq, rfl⟩ := ext_of_grow (Grow.trans (by exact Gw.h : Grow ((ext (ext (ext (ext ((ext ((ext (ext ((ext (ext (w.alloc (.cells #[.slice (some ⟨vg, 0, none⟩) 9 vc] 43)) x) x1).alloc (.cells #[.int .i64 0, .bool false, .slice (some ⟨m39, 0, none⟩) 17 17, .slice ba38 bn38 bc38] 50)) x2) x4).alloc (.cells ((List.take 2 C41.toList ++ .int .u8 3 :: .int .u8 1 :: List.drop 4 C41.toList).toArray) 23)) x5).alloc (.cells #[.int .i64 1, .bool false, .slice (some ⟨B41, 0, none⟩) 2 cap41, .slice (some ⟨E41, 0, none⟩) 1 1] 50)) xq10) x6) x7) y).alloc (.cells #[.slice (some ⟨vg, 0, none⟩) 8 vc] 43)) _) hg)
            clear hg
            obtain rfl | rfl | rfl | rfl | rfl | rfl : i = 0 ∨ i = 1 ∨ i = 2 ∨ i = 3 ∨ i = 4 ∨ i = 5 := by omega
            · refine ⟨_, rfl, ?_⟩
              refine wp_tiny (Op.call { callee := Callee.value (Operand.func 22), args := #[.const (.int .i64 2)], argTypes := #[3] }) (R := fun u w'' => Grow (ext ((ext (ext (ext (ext ((ext ((ext (ext ((ext (ext (w.alloc (.cells #[.slice (some ⟨vg, 0, none⟩) 9 vc] 43)) x) x1).alloc (.cells #[.int .i64 0, .bool false, .slice (some ⟨m39, 0, none⟩) 17 17, .slice ba38 bn38 bc38] 50)) x2) x4).alloc (.cells ((List.take 2 C41.toList ++ .int .u8 3 :: .int .u8 1 :: List.drop 4 C41.toList).toArray) 23)) x5).alloc (.cells #[.int .i64 1, .bool false, .slice (some ⟨B41, 0, none⟩) 2 cap41, .slice (some ⟨E41, 0, none⟩) 1 1] 50)) xq10) x6) x7) y).alloc (.cells #[.slice (some ⟨vg, 0, none⟩) 8 vc] 43)) xq) w'' ∧ ph23 B41 cap41 E41 w ((ext (ext (ext (ext ((ext ((ext (ext ((ext (ext (w.alloc (.cells #[.slice (some ⟨vg, 0, none⟩) 9 vc] 43)) x) x1).alloc (.cells #[.int .i64 0, .bool false, .slice (some ⟨m39, 0, none⟩) 17 17, .slice ba38 bn38 bc38] 50)) x2) x4).alloc (.cells ((List.take 2 C41.toList ++ .int .u8 3 :: .int .u8 1 :: List.drop 4 C41.toList).toArray) 23)) x5).alloc (.cells #[.int .i64 1, .bool false, .slice (some ⟨B41, 0, none⟩) 2 cap41, .slice (some ⟨E41, 0, none⟩) 1 1] 50)) xq10) x6) x7) y).alloc (.cells #[.slice (some ⟨vg, 0, none⟩) 8 vc] 43)) 0 u w'') (wanted_none rfl _) (by simp [execOp, resolve, ev_c, ev_f]) ?_ (fun u w'' h => hK u w'' h.1 h.2)
              clear hK
              intro K' hK'
              go_wp2_with ((go_at_call 22; (with_reducible refine (leaf2_c _).mono ?_); rintro e w1 ⟨v1, rfl, hf, hb⟩; obtain ⟨x1, rfl⟩ := ext_of_grow hb; clear hb))
              exact hK' _ _ ⟨Gw.h, FnAt.v hf⟩
            · refine ⟨_, rfl, ?_⟩
              refine wp_tiny (Op.call { callee := Callee.value (Operand.func 23), args := #[.const (.int .i64 0), .const (.int .i64 2)], argTypes := #[3, 3] }) (R := fun u w'' => Grow (ext ((ext (ext (ext (ext ((ext ((ext (ext ((ext (ext (w.alloc (.cells #[.slice (some ⟨vg, 0, none⟩) 9 vc] 43)) x) x1).alloc (.cells #[.int .i64 0, .bool false, .slice (some ⟨m39, 0, none⟩) 17 17, .slice ba38 bn38 bc38] 50)) x2) x4).alloc (.cells ((List.take 2 C41.toList ++ .int .u8 3 :: .int .u8 1 :: List.drop 4 C41.toList).toArray) 23)) x5).alloc (.cells #[.int .i64 1, .bool false, .slice (some ⟨B41, 0, none⟩) 2 cap41, .slice (some ⟨E41, 0, none⟩) 1 1] 50)) xq10) x6) x7) y).alloc (.cells #[.slice (some ⟨vg, 0, none⟩) 8 vc] 43)) xq) w'' ∧ ph23 B41 cap41 E41 w ((ext (ext (ext (ext ((ext ((ext (ext ((ext (ext (w.alloc (.cells #[.slice (some ⟨vg, 0, none⟩) 9 vc] 43)) x) x1).alloc (.cells #[.int .i64 0, .bool false, .slice (some ⟨m39, 0, none⟩) 17 17, .slice ba38 bn38 bc38] 50)) x2) x4).alloc (.cells ((List.take 2 C41.toList ++ .int .u8 3 :: .int .u8 1 :: List.drop 4 C41.toList).toArray) 23)) x5).alloc (.cells #[.int .i64 1, .bool false, .slice (some ⟨B41, 0, none⟩) 2 cap41, .slice (some ⟨E41, 0, none⟩) 1 1] 50)) xq10) x6) x7) y).alloc (.cells #[.slice (some ⟨vg, 0, none⟩) 8 vc] 43)) 1 u w'') (wanted_none rfl _) (by simp [execOp, resolve, ev_c, ev_f]) ?_ (fun u w'' h => hK u w'' h.1 h.2)
              clear hK
              intro K' hK'
              go_wp2_with ((go_at_call 23; (with_reducible refine (c02_c _).mono ?_); rintro e w1 ⟨v1, rfl, hf, hb⟩; obtain ⟨x1, rfl⟩ := ext_of_grow hb; clear hb))
              exact hK' _ _ ⟨Gw.h, FnAt.v hf⟩
            · have e4 := hout 4 _ (by kernel_rfl) (S.g 4 rfl)
              refine ⟨_, rfl, ?_⟩
              refine wp_tiny (Op.load 50 (.const (.pointer (some ⟨p4, 0, none⟩)))) (R := fun u w'' => Grow (ext ((ext (ext (ext (ext ((ext ((ext (ext ((ext (ext (w.alloc (.cells #[.slice (some ⟨vg, 0, none⟩) 9 vc] 43)) x) x1).alloc (.cells #[.int .i64 0, .bool false, .slice (some ⟨m39, 0, none⟩) 17 17, .slice ba38 bn38 bc38] 50)) x2) x4).alloc (.cells ((List.take 2 C41.toList ++ .int .u8 3 :: .int .u8 1 :: List.drop 4 C41.toList).toArray) 23)) x5).alloc (.cells #[.int .i64 1, .bool false, .slice (some ⟨B41, 0, none⟩) 2 cap41, .slice (some ⟨E41, 0, none⟩) 1 1] 50)) xq10) x6) x7) y).alloc (.cells #[.slice (some ⟨vg, 0, none⟩) 8 vc] 43)) xq) w'' ∧ ph23 B41 cap41 E41 w ((ext (ext (ext (ext ((ext ((ext (ext ((ext (ext (w.alloc (.cells #[.slice (some ⟨vg, 0, none⟩) 9 vc] 43)) x) x1).alloc (.cells #[.int .i64 0, .bool false, .slice (some ⟨m39, 0, none⟩) 17 17, .slice ba38 bn38 bc38] 50)) x2) x4).alloc (.cells ((List.take 2 C41.toList ++ .int .u8 3 :: .int .u8 1 :: List.drop 4 C41.toList).toArray) 23)) x5).alloc (.cells #[.int .i64 1, .bool false, .slice (some ⟨B41, 0, none⟩) 2 cap41, .slice (some ⟨E41, 0, none⟩) 1 1] 50)) xq10) x6) x7) y).alloc (.cells #[.slice (some ⟨vg, 0, none⟩) 8 vc] 43)) 2 u w'') (wanted_none rfl _) (by simp [execOp, resolve, e4, ev_c, ev_f]) ?_ (fun u w'' h => hK u w'' h.1 h.2)
              clear hK
              intro K' hK'
              go_wp2_with (fail)
              exact hK' _ _ ⟨Gw.h, rfl⟩
            · obtain ⟨la145, ln145, lc145, ba145, bn145, bc145, z145, hf145⟩ := (hΦ 0 (List.mem_of_elem_eq_true (by kernel_rfl)))
              have e145 := (hin 0 145 (by omega) (by kernel_rfl)).trans z145
              obtain ⟨la146, ln146, lc146, ba146, bn146, bc146, z146, hf146⟩ := (hΦ 1 (List.mem_of_elem_eq_true (by kernel_rfl)))
              have e146 := (hin 1 146 (by omega) (by kernel_rfl)).trans z146
              have e147 : A.eval (.tmp 147) = .agg #[.int .i64 1, .bool false, .slice (some ⟨B41, 0, none⟩) 2 cap41, .slice (some ⟨E41, 0, none⟩) 1 1] := (hin 2 147 (by omega) (by kernel_rfl)).trans (hΦ 2 (List.mem_of_elem_eq_true (by kernel_rfl)))
              refine ⟨_, rfl, ?_⟩
              refine wp_tiny (Op.buildSlice 41 3 #[(0, .const (.agg #[.int .i64 2, .bool false, .slice la145 ln145 lc145, .slice ba145 bn145 bc145])), (1, .const (.agg #[.int .i64 0, .bool false, .slice la146 ln146 lc146, .slice ba146 bn146 bc146])), (2, .const (.agg #[.int .i64 1, .bool false, .slice (some ⟨B41, 0, none⟩) 2 cap41, .slice (some ⟨E41, 0, none⟩) 1 1]))]) (R := fun u w'' => Grow (ext ((ext (ext (ext (ext ((ext ((ext (ext ((ext (ext (w.alloc (.cells #[.slice (some ⟨vg, 0, none⟩) 9 vc] 43)) x) x1).alloc (.cells #[.int .i64 0, .bool false, .slice (some ⟨m39, 0, none⟩) 17 17, .slice ba38 bn38 bc38] 50)) x2) x4).alloc (.cells ((List.take 2 C41.toList ++ .int .u8 3 :: .int .u8 1 :: List.drop 4 C41.toList).toArray) 23)) x5).alloc (.cells #[.int .i64 1, .bool false, .slice (some ⟨B41, 0, none⟩) 2 cap41, .slice (some ⟨E41, 0, none⟩) 1 1] 50)) xq10) x6) x7) y).alloc (.cells #[.slice (some ⟨vg, 0, none⟩) 8 vc] 43)) xq) w'' ∧ ph23 B41 cap41 E41 w ((ext (ext (ext (ext ((ext ((ext (ext ((ext (ext (w.alloc (.cells #[.slice (some ⟨vg, 0, none⟩) 9 vc] 43)) x) x1).alloc (.cells #[.int .i64 0, .bool false, .slice (some ⟨m39, 0, none⟩) 17 17, .slice ba38 bn38 bc38] 50)) x2) x4).alloc (.cells ((List.take 2 C41.toList ++ .int .u8 3 :: .int .u8 1 :: List.drop 4 C41.toList).toArray) 23)) x5).alloc (.cells #[.int .i64 1, .bool false, .slice (some ⟨B41, 0, none⟩) 2 cap41, .slice (some ⟨E41, 0, none⟩) 1 1] 50)) xq10) x6) x7) y).alloc (.cells #[.slice (some ⟨vg, 0, none⟩) 8 vc] 43)) 3 u w'') (wanted_none rfl _) (by simp [execOp, resolve, e145, e146, e147, ev_c, ev_f]) ?_ (fun u w'' h => hK u w'' h.1 h.2)
              clear hK
              intro K' hK'
              go_wp2_with (fail)
              exact hK' _ _ ⟨Gw.h, _, rfl, sl_fn3 (Rp.keep (Agr.of_grow Gw.h) hf145) (Rp.keep (Agr.of_grow Gw.h) hf146) (Rp.keep (Agr.of_grow Gw.h) hSH) (heap_newE (by simp only [size_ext, alloc_size])) (by rfl)⟩
            · obtain ⟨s148, z148, hs148⟩ := (hΦ 3 (List.mem_of_elem_eq_true (by kernel_rfl)))
              have e148 := (hin 3 148 (by omega) (by kernel_rfl)).trans z148
              refine ⟨_, rfl, ?_⟩
              refine wp_tiny (Op.build 43 #[(0, .const (.slice (some ⟨s148, 0, none⟩) 3 3))]) (R := fun u w'' => Grow (ext ((ext (ext (ext (ext ((ext ((ext (ext ((ext (ext (w.alloc (.cells #[.slice (some ⟨vg, 0, none⟩) 9 vc] 43)) x) x1).alloc (.cells #[.int .i64 0, .bool false, .slice (some ⟨m39, 0, none⟩) 17 17, .slice ba38 bn38 bc38] 50)) x2) x4).alloc (.cells ((List.take 2 C41.toList ++ .int .u8 3 :: .int .u8 1 :: List.drop 4 C41.toList).toArray) 23)) x5).alloc (.cells #[.int .i64 1, .bool false, .slice (some ⟨B41, 0, none⟩) 2 cap41, .slice (some ⟨E41, 0, none⟩) 1 1] 50)) xq10) x6) x7) y).alloc (.cells #[.slice (some ⟨vg, 0, none⟩) 8 vc] 43)) xq) w'' ∧ ph23 B41 cap41 E41 w ((ext (ext (ext (ext ((ext ((ext (ext ((ext (ext (w.alloc (.cells #[.slice (some ⟨vg, 0, none⟩) 9 vc] 43)) x) x1).alloc (.cells #[.int .i64 0, .bool false, .slice (some ⟨m39, 0, none⟩) 17 17, .slice ba38 bn38 bc38] 50)) x2) x4).alloc (.cells ((List.take 2 C41.toList ++ .int .u8 3 :: .int .u8 1 :: List.drop 4 C41.toList).toArray) 23)) x5).alloc (.cells #[.int .i64 1, .bool false, .slice (some ⟨B41, 0, none⟩) 2 cap41, .slice (some ⟨E41, 0, none⟩) 1 1] 50)) xq10) x6) x7) y).alloc (.cells #[.slice (some ⟨vg, 0, none⟩) 8 vc] 43)) 4 u w'') (wanted_none rfl _) (by simp [execOp, resolve, e148, ev_c, ev_f]) ?_ (fun u w'' h => hK u w'' h.1 h.2)
              clear hK
              intro K' hK'
              go_wp2_with (fail)
              exact hK' _ _ ⟨Gw.h, _, rfl, hs148.mono Gw.h⟩
            · refine ⟨_, rfl, ?_⟩
              refine wp_tiny (Op.alloc 43) (R := fun u w'' => Grow (ext ((ext (ext (ext (ext ((ext ((ext (ext ((ext (ext (w.alloc (.cells #[.slice (some ⟨vg, 0, none⟩) 9 vc] 43)) x) x1).alloc (.cells #[.int .i64 0, .bool false, .slice (some ⟨m39, 0, none⟩) 17 17, .slice ba38 bn38 bc38] 50)) x2) x4).alloc (.cells ((List.take 2 C41.toList ++ .int .u8 3 :: .int .u8 1 :: List.drop 4 C41.toList).toArray) 23)) x5).alloc (.cells #[.int .i64 1, .bool false, .slice (some ⟨B41, 0, none⟩) 2 cap41, .slice (some ⟨E41, 0, none⟩) 1 1] 50)) xq10) x6) x7) y).alloc (.cells #[.slice (some ⟨vg, 0, none⟩) 8 vc] 43)) xq) w'' ∧ ph23 B41 cap41 E41 w ((ext (ext (ext (ext ((ext ((ext (ext ((ext (ext (w.alloc (.cells #[.slice (some ⟨vg, 0, none⟩) 9 vc] 43)) x) x1).alloc (.cells #[.int .i64 0, .bool false, .slice (some ⟨m39, 0, none⟩) 17 17, .slice ba38 bn38 bc38] 50)) x2) x4).alloc (.cells ((List.take 2 C41.toList ++ .int .u8 3 :: .int .u8 1 :: List.drop 4 C41.toList).toArray) 23)) x5).alloc (.cells #[.int .i64 1, .bool false, .slice (some ⟨B41, 0, none⟩) 2 cap41, .slice (some ⟨E41, 0, none⟩) 1 1] 50)) xq10) x6) x7) y).alloc (.cells #[.slice (some ⟨vg, 0, none⟩) 8 vc] 43)) 5 u w'') (wanted_none rfl _) (by simp [execOp, resolve, ev_c, ev_f]) ?_ (fun u w'' h => hK u w'' h.1 h.2)
              clear hK
              intro K' hK'
              go_wp2_with (fail)
              exact hK' _ _ ⟨Gw.h, _, rfl, by first | (simp only [size_ext, alloc_size]; omega) | (simp only [size_ext]; omega), heap_newE (by simp only [size_ext, alloc_size])⟩
          obtain ⟨xq23, rfl⟩ := ext_of_grow (Grow.trans (by exact Gw.h : Grow ((ext (ext (ext (ext ((ext ((ext (ext ((ext (ext (w.alloc (.cells #[.slice (some ⟨vg, 0, none⟩) 9 vc] 43)) x) x1).alloc (.cells #[.int .i64 0, .bool false, .slice (some ⟨m39, 0, none⟩) 17 17, .slice ba38 bn38 bc38] 50)) x2) x4).alloc (.cells ((List.take 2 C41.toList ++ .int .u8 3 :: .int .u8 1 :: List.drop 4 C41.toList).toArray) 23)) x5).alloc (.cells #[.int .i64 1, .bool false, .slice (some ⟨B41, 0, none⟩) 2 cap41, .slice (some ⟨E41, 0, none⟩) 1 1] 50)) xq10) x6) x7) y).alloc (.cells #[.slice (some ⟨vg, 0, none⟩) 8 vc] 43)) _) hg)
          clear hg
          obtain ⟨s149, z149, hs149⟩ := (hΦ 4 (by omega))
          have e149 := (hin 4 149 (by omega) (by kernel_rfl)).trans z149
          obtain ⟨p18, e18, hb18, hc18⟩ := hΦ 5 (by omega)
          replace S : St8 A 203 _ := ⟨hNA, hDA.trans S.defers, Lk.cons (hout 17 _ (by kernel_rfl) (S.g 17 rfl)) (Lk.cons (e149) (Lk.cons ((hin 5 18 (by omega) (by kernel_rfl)).trans e18) (Lk.nil)))⟩
          clear hΦ hin hout hNA hDA a
          rename Act => a
          simp only [List.drop_succ_cons, List.drop_zero]
          obtain ⟨x8, x9, hp18, hw⟩ := split_box hc18 hb18
          rw [hw] at hc18 hs149 ⊢
          clear hw hb18
          haveI ep18 : EqW p18 (ext ((ext (ext (ext (ext ((ext ((ext (ext ((ext (ext (w.alloc (.cells #[.slice (some ⟨vg, 0, none⟩) 9 vc] 43)) x) x1).alloc (.cells #[.int .i64 0, .bool false, .slice (some ⟨m39, 0, none⟩) 17 17, .slice ba38 bn38 bc38] 50)) x2) x4).alloc (.cells ((List.take 2 C41.toList ++ .int .u8 3 :: .int .u8 1 :: List.drop 4 C41.toList).toArray) 23)) x5).alloc (.cells #[.int .i64 1, .bool false, .slice (some ⟨B41, 0, none⟩) 2 cap41, .slice (some ⟨E41, 0, none⟩) 1 1] 50)) xq10) x6) x7) y).alloc (.cells #[.slice (some ⟨vg, 0, none⟩) 8 vc] 43)) x8) := ⟨hp18⟩
          replace hp18 := Lib.hid hp18
          refine st_put S (Op.store 43 (.const (.pointer (some ⟨p18, 0, none⟩))) (.const (.agg #[.slice (some ⟨s149, 0, none⟩) 3 3]))) (ext ((ext ((ext (ext (ext (ext ((ext ((ext (ext ((ext (ext (w.alloc (.cells #[.slice (some ⟨vg, 0, none⟩) 9 vc] 43)) x) x1).alloc (.cells #[.int .i64 0, .bool false, .slice (some ⟨m39, 0, none⟩) 17 17, .slice ba38 bn38 bc38] 50)) x2) x4).alloc (.cells ((List.take 2 C41.toList ++ .int .u8 3 :: .int .u8 1 :: List.drop 4 C41.toList).toArray) 23)) x5).alloc (.cells #[.int .i64 1, .bool false, .slice (some ⟨B41, 0, none⟩) 2 cap41, .slice (some ⟨E41, 0, none⟩) 1 1] 50)) xq10) x6) x7) y).alloc (.cells #[.slice (some ⟨vg, 0, none⟩) 8 vc] 43)) x8).alloc (.cells #[.slice (some ⟨s149, 0, none⟩) 3 3] 43)) x9) rfl (wanted_none rfl _) (by simp [execOp, resolve, S.g 18 rfl, S.g 149 rfl, ev_c, ev_f]) ?_ (fun a S => ?_)
          · intro K' hK'
            go_wp2_with fail
            exact hK' _
          have htwo : Sl (fun _ => True) (ext ((ext ((ext (ext (ext (ext ((ext ((ext (ext ((ext (ext (w.alloc (.cells #[.slice (some ⟨vg, 0, none⟩) 9 vc] 43)) x) x1).alloc (.cells #[.int .i64 0, .bool false, .slice (some ⟨m39, 0, none⟩) 17 17, .slice ba38 bn38 bc38] 50)) x2) x4).alloc (.cells ((List.take 2 C41.toList ++ .int .u8 3 :: .int .u8 1 :: List.drop 4 C41.toList).toArray) 23)) x5).alloc (.cells #[.int .i64 1, .bool false, .slice (some ⟨B41, 0, none⟩) 2 cap41, .slice (some ⟨E41, 0, none⟩) 1 1] 50)) xq10) x6) x7) y).alloc (.cells #[.slice (some ⟨vg, 0, none⟩) 8 vc] 43)) x8).alloc (.cells #[.slice (some ⟨s149, 0, none⟩) 3 3] 43)) x9) _ _ := sl_box8 hs149 hc18 (agr_swap hp18.out)
          replace h8 : Sl (fun _ => True) (ext ((ext ((ext (ext (ext (ext ((ext ((ext (ext ((ext (ext (w.alloc (.cells #[.slice (some ⟨vg, 0, none⟩) 9 vc] 43)) x) x1).alloc (.cells #[.int .i64 0, .bool false, .slice (some ⟨m39, 0, none⟩) 17 17, .slice ba38 bn38 bc38] 50)) x2) x4).alloc (.cells ((List.take 2 C41.toList ++ .int .u8 3 :: .int .u8 1 :: List.drop 4 C41.toList).toArray) 23)) x5).alloc (.cells #[.int .i64 1, .bool false, .slice (some ⟨B41, 0, none⟩) 2 cap41, .slice (some ⟨E41, 0, none⟩) 1 1] 50)) xq10) x6) x7) y).alloc (.cells #[.slice (some ⟨vg, 0, none⟩) 8 vc] 43)) x8).alloc (.cells #[.slice (some ⟨s149, 0, none⟩) 3 3] 43)) x9) _ _ := h8.mono Gw.h
          clear hs149 hc18 hp18 hSH
          replace S : St8 a 203 _ := ⟨S.size, S.defers, Lk.cons (S.g 17 rfl) (Lk.cons (S.g 18 rfl) (Lk.nil))⟩
          go_upto_region 24 with fail
          refine wp_region_lit ?_
          refine st_val S (Op.load 43 (.const (.pointer (some ⟨p18, 0, none⟩)))) (.agg #[.slice (some ⟨s149, 0, none⟩) 3 3]) rfl rfl (wanted_none rfl _) (by simp [execOp, resolve, S.g 18 rfl, ev_c, ev_f]) ?_ (fun a S => ?_)
          · intro K' hK'
            go_wp2_with fail
            exact hK'
          refine st_any S (Op.call { callee := Callee.value (Operand.func 24), args := #[.const (.agg #[.slice (some ⟨s149, 0, none⟩) 3 3])], argTypes := #[43] }) (fun u w'' => u = .tuple #[.int .i64 2, .int .i64 0] ∧ Grow (ext ((ext ((ext (ext (ext (ext ((ext ((ext (ext ((ext (ext (w.alloc (.cells #[.slice (some ⟨vg, 0, none⟩) 9 vc] 43)) x) x1).alloc (.cells #[.int .i64 0, .bool false, .slice (some ⟨m39, 0, none⟩) 17 17, .slice ba38 bn38 bc38] 50)) x2) x4).alloc (.cells ((List.take 2 C41.toList ++ .int .u8 3 :: .int .u8 1 :: List.drop 4 C41.toList).toArray) 23)) x5).alloc (.cells #[.int .i64 1, .bool false, .slice (some ⟨B41, 0, none⟩) 2 cap41, .slice (some ⟨E41, 0, none⟩) 1 1] 50)) xq10) x6) x7) y).alloc (.cells #[.slice (some ⟨vg, 0, none⟩) 8 vc] 43)) x8).alloc (.cells #[.slice (some ⟨s149, 0, none⟩) 3 3] 43)) x9) w'') rfl rfl (wanted_none rfl _) (by simp [execOp, resolve, S.g 151 rfl, ev_c, ev_f]) ?_ (fun u w'' a h S => ?_)
          · intro K' hK'
            go_wp2_with ((go_at_call 24; (with_reducible refine (is_inputs (p := twoP) _ _ (htwo.mono Gw.h) two_in).mono ?_); rintro e w1 ⟨rfl, hb1⟩; obtain ⟨x1, rfl⟩ := ext_of_grow hb1; clear hb1))
            exact hK' _ _ ⟨rfl, Gw.h⟩
          obtain ⟨rfl, hg⟩ := h
          obtain ⟨x10, rfl⟩ := ext_of_grow hg
          clear hg
          refine st_val S (Op.move (.const (.tuple #[.int .i64 2, .int .i64 0]))) (.tuple #[.int .i64 2, .int .i64 0]) rfl rfl (wanted_none rfl _) (by simp [execOp, resolve, S.g 152 rfl, ev_c, ev_f]) ?_ (fun a S => ?_)
          · intro K' hK'
            go_wp2_with fail
            exact hK'
          refine st_val S (Op.extract (.const (.tuple #[.int .i64 2, .int .i64 0])) 0) (.int .i64 2) rfl rfl (wanted_none rfl _) (by simp [execOp, resolve, S.g 150 rfl, ev_c, ev_f]) ?_ (fun a S => ?_)
          · intro K' hK'
            go_wp2_with fail
            exact hK'
          refine st_val S (Op.extract (.const (.tuple #[.int .i64 2, .int .i64 0])) 1) (.int .i64 0) rfl rfl (wanted_none rfl _) (by simp [execOp, resolve, S.g 150 rfl, ev_c, ev_f]) ?_ (fun a S => ?_)
          · intro K' hK'
            go_wp2_with fail
            exact hK'
          refine st_val S (Op.assign (.const (.int .i64 2))) (.int .i64 2) rfl rfl (wanted_none rfl _) (by simp [execOp, resolve, S.g 153 rfl, ev_c, ev_f]) ?_ (fun a S => ?_)
          · intro K' hK'
            go_wp2_with fail
            exact hK'
          refine st_val S (Op.assign (.const (.int .i64 0))) (.int .i64 0) rfl rfl (wanted_none rfl _) (by simp [execOp, resolve, S.g 154 rfl, ev_c, ev_f]) ?_ (fun a S => ?_)
          · intro K' hK'
            go_wp2_with fail
            exact hK'
          replace S : St8 a 203 _ := ⟨S.size, S.defers, Lk.cons (S.g 17 rfl) (Lk.cons (S.g 18 rfl) (Lk.cons (S.g 19 rfl) (Lk.cons (S.g 20 rfl) (Lk.nil))))⟩
          go_upto_region 25 with fail
          refine wp_region_lit ?_
          refine st_val S (Op.load 43 (.const (.pointer (some ⟨p18, 0, none⟩)))) (.agg #[.slice (some ⟨s149, 0, none⟩) 3 3]) rfl rfl (wanted_none rfl _) (by simp [execOp, resolve, S.g 18 rfl, ev_c, ev_f]) ?_ (fun a S => ?_)
          · intro K' hK'
            go_wp2_with fail
            exact hK'
          refine st_any S (Op.call { callee := Callee.value (Operand.func 17), args := #[.const (.agg #[.slice (some ⟨s149, 0, none⟩) 3 3]), .const (.int .i64 3)], argTypes := #[43, 3] }) (fun u w'' => u = .tuple #[.bool false, .int .i64 2] ∧ Grow (ext ((ext ((ext (ext (ext (ext ((ext ((ext (ext ((ext (ext (w.alloc (.cells #[.slice (some ⟨vg, 0, none⟩) 9 vc] 43)) x) x1).alloc (.cells #[.int .i64 0, .bool false, .slice (some ⟨m39, 0, none⟩) 17 17, .slice ba38 bn38 bc38] 50)) x2) x4).alloc (.cells ((List.take 2 C41.toList ++ .int .u8 3 :: .int .u8 1 :: List.drop 4 C41.toList).toArray) 23)) x5).alloc (.cells #[.int .i64 1, .bool false, .slice (some ⟨B41, 0, none⟩) 2 cap41, .slice (some ⟨E41, 0, none⟩) 1 1] 50)) xq10) x6) x7) y).alloc (.cells #[.slice (some ⟨vg, 0, none⟩) 8 vc] 43)) x8).alloc (.cells #[.slice (some ⟨s149, 0, none⟩) 3 3] 43)) x9) w'') rfl rfl (wanted_none rfl _) (by simp [execOp, resolve, S.g 156 rfl, ev_c, ev_f]) ?_ (fun u w'' a h S => ?_)
          · intro K' hK'
            go_wp2_with ((go_at_call 17; ((with_reducible refine (is_rec (p := twoP) _ _ (htwo.mono Gw.h) i64_3 two_r3).mono ?_); rintro e w1 ⟨rfl, hb1⟩; obtain ⟨x1, rfl⟩ := ext_of_grow hb1; clear hb1)))
            exact hK' _ _ ⟨rfl, Gw.h⟩
          obtain ⟨rfl, hg⟩ := h
          obtain ⟨x11, rfl⟩ := ext_of_grow hg
          clear hg
          refine st_val S (Op.move (.const (.tuple #[.bool false, .int .i64 2]))) (.tuple #[.bool false, .int .i64 2]) rfl rfl (wanted_none rfl _) (by simp [execOp, resolve, S.g 157 rfl, ev_c, ev_f]) ?_ (fun a S => ?_)
          · intro K' hK'
            go_wp2_with fail
            exact hK'
          refine st_val S (Op.extract (.const (.tuple #[.bool false, .int .i64 2])) 0) (.bool false) rfl rfl (wanted_none rfl _) (by simp [execOp, resolve, S.g 155 rfl, ev_c, ev_f]) ?_ (fun a S => ?_)
          · intro K' hK'
            go_wp2_with fail
            exact hK'
          refine st_val S (Op.extract (.const (.tuple #[.bool false, .int .i64 2])) 1) (.int .i64 2) rfl rfl (wanted_none rfl _) (by simp [execOp, resolve, S.g 155 rfl, ev_c, ev_f]) ?_ (fun a S => ?_)
          · intro K' hK'
            go_wp2_with fail
            exact hK'
          refine st_val S (Op.assign (.const (.bool false))) (.bool false) rfl rfl (wanted_none rfl _) (by simp [execOp, resolve, S.g 158 rfl, ev_c, ev_f]) ?_ (fun a S => ?_)
          · intro K' hK'
            go_wp2_with fail
            exact hK'
          refine st_val S (Op.assign (.const (.int .i64 2))) (.int .i64 2) rfl rfl (wanted_none rfl _) (by simp [execOp, resolve, S.g 159 rfl, ev_c, ev_f]) ?_ (fun a S => ?_)
          · intro K' hK'
            go_wp2_with fail
            exact hK'
          replace S : St8 a 203 _ := ⟨S.size, S.defers, Lk.cons (S.g 17 rfl) (Lk.cons (S.g 18 rfl) (Lk.cons (S.g 19 rfl) (Lk.cons (S.g 20 rfl) (Lk.cons (S.g 22 rfl) (Lk.nil)))))⟩
          go_upto_region 26 with fail
          refine wp_region_lit ?_
          refine st_val S (Op.load 43 (.const (.pointer (some ⟨p18, 0, none⟩)))) (.agg #[.slice (some ⟨s149, 0, none⟩) 3 3]) rfl rfl (wanted_none rfl _) (by simp [execOp, resolve, S.g 18 rfl, ev_c, ev_f]) ?_ (fun a S => ?_)
          · intro K' hK'
            go_wp2_with fail
            exact hK'
          refine st_any S (Op.call { callee := Callee.value (Operand.func 17), args := #[.const (.agg #[.slice (some ⟨s149, 0, none⟩) 3 3]), .const (.int .i64 (-1))], argTypes := #[43, 3] }) (fun u w'' => u = .tuple #[.bool false, .int .i64 2] ∧ Grow (ext ((ext ((ext (ext (ext (ext ((ext ((ext (ext ((ext (ext (w.alloc (.cells #[.slice (some ⟨vg, 0, none⟩) 9 vc] 43)) x) x1).alloc (.cells #[.int .i64 0, .bool false, .slice (some ⟨m39, 0, none⟩) 17 17, .slice ba38 bn38 bc38] 50)) x2) x4).alloc (.cells ((List.take 2 C41.toList ++ .int .u8 3 :: .int .u8 1 :: List.drop 4 C41.toList).toArray) 23)) x5).alloc (.cells #[.int .i64 1, .bool false, .slice (some ⟨B41, 0, none⟩) 2 cap41, .slice (some ⟨E41, 0, none⟩) 1 1] 50)) xq10) x6) x7) y).alloc (.cells #[.slice (some ⟨vg, 0, none⟩) 8 vc] 43)) x8).alloc (.cells #[.slice (some ⟨s149, 0, none⟩) 3 3] 43)) x9) w'') rfl rfl (wanted_none rfl _) (by simp [execOp, resolve, S.g 161 rfl, ev_c, ev_f]) ?_ (fun u w'' a h S => ?_)
          · intro K' hK'
            go_wp2_with ((go_at_call 17; ((with_reducible refine (is_rec (p := twoP) _ _ (htwo.mono Gw.h) i64_m1 two_rm).mono ?_); rintro e w1 ⟨rfl, hb1⟩; obtain ⟨x1, rfl⟩ := ext_of_grow hb1; clear hb1)))
            exact hK' _ _ ⟨rfl, Gw.h⟩
          obtain ⟨rfl, hg⟩ := h
          obtain ⟨x12, rfl⟩ := ext_of_grow hg
          clear hg
          refine st_val S (Op.move (.const (.tuple #[.bool false, .int .i64 2]))) (.tuple #[.bool false, .int .i64 2]) rfl rfl (wanted_none rfl _) (by simp [execOp, resolve, S.g 162 rfl, ev_c, ev_f]) ?_ (fun a S => ?_)
          · intro K' hK'
            go_wp2_with fail
            exact hK'
          refine st_val S (Op.extract (.const (.tuple #[.bool false, .int .i64 2])) 0) (.bool false) rfl rfl (wanted_none rfl _) (by simp [execOp, resolve, S.g 160 rfl, ev_c, ev_f]) ?_ (fun a S => ?_)
          · intro K' hK'
            go_wp2_with fail
            exact hK'
          refine st_val S (Op.extract (.const (.tuple #[.bool false, .int .i64 2])) 1) (.int .i64 2) rfl rfl (wanted_none rfl _) (by simp [execOp, resolve, S.g 160 rfl, ev_c, ev_f]) ?_ (fun a S => ?_)
          · intro K' hK'
            go_wp2_with fail
            exact hK'
          refine st_val S (Op.assign (.const (.bool false))) (.bool false) rfl rfl (wanted_none rfl _) (by simp [execOp, resolve, S.g 163 rfl, ev_c, ev_f]) ?_ (fun a S => ?_)
          · intro K' hK'
            go_wp2_with fail
            exact hK'
          refine st_val S (Op.assign (.const (.int .i64 2))) (.int .i64 2) rfl rfl (wanted_none rfl _) (by simp [execOp, resolve, S.g 164 rfl, ev_c, ev_f]) ?_ (fun a S => ?_)
          · intro K' hK'
            go_wp2_with fail
            exact hK'
          replace S : St8 a 203 _ := ⟨S.size, S.defers, Lk.cons (S.g 17 rfl) (Lk.cons (S.g 18 rfl) (Lk.cons (S.g 19 rfl) (Lk.cons (S.g 20 rfl) (Lk.cons (S.g 22 rfl) (Lk.cons (S.g 24 rfl) (Lk.nil))))))⟩
          go_upto_region 27 with fail
          refine wp_region_lit ?_
          refine st_val S (Op.load 43 (.const (.pointer (some ⟨p18, 0, none⟩)))) (.agg #[.slice (some ⟨s149, 0, none⟩) 3 3]) rfl rfl (wanted_none rfl _) (by simp [execOp, resolve, S.g 18 rfl, ev_c, ev_f]) ?_ (fun a S => ?_)
          · intro K' hK'
            go_wp2_with fail
            exact hK'
          refine st_any S (Op.call { callee := Callee.value (Operand.func 20), args := #[.const (.agg #[.slice (some ⟨s149, 0, none⟩) 3 3])], argTypes := #[43] }) (fun u w'' => ∃ a n c, u = .tuple #[.slice a n c, .int .i64 0] ∧ Grow (ext (ext ((ext ((ext (ext (ext (ext ((ext ((ext (ext ((ext (ext (w.alloc (.cells #[.slice (some ⟨vg, 0, none⟩) 9 vc] 43)) x) x1).alloc (.cells #[.int .i64 0, .bool false, .slice (some ⟨m39, 0, none⟩) 17 17, .slice ba38 bn38 bc38] 50)) x2) x4).alloc (.cells ((List.take 2 C41.toList ++ .int .u8 3 :: .int .u8 1 :: List.drop 4 C41.toList).toArray) 23)) x5).alloc (.cells #[.int .i64 1, .bool false, .slice (some ⟨B41, 0, none⟩) 2 cap41, .slice (some ⟨E41, 0, none⟩) 1 1] 50)) xq10) x6) x7) y).alloc (.cells #[.slice (some ⟨vg, 0, none⟩) 8 vc] 43)) x8).alloc (.cells #[.slice (some ⟨s149, 0, none⟩) 3 3] 43)) x9) x12) w'' ∧ Sl (fun _ => True) w'' (.slice a n c) [(0 : Int)]) rfl rfl (wanted_none rfl _) (by simp [execOp, resolve, S.g 166 rfl, ev_c, ev_f]) ?_ (fun u w'' a h S => ?_)
          · intro K' hK'
            go_wp2_with ((go_at_call 20; (with_reducible refine (reached_v twoP _ _ (htwo.mono Gw.h) two_ok two_reach).mono ?_); rintro e w1 ⟨_, rfl, ⟨u1, rfl, hr⟩, hb⟩; obtain ⟨ra, rn, rc, rfl, -, -, -, -, hr⟩ := hr.open))
            exact hK' _ _ ⟨_, _, _, rfl, hb, (hr.wide (fun _ _ _ => trivial))⟩
          obtain ⟨ra, rn, rc, rfl, hg, hrs⟩ := h
          obtain ⟨x13, rfl⟩ := ext_of_grow hg
          clear hg
          refine st_val S (Op.move (.const (.tuple #[.slice ra rn rc, .int .i64 0]))) (.tuple #[.slice ra rn rc, .int .i64 0]) rfl rfl (wanted_none rfl _) (by simp [execOp, resolve, S.g 167 rfl, ev_c, ev_f]) ?_ (fun a S => ?_)
          · intro K' hK'
            go_wp2_with fail
            exact hK'
          refine st_val S (Op.extract (.const (.tuple #[.slice ra rn rc, .int .i64 0])) 0) (.slice ra rn rc) rfl rfl (wanted_none rfl _) (by simp [execOp, resolve, S.g 165 rfl, ev_c, ev_f]) ?_ (fun a S => ?_)
          · intro K' hK'
            go_wp2_with fail
            exact hK'
          refine st_val S (Op.extract (.const (.tuple #[.slice ra rn rc, .int .i64 0])) 1) (.int .i64 0) rfl rfl (wanted_none rfl _) (by simp [execOp, resolve, S.g 165 rfl, ev_c, ev_f]) ?_ (fun a S => ?_)
          · intro K' hK'
            go_wp2_with fail
            exact hK'
          refine st_val S (Op.assign (.const (.slice ra rn rc))) (.slice ra rn rc) rfl rfl (wanted_none rfl _) (by simp [execOp, resolve, S.g 168 rfl, ev_c, ev_f]) ?_ (fun a S => ?_)
          · intro K' hK'
            go_wp2_with fail
            exact hK'
          refine st_val S (Op.assign (.const (.int .i64 0))) (.int .i64 0) rfl rfl (wanted_none rfl _) (by simp [execOp, resolve, S.g 169 rfl, ev_c, ev_f]) ?_ (fun a S => ?_)
          · intro K' hK'
            go_wp2_with fail
            exact hK'
          replace S : St8 a 203 _ := ⟨S.size, S.defers, Lk.cons (S.g 17 rfl) (Lk.cons (S.g 19 rfl) (Lk.cons (S.g 20 rfl) (Lk.cons (S.g 22 rfl) (Lk.cons (S.g 24 rfl) (Lk.cons (S.g 25 rfl) (Lk.cons (S.g 26 rfl) (Lk.nil)))))))⟩
          go_upto_region 28 with fail
          refine wp_region_lit ?_
          refine st_val S (Op.move (.const (.bool true))) (.bool true) rfl rfl (wanted_none rfl _) (by simp [execOp, resolve, ev_c, ev_f]) ?_ (fun a S => ?_)
          · intro K' hK'
            go_wp2_with fail
            exact hK'
          refine st_val S (Op.load 43 (.const (.pointer (some ⟨p17, 0, none⟩)))) (.agg #[.slice (some ⟨vg, 0, none⟩) 8 vc]) rfl rfl (want_at (g := 0) (d := 170) (b := true) S rfl rfl rfl rfl rfl) (by simp [execOp, resolve, S.g 17 rfl, ev_c, ev_f]) ?_ (fun a S => ?_)
          · intro K' hK'
            go_wp2_with fail
            exact hK'
          refine st_any S (Op.call { callee := Callee.value (Operand.func 26), args := #[.const (.agg #[.slice (some ⟨vg, 0, none⟩) 8 vc])], argTypes := #[43] }) (fun u w'' => u = .int .i64 0 ∧ Grow (ext (ext (ext ((ext ((ext (ext (ext (ext ((ext ((ext (ext ((ext (ext (w.alloc (.cells #[.slice (some ⟨vg, 0, none⟩) 9 vc] 43)) x) x1).alloc (.cells #[.int .i64 0, .bool false, .slice (some ⟨m39, 0, none⟩) 17 17, .slice ba38 bn38 bc38] 50)) x2) x4).alloc (.cells ((List.take 2 C41.toList ++ .int .u8 3 :: .int .u8 1 :: List.drop 4 C41.toList).toArray) 23)) x5).alloc (.cells #[.int .i64 1, .bool false, .slice (some ⟨B41, 0, none⟩) 2 cap41, .slice (some ⟨E41, 0, none⟩) 1 1] 50)) xq10) x6) x7) y).alloc (.cells #[.slice (some ⟨vg, 0, none⟩) 8 vc] 43)) x8).alloc (.cells #[.slice (some ⟨s149, 0, none⟩) 3 3] 43)) x9) x12) x13) w'') rfl rfl (want_at (g := 0) (d := 170) (b := true) S rfl rfl rfl rfl rfl) (by simp [execOp, resolve, S.g 171 rfl, ev_c, ev_f]) ?_ (fun u w'' a h S => ?_)
          · intro K' hK'
            go_wp2_with ((go_at_call 26; (with_reducible refine (is_check (p := eightP) _ _ (h8.mono Gw.h) eight_ok).mono ?_); rintro e w1 ⟨rfl, hb1⟩; obtain ⟨x1, rfl⟩ := ext_of_grow hb1; clear hb1))
            exact hK' _ _ ⟨rfl, Gw.h⟩
          obtain ⟨rfl, hg⟩ := h
          obtain ⟨x14, rfl⟩ := ext_of_grow hg
          clear hg
          refine st_val S (Op.binOp BinOp.eql 29 (.const (.int .i64 0)) (.const (.int .i64 0)) 29) (.bool true) rfl rfl (want_at (g := 0) (d := 170) (b := true) S rfl rfl rfl rfl rfl) (by simp [execOp, resolve, S.g 172 rfl, ev_c, ev_f, eqGuard]) ?_ (fun a S => ?_)
          · intro K' hK'
            go_wp2_with fail
            exact hK'
          refine st_val S (Op.pick (.const (.bool true)) (.const (.bool true)) (.const (.bool false))) (.bool true) rfl rfl (wanted_none rfl _) (by simp [execOp, resolve, S.g 170 rfl, S.g 173 rfl, ev_c, ev_f]) ?_ (fun a S => ?_)
          · intro K' hK'
            go_wp2_with fail
            exact hK'
          refine st_val S (Op.move (.const (.bool true))) (.bool true) rfl rfl (wanted_none rfl _) (by simp [execOp, resolve, S.g 174 rfl, ev_c, ev_f]) ?_ (fun a S => ?_)
          · intro K' hK'
            go_wp2_with fail
            exact hK'
          refine st_val S (Op.move (.const (.int .i64 0))) (.int .i64 0) rfl rfl (want_at (g := 5) (d := 175) (b := true) S rfl rfl rfl rfl rfl) (by simp [execOp, resolve, S.g 20 rfl, ev_c, ev_f]) ?_ (fun a S => ?_)
          · intro K' hK'
            go_wp2_with fail
            exact hK'
          refine st_val S (Op.binOp BinOp.eql 29 (.const (.int .i64 0)) (.const (.int .i64 0)) 29) (.bool true) rfl rfl (want_at (g := 5) (d := 175) (b := true) S rfl rfl rfl rfl rfl) (by simp [execOp, resolve, S.g 176 rfl, ev_c, ev_f, eqGuard]) ?_ (fun a S => ?_)
          · intro K' hK'
            go_wp2_with fail
            exact hK'
          refine st_val S (Op.pick (.const (.bool true)) (.const (.bool true)) (.const (.bool false))) (.bool true) rfl rfl (wanted_none rfl _) (by simp [execOp, resolve, S.g 175 rfl, S.g 177 rfl, ev_c, ev_f]) ?_ (fun a S => ?_)
          · intro K' hK'
            go_wp2_with fail
            exact hK'
          refine st_val S (Op.move (.const (.bool true))) (.bool true) rfl rfl (wanted_none rfl _) (by simp [execOp, resolve, S.g 178 rfl, ev_c, ev_f]) ?_ (fun a S => ?_)
          · intro K' hK'
            go_wp2_with fail
            exact hK'
          refine st_val S (Op.move (.const (.int .i64 2))) (.int .i64 2) rfl rfl (want_at (g := 9) (d := 179) (b := true) S rfl rfl rfl rfl rfl) (by simp [execOp, resolve, S.g 19 rfl, ev_c, ev_f]) ?_ (fun a S => ?_)
          · intro K' hK'
            go_wp2_with fail
            exact hK'
          refine st_val S (Op.binOp BinOp.eql 3 (.const (.int .i64 2)) (.const (.int .i64 2)) 3) (.bool true) rfl rfl (want_at (g := 9) (d := 179) (b := true) S rfl rfl rfl rfl rfl) (by simp [execOp, resolve, S.g 180 rfl, ev_c, ev_f, eqGuard]) ?_ (fun a S => ?_)
          · intro K' hK'
            go_wp2_with fail
            exact hK'
          refine st_val S (Op.pick (.const (.bool true)) (.const (.bool true)) (.const (.bool false))) (.bool true) rfl rfl (wanted_none rfl _) (by simp [execOp, resolve, S.g 179 rfl, S.g 181 rfl, ev_c, ev_f]) ?_ (fun a S => ?_)
          · intro K' hK'
            go_wp2_with fail
            exact hK'
          refine st_val S (Op.move (.const (.bool true))) (.bool true) rfl rfl (wanted_none rfl _) (by simp [execOp, resolve, S.g 182 rfl, ev_c, ev_f]) ?_ (fun a S => ?_)
          · intro K' hK'
            go_wp2_with fail
            exact hK'
          refine st_val S (Op.move (.const (.int .i64 2))) (.int .i64 2) rfl rfl (want_at (g := 13) (d := 183) (b := true) S rfl rfl rfl rfl rfl) (by simp [execOp, resolve, S.g 22 rfl, ev_c, ev_f]) ?_ (fun a S => ?_)
          · intro K' hK'
            go_wp2_with fail
            exact hK'
          refine st_val S (Op.binOp BinOp.eql 29 (.const (.int .i64 2)) (.const (.int .i64 2)) 29) (.bool true) rfl rfl (want_at (g := 13) (d := 183) (b := true) S rfl rfl rfl rfl rfl) (by simp [execOp, resolve, S.g 184 rfl, ev_c, ev_f, eqGuard]) ?_ (fun a S => ?_)
          · intro K' hK'
            go_wp2_with fail
            exact hK'
          refine st_val S (Op.pick (.const (.bool true)) (.const (.bool true)) (.const (.bool false))) (.bool true) rfl rfl (wanted_none rfl _) (by simp [execOp, resolve, S.g 183 rfl, S.g 185 rfl, ev_c, ev_f]) ?_ (fun a S => ?_)
          · intro K' hK'
            go_wp2_with fail
            exact hK'
          refine st_val S (Op.move (.const (.bool true))) (.bool true) rfl rfl (wanted_none rfl _) (by simp [execOp, resolve, S.g 186 rfl, ev_c, ev_f]) ?_ (fun a S => ?_)
          · intro K' hK'
            go_wp2_with fail
            exact hK'
          refine st_val S (Op.move (.const (.int .i64 2))) (.int .i64 2) rfl rfl (want_at (g := 17) (d := 187) (b := true) S rfl rfl rfl rfl rfl) (by simp [execOp, resolve, S.g 24 rfl, ev_c, ev_f]) ?_ (fun a S => ?_)
          · intro K' hK'
            go_wp2_with fail
            exact hK'
          refine st_val S (Op.binOp BinOp.eql 29 (.const (.int .i64 2)) (.const (.int .i64 2)) 29) (.bool true) rfl rfl (want_at (g := 17) (d := 187) (b := true) S rfl rfl rfl rfl rfl) (by simp [execOp, resolve, S.g 188 rfl, ev_c, ev_f, eqGuard]) ?_ (fun a S => ?_)
          · intro K' hK'
            go_wp2_with fail
            exact hK'
          refine st_val S (Op.pick (.const (.bool true)) (.const (.bool true)) (.const (.bool false))) (.bool true) rfl rfl (wanted_none rfl _) (by simp [execOp, resolve, S.g 187 rfl, S.g 189 rfl, ev_c, ev_f]) ?_ (fun a S => ?_)
          · intro K' hK'
            go_wp2_with fail
            exact hK'
          refine st_val S (Op.move (.const (.bool true))) (.bool true) rfl rfl (wanted_none rfl _) (by simp [execOp, resolve, S.g 190 rfl, ev_c, ev_f]) ?_ (fun a S => ?_)
          · intro K' hK'
            go_wp2_with fail
            exact hK'
          refine st_val S (Op.move (.const (.int .i64 0))) (.int .i64 0) rfl rfl (want_at (g := 21) (d := 191) (b := true) S rfl rfl rfl rfl rfl) (by simp [execOp, resolve, S.g 26 rfl, ev_c, ev_f]) ?_ (fun a S => ?_)
          · intro K' hK'
            go_wp2_with fail
            exact hK'
          refine st_val S (Op.binOp BinOp.eql 29 (.const (.int .i64 0)) (.const (.int .i64 0)) 29) (.bool true) rfl rfl (want_at (g := 21) (d := 191) (b := true) S rfl rfl rfl rfl rfl) (by simp [execOp, resolve, S.g 192 rfl, ev_c, ev_f, eqGuard]) ?_ (fun a S => ?_)
          · intro K' hK'
            go_wp2_with fail
            exact hK'
          refine st_val S (Op.pick (.const (.bool true)) (.const (.bool true)) (.const (.bool false))) (.bool true) rfl rfl (wanted_none rfl _) (by simp [execOp, resolve, S.g 191 rfl, S.g 193 rfl, ev_c, ev_f]) ?_ (fun a S => ?_)
          · intro K' hK'
            go_wp2_with fail
            exact hK'
          refine st_val S (Op.move (.const (.bool true))) (.bool true) rfl rfl (wanted_none rfl _) (by simp [execOp, resolve, S.g 194 rfl, ev_c, ev_f]) ?_ (fun a S => ?_)
          · intro K' hK'
            go_wp2_with fail
            exact hK'
          refine st_val S (Op.move (.const (.slice ra rn rc))) (.slice ra rn rc) rfl rfl (want_at (g := 25) (d := 195) (b := true) S rfl rfl rfl rfl rfl) (by simp [execOp, resolve, S.g 25 rfl, ev_c, ev_f]) ?_ (fun a S => ?_)
          · intro K' hK'
            go_wp2_with fail
            exact hK'
          refine st_any S (Op.buildSlice 56 1 #[(0, .const (.int .i64 0))]) (fun u w'' => ∃ b, u = .slice (some ⟨b, 0, none⟩) 1 1 ∧ Grow (ext (ext (ext (ext ((ext ((ext (ext (ext (ext ((ext ((ext (ext ((ext (ext (w.alloc (.cells #[.slice (some ⟨vg, 0, none⟩) 9 vc] 43)) x) x1).alloc (.cells #[.int .i64 0, .bool false, .slice (some ⟨m39, 0, none⟩) 17 17, .slice ba38 bn38 bc38] 50)) x2) x4).alloc (.cells ((List.take 2 C41.toList ++ .int .u8 3 :: .int .u8 1 :: List.drop 4 C41.toList).toArray) 23)) x5).alloc (.cells #[.int .i64 1, .bool false, .slice (some ⟨B41, 0, none⟩) 2 cap41, .slice (some ⟨E41, 0, none⟩) 1 1] 50)) xq10) x6) x7) y).alloc (.cells #[.slice (some ⟨vg, 0, none⟩) 8 vc] 43)) x8).alloc (.cells #[.slice (some ⟨s149, 0, none⟩) 3 3] 43)) x9) x12) x13) x14) w'' ∧ Sl (fun _ => True) w'' (.slice (some ⟨b, 0, none⟩) 1 1) [(0 : Int)]) rfl rfl (want_at (g := 25) (d := 195) (b := true) S rfl rfl rfl rfl rfl) (by simp [execOp, resolve, ev_c, ev_f]) ?_ (fun u w'' a h S => ?_)
          · intro K' hK'
            go_wp2_with (fail)
            exact hK' _ _ ⟨_, rfl, Gw.h, sl_zero1 (heap_newE (by simp only [size_ext, alloc_size])) (by rfl)⟩
          obtain ⟨zb, rfl, hg, hzs⟩ := h
          obtain ⟨x15, rfl⟩ := ext_of_grow hg
          clear hg
          refine st_any S (Op.call { callee := Callee.value (Operand.func 27), args := #[.const (.slice ra rn rc), .const (.slice (some ⟨zb, 0, none⟩) 1 1)], argTypes := #[56, 56] }) (fun u w'' => u = .bool true ∧ Grow (ext (ext (ext (ext (ext ((ext ((ext (ext (ext (ext ((ext ((ext (ext ((ext (ext (w.alloc (.cells #[.slice (some ⟨vg, 0, none⟩) 9 vc] 43)) x) x1).alloc (.cells #[.int .i64 0, .bool false, .slice (some ⟨m39, 0, none⟩) 17 17, .slice ba38 bn38 bc38] 50)) x2) x4).alloc (.cells ((List.take 2 C41.toList ++ .int .u8 3 :: .int .u8 1 :: List.drop 4 C41.toList).toArray) 23)) x5).alloc (.cells #[.int .i64 1, .bool false, .slice (some ⟨B41, 0, none⟩) 2 cap41, .slice (some ⟨E41, 0, none⟩) 1 1] 50)) xq10) x6) x7) y).alloc (.cells #[.slice (some ⟨vg, 0, none⟩) 8 vc] 43)) x8).alloc (.cells #[.slice (some ⟨s149, 0, none⟩) 3 3] 43)) x9) x12) x13) x14) x15) w'') rfl rfl (want_at (g := 25) (d := 195) (b := true) S rfl rfl rfl rfl rfl) (by simp [execOp, resolve, S.g 196 rfl, S.g 197 rfl, ev_c, ev_f]) ?_ (fun u w'' a h S => ?_)
          · intro K' hK'
            go_wp2_with ((go_at_call 27; ((with_reducible refine (SameInts_at _ _ [0] [0] _ (hrs.mono Gw.h) (hzs.mono Gw.h) rfl).mono ?_); rintro e w1 ⟨rfl, hb1⟩; obtain ⟨x1, rfl⟩ := ext_of_grow hb1; clear hb1)))
            exact hK' _ _ ⟨rfl, Gw.h⟩
          obtain ⟨rfl, hg⟩ := h
          obtain ⟨x16, rfl⟩ := ext_of_grow hg
          clear hg
          refine st_val S (Op.pick (.const (.bool true)) (.const (.bool true)) (.const (.bool false))) (.bool true) rfl rfl (wanted_none rfl _) (by simp [execOp, resolve, S.g 195 rfl, S.g 198 rfl, ev_c, ev_f]) ?_ (fun a S => ?_)
          · intro K' hK'
            go_wp2_with fail
            exact hK'
          refine st_val S (Op.move (.const (.bool true))) (.bool true) rfl rfl (wanted_none rfl _) (by simp [execOp, resolve, S.g 199 rfl, ev_c, ev_f]) ?_ (fun a S => ?_)
          · intro K' hK'
            go_wp2_with fail
            exact hK'
          refine st_any S (Op.call { callee := Callee.value (Operand.func 16), args := #[], argTypes := #[] }) (fun u w'' => u = .bool true ∧ Grow (ext (ext (ext (ext (ext ((ext ((ext (ext (ext (ext ((ext ((ext (ext ((ext (ext (w.alloc (.cells #[.slice (some ⟨vg, 0, none⟩) 9 vc] 43)) x) x1).alloc (.cells #[.int .i64 0, .bool false, .slice (some ⟨m39, 0, none⟩) 17 17, .slice ba38 bn38 bc38] 50)) x2) x4).alloc (.cells ((List.take 2 C41.toList ++ .int .u8 3 :: .int .u8 1 :: List.drop 4 C41.toList).toArray) 23)) x5).alloc (.cells #[.int .i64 1, .bool false, .slice (some ⟨B41, 0, none⟩) 2 cap41, .slice (some ⟨E41, 0, none⟩) 1 1] 50)) xq10) x6) x7) y).alloc (.cells #[.slice (some ⟨vg, 0, none⟩) 8 vc] 43)) x8).alloc (.cells #[.slice (some ⟨s149, 0, none⟩) 3 3] 43)) x9) x12) x13) x14) x15) w'') rfl rfl (want_at (g := 30) (d := 200) (b := true) S rfl rfl rfl rfl rfl) (by simp [execOp, resolve, ev_c, ev_f]) ?_ (fun u w'' a h S => ?_)
          · intro K' hK'
            go_wp2_with ((go_at_call 16; ((with_reducible refine (law08_alive _).mono ?_); rintro e w1 ⟨rfl, hb1⟩; obtain ⟨x1, rfl⟩ := ext_of_grow hb1; clear hb1)))
            exact hK' _ _ ⟨rfl, Gw.h⟩
          obtain ⟨rfl, hg⟩ := h
          obtain ⟨x17, rfl⟩ := ext_of_grow hg
          clear hg
          refine st_val S (Op.pick (.const (.bool true)) (.const (.bool true)) (.const (.bool false))) (.bool true) rfl rfl (wanted_none rfl _) (by simp [execOp, resolve, S.g 200 rfl, S.g 201 rfl, ev_c, ev_f]) ?_ (fun a S => ?_)
          · intro K' hK'
            go_wp2_with fail
            exact hK'
          refine st_val S (Op.assign (.const (.bool true))) (.bool true) rfl rfl (wanted_none rfl _) (by simp [execOp, resolve, S.g 202 rfl, ev_c, ev_f]) ?_ (fun a S => ?_)
          · intro K' hK'
            go_wp2_with fail
            exact hK'
          replace S : St8 a 203 _ := ⟨S.size, S.defers, Lk.cons (S.g 0 rfl) (Lk.nil)⟩
          obtain ⟨f, hf, hfk⟩ := st_frame S
          have h0 : f 0 = .bool true := hfk 0 _ rfl
          clear hfk S
          subst hf
          rw [show (List.range 203).map f = [f 0, f 1, f 2, f 3, f 4, f 5, f 6, f 7, f 8, f 9, f 10, f 11, f 12, f 13, f 14, f 15, f 16, f 17, f 18, f 19, f 20, f 21, f 22, f 23, f 24, f 25, f 26, f 27, f 28, f 29, f 30, f 31, f 32, f 33, f 34, f 35, f 36, f 37, f 38, f 39, f 40, f 41, f 42, f 43, f 44, f 45, f 46, f 47, f 48, f 49, f 50, f 51, f 52, f 53, f 54, f 55, f 56, f 57, f 58, f 59, f 60, f 61, f 62, f 63, f 64, f 65, f 66, f 67, f 68, f 69, f 70, f 71, f 72, f 73, f 74, f 75, f 76, f 77, f 78, f 79, f 80, f 81, f 82, f 83, f 84, f 85, f 86, f 87, f 88, f 89, f 90, f 91, f 92, f 93, f 94, f 95, f 96, f 97, f 98, f 99, f 100, f 101, f 102, f 103, f 104, f 105, f 106, f 107, f 108, f 109, f 110, f 111, f 112, f 113, f 114, f 115, f 116, f 117, f 118, f 119, f 120, f 121, f 122, f 123, f 124, f 125, f 126, f 127, f 128, f 129, f 130, f 131, f 132, f 133, f 134, f 135, f 136, f 137, f 138, f 139, f 140, f 141, f 142, f 143, f 144, f 145, f 146, f 147, f 148, f 149, f 150, f 151, f 152, f 153, f 154, f 155, f 156, f 157, f 158, f 159, f 160, f 161, f 162, f 163, f 164, f 165, f 166, f 167, f 168, f 169, f 170, f 171, f 172, f 173, f 174, f 175, f 176, f 177, f 178, f 179, f 180, f 181, f 182, f 183, f 184, f 185, f 186, f 187, f 188, f 189, f 190, f 191, f 192, f 193, f 194, f 195, f 196, f 197, f 198, f 199, f 200, f 201, f 202] by kernel_rfl]
          rw [h0]
          clear h0
          go_wp2_with fail
          go_ret
          exact Ret.mk rfl Gw.h
end Go.Proofs.Ythackfblfkpddaa
