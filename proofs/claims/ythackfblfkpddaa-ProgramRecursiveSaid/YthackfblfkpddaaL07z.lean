/- Arrays of eight marks; the functions that a function calls. -/
import Derived.Test.YthackfblfkpddaaL07g
import Derived.Test.YthackfblfkpddaaOwn
import Derived.Deep.DeepMust
namespace Go.Proofs.Ythackfblfkpddaa
open Go.RowKit
set_option linter.unusedSimpArgs false
set_option linter.unusedVariables false

def b8 (h : Nat → Bool) : Array Value := #[.bool (h 0), .bool (h 1), .bool (h 2), .bool (h 3), .bool (h 4), .bool (h 5), .bool (h 6), .bool (h 7)]
theorem eight {P : Nat → Prop} (h0 : P 0) (h1 : P 1) (h2 : P 2) (h3 : P 3) (h4 : P 4) (h5 : P 5) (h6 : P 6) (h7 : P 7) : ∀ i, i < 8 → P i := by
  intro i hi
  rcases i with _ | _ | _ | _ | _ | _ | _ | _ | i
  all_goals first | assumption | omega
theorem b8_size (h : Nat → Bool) : (b8 h).size = 8 := rfl
theorem b8_get (h : Nat → Bool) : ∀ i, i < 8 → (b8 h)[i]? = some (.bool (h i)) := eight rfl rfl rfl rfl rfl rfl rfl rfl
theorem b8_set (h : Nat → Bool) (i : Nat) (v : Bool) (hi : i < 8) : (b8 h).setIfInBounds i (.bool v) = b8 (fun k => if k = i then v else h k) := by
  apply Array.ext_getElem?
  intro k
  rw [Array.getElem?_setIfInBounds]
  by_cases hk : k < 8
  · by_cases e : i = k
    · subst e; rw [if_pos rfl, if_pos (by rw [b8_size]; exact hi), b8_get _ _ hk]; simp
    · rw [if_neg e, b8_get _ _ hk, b8_get _ _ hk, if_neg (Ne.symm e)]
  · rw [if_neg (by omega), Array.getElem?_eq_none (by rw [b8_size]; omega), Array.getElem?_eq_none (by rw [b8_size]; omega)]
theorem b8_nil : (#[.bool false, .bool false, .bool false, .bool false, .bool false, .bool false, .bool false, .bool false] : Array Value) = b8 (fun _ => false) := rfl
theorem row_b8 {W : World} {h : Nat → Bool} {t : TypeId} {b : Nat} [e : EqW b W] : row? (W.alloc (.cells (b8 h) t)) b 0 8 = some (b8 h).toList := row_alloc_at
theorem put_b8 {W : World} {h h0 : Nat → Bool} {t : TypeId} {b : Nat} [e : EqW b W] : put? (W.alloc (.cells (b8 h0) t)) b 0 (b8 h).toList = some (W.alloc (.cells (b8 h) t)) := by
  rw [put_alloc_at]
  have e1 : (b8 h0).toList.drop (0 + (b8 h).toList.length) = [] := List.drop_eq_nil_of_le (by show (b8 h0).toList.length ≤ 0 + 8; simp [b8_size])
  rw [if_pos ⟨by show 0 + 8 ≤ (b8 h0).size; rw [b8_size]; omega, rfl⟩, e1, List.take_zero, List.nil_append, List.append_nil]
theorem sc_b8 (a : Addr) (h : Nat → Bool) : storeCells a (b8 h).toList 0 = storeRow a (b8 h).toList := rfl
theorem ta_b8 (h : Nat → Bool) : (b8 h).toList.toArray = b8 h := rfl
attribute [go_sem] b8_size
attribute [go_sem high] row_b8 put_b8 sc_b8 ta_b8
theorem index_b8 (w : World) (h : Nat → Bool) : ∀ q, q < 8 → (Instr.index 92 (.agg (b8 h)) (.int .i64 (q : Nat))).run Try.prog w = .ok (.bool (h q)) w := by
  apply eight
  all_goals kernel_rfl

/-- f calls c. -/
def callsTo (f : Fn) (c : Nat) : Bool := f.blocks.any (fun b => decide (b.jump.kind = 4) && decide (b.jump.fn = (c : Int)))
def callsL (f : Fn) : List Int := ((List.range 8).filter (callsTo f)).map (fun c : Nat => (c : Int))
theorem any_snoc {α : Type} {p : α → Bool} {xs : List α} {k : Nat} {x : α} (h : Hid (xs[k]? = some x)) : (xs.take (k + 1)).any p = ((xs.take k).any p || p x) := by
  rw [List.take_add_one, h.out]; simp [List.any_append]
theorem ju_fn8 {j : Ju} (h : juErr j = 0) (h4 : j.kind = 4) : 0 ≤ j.fn ∧ j.fn < 8 := by
  have h := (juErr_iff j).1 h; unfold juOk juPre at h; grind
theorem fn_made {f : Fn} (h : fnErr f = 0) : madeB f = true := by
  unfold fnErr at h
  split at h
  · cases h
  · split at h
    · cases h
    · simpa using (by assumption : ¬ madeB f = false)
theorem slT_int : SlT Try.prog 56 3 1 8 := SlT.mk' (z := .int .i64 0) Try.underlying56 (by kernel_rfl) rfl (by omega)
def callsUpto (f : Fn) (q : Nat) : List Int := ((List.range q).filter (callsTo f)).map (fun c : Nat => (c : Int))
theorem callsUpto_succ (f : Fn) (q : Nat) : callsUpto f (q + 1) = callsUpto f q ++ (if callsTo f q = true then [(q : Int)] else []) := by
  unfold callsUpto; rw [List.range_succ, List.filter_append, List.map_append]
  cases h : callsTo f q <;> simp [h]
theorem callsUpto_len (f : Fn) (q : Nat) : (callsUpto f q).length ≤ q := by
  unfold callsUpto; rw [List.length_map]
  have := List.length_filter_le (callsTo f) (List.range q); simpa using this
set_option maxRecDepth 100000 in
set_option maxHeartbeats 2000000 in
theorem fnshape_Calls (f : Fn) (v1 v2 : Value) (w : World) {F F' : Nat → Prop} (hf : f.wf) (h1 : Sl F w v1 f.locals) (h2 : Sl F' w v2 f.blocks) (hok : fnErr f = 0) :
    Calls Try.prog 18 #[f.v v1 v2] w (RetP w fun v w' => ∃ u, v = .tuple #[u, .int .i64 0] ∧ Sl (Fresh w) w' u (callsL f)) := by
  obtain ⟨a, n, cap, rfl, Hn, hm, hcap, hcm, h1⟩ := h1.open
  obtain ⟨a2, n2, cap2, rfl, Hn2, hm2, hcap2, hcm2, h2⟩ := h2.open
  have Hok := Lib.hid hok
  have hok' : (fnErr f != 0) = false := by simp [hok]
  clear hok
  have Hmd := Lib.hid (fn_made Hok.out)
  have e1 := b8_nil
  go_enter Try.func18, Try.ntmps18
  go_wp2_with (first | (go_at_call 45; ((with_reducible refine (fnshape_Check f _ _ _ hf (h1.mono (by (repeat (first | (with_reducible exact Grow.refl _) | assumption | refine Grow.ext ?_ _ | refine Grow.alloc ?_ _ | refine Grow.drew ?_ | refine Grow.setCell ?_ (by first | (simp; done) | (simp; omega)) _ | refine Grow.trans ?_ (by assumption))))) (h2.mono (by (repeat (first | (with_reducible exact Grow.refl _) | assumption | refine Grow.ext ?_ _ | refine Grow.alloc ?_ _ | refine Grow.drew ?_ | refine Grow.setCell ?_ (by first | (simp; done) | (simp; omega)) _ | refine Grow.trans ?_ (by assumption)))))).mono ?_); rintro e w1 ⟨rfl, hb1⟩; obtain ⟨x1, rfl⟩ := ext_of_grow hb1; clear hb1)))
  clear e1
  go_loopw [19] (fun i wr => ∃ (k : Nat) (h : Nat → Bool) (y : Ext), k ≤ n2 ∧ i = .int .i64 k ∧ wr = ext ((ext (w.alloc (Obj.cells #[.int .i64 f.params, .bool f.uns, .slice a n cap, .slice a2 n2 cap2] 50)) x1).alloc (.cells (b8 h) 92)) y ∧ Hid (∀ c : Nat, c < 8 → h c = (f.blocks.take k).any (fun b => decide (b.jump.kind = 4) && decide (b.jump.fn = (c : Int))))) (fun i _ => n2 - (intOf i).toNat)
  case atStart => exact ⟨0, (fun _ => false), _, Nat.zero_le _, rfl, (ext_self _).symm, Lib.hid (fun c _ => rfl)⟩
  case round =>
    obtain ⟨k, h, y, hk, rfl, rfl, Hh⟩ := hrel
    by_cases hlt : k < n2
    · obtain ⟨b_b, off_b, b, b_stmts_a, b_stmts_n, b_stmts_c, b_jump_args_a, b_jump_args_n, b_jump_args_c, rfl, ⟨Hg_b, hl_b, hw_b, b_stmts, b_jump_args, c_b0, c_b1, c_b2, c_b3, c_b4, c_b5, c_b6, c_b7, c_b8, c_b9, c_b10, c_b11, c_b12, c_b13, r_b0, r_b1, r_b2, r_b3, r_b4⟩⟩ := h2.bk k hlt
      have Hju := Lib.hid (made_at Hmd.out Hg_b).2
      by_cases h4 : b.jump.kind = 4
      · have H4 := Lib.hid h4
        have Hfn := Lib.hid (ju_fn8 Hju.out h4)
        obtain ⟨stmts, ⟨kind, oa, fn, next, els, args, dest⟩⟩ := b
        obtain ⟨q, rfl⟩ := Int.eq_ofNat_of_zero_le Hfn.out.1
        have hq : q < 8 := by have := Hfn.out.2; simp at this; omega
        replace h4 : (kind == 4) = true := by have := H4.out; simp; exact this
        have hg := fun h => b8_get h q hq
        have hs := fun h => b8_set h q true hq
        go_wp2_with fail
        go_roundw
        case rel =>
          refine ⟨k + 1, (fun z => decide (z = q) || h z), ex4 (by omega) (by go_num) (by (repeat (first | (with_reducible exact Grow.refl _) | assumption | refine Grow.ext ?_ _ | refine Grow.alloc ?_ _ | refine Grow.drew ?_ | refine Grow.setCell ?_ (by first | (simp; done) | (simp; omega)) _ | refine Grow.trans ?_ (by assumption)))) (Lib.hid (fun c hc => ?_))⟩
          rw [any_snoc Hg_b, ← Hh.out c hc]
          have e4 : kind = 4 := H4.out
          by_cases e : c = q
          · subst e; simp [e4]
          · have : ¬ (q : Int) = (c : Int) := by omega
            simp [e, this]
        case measure => simp [intOf]; omega
      · have H4 := Lib.hid h4
        replace h4 : (b.jump.kind == 4) = false := by simp [h4]
        go_wp2_with fail
        go_roundw
        case rel => exact ⟨k + 1, h, ex4 (by omega) (by go_num) (by (repeat (first | (with_reducible exact Grow.refl _) | assumption | refine Grow.ext ?_ _ | refine Grow.alloc ?_ _ | refine Grow.drew ?_ | refine Grow.setCell ?_ (by first | (simp; done) | (simp; omega)) _ | refine Grow.trans ?_ (by assumption)))) (Lib.hid (fun c hc => by rw [any_snoc Hg_b, ← Hh.out c hc]; simp [H4.out]))⟩
        case measure => simp [intOf]; omega
    · have Hc : Hid (∀ c : Nat, c < 8 → h c = callsTo f c) := Lib.hid (fun c hc => by rw [Hh.out c hc, List.take_of_length_le (by rw [← Hn2.out]; omega)]; rfl)
      clear Hh
      go_wp2_with fail
      go_loopw [8, 33] (fun tv i wr => ∃ (q : Nat), q ≤ 8 ∧ i = .int .i64 q ∧ (∃ x, wr = ext (ext ((ext (w.alloc (Obj.cells #[.int .i64 f.params, .bool f.uns, .slice a n cap, .slice a2 n2 cap2] 50)) x1).alloc (.cells (b8 h) 92)) y) x) ∧ Own (fun _ => False) ((ext ((ext (w.alloc (Obj.cells #[.int .i64 f.params, .bool f.uns, .slice a n cap, .slice a2 n2 cap2] 50)) x1).alloc (.cells (b8 h) 92)) y)).heap.size 3 wr tv (callsUpto f q)) (fun _ i _ => 8 - (intOf i).toNat)
      case atStart => exact ⟨0, Nat.zero_le _, rfl, ⟨_, (ext_self _).symm⟩, Own.nil _ _ _ _⟩
      case round =>
        obtain ⟨q, hq, rfl, ⟨x, rfl⟩, hown⟩ := hrel
        by_cases hlt3 : q < 8
        · have hix : ∀ w', (Instr.index 92 (.agg (b8 h)) (.int .i64 (q : Nat))).run Try.prog w' = .ok (.bool (h q)) w' := fun w' => index_b8 w' h q hlt3
          have Hcq := Lib.hid (Hc.out q hlt3)
          have hln := callsUpto_len f q
          cases hhq : h q
          · have Hu : Hid (callsUpto f (q + 1) = callsUpto f q) := Lib.hid (by rw [callsUpto_succ, ← Hcq.out, hhq]; simp)
            go_wp2_with fail
            go_roundw
            case rel => exact ⟨q + 1, by omega, by go_num, ⟨_, rfl⟩, by rw [Hu.out]; exact hown⟩
            case measure => simp [intOf]; omega
          · have Hu : Hid (callsUpto f (q + 1) = callsUpto f q ++ [(q : Int)]) := Lib.hid (by rw [callsUpto_succ, ← Hcq.out, hhq]; simp)
            have hw64 : I64 (q : Int) := ⟨by omega, by omega⟩
            go_wp2_with (first | (at_builtin; go_must (refine wpList_app1 (α := Int) slT_int rfl rfl rfl hown (by (repeat (first | (with_reducible exact Grow.refl _) | assumption | refine Grow.ext ?_ _ | refine Grow.alloc ?_ _ | refine Grow.drew ?_ | refine Grow.setCell ?_ (by first | (simp; done) | (simp; omega)) _ | refine Grow.trans ?_ (by assumption)))) (Nat.le_refl _) (by simp; omega) rfl (y := (q : Int)) (Gy := fun _ => False) ⟨rfl, hw64⟩ (fun _ h => h.elim) (by (repeat (refine CellsAt.cons (by go_simp) ?_)); exact CellsAt.nil _ _ _) (by simp [Value.oneCell']) (by omega) (by omega) ?_); intro tv' x' hown' hsz' hagr))
            go_roundw
            case rel => exact ⟨q + 1, by omega, by go_num, ⟨x', rfl⟩, by rw [Hu.out]; exact hown'⟩
            case measure => simp [intOf]; omega
        · obtain rfl : q = 8 := by omega
          go_wp2_with fail
          refine postP_of (by simp only [results, Try.results18]; go_simp <;> rfl) rfl (by (repeat (first | (with_reducible exact Grow.refl _) | assumption | refine Grow.ext ?_ _ | refine Grow.alloc ?_ _ | refine Grow.drew ?_ | refine Grow.setCell ?_ (by first | (simp; done) | (simp; omega)) _ | refine Grow.trans ?_ (by assumption)))) ⟨_, rfl, ?_⟩
          exact hown.sl.wide (fun b hb hF => by rcases hF with hF | hF; exact hF.elim; exact Or.inr (by simp only [size_ext, alloc_size] at hF; omega))
end Go.Proofs.Ythackfblfkpddaa
