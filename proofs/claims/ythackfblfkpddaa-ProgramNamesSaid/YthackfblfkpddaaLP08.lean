/- Layer 8: leaf and calls with more parameters and arguments. -/
import Derived.Test.YthackfblfkpddaaL08l
import Derived.Test.YthackfblfkpddaaTD
namespace Go.Proofs.Ythackfblfkpddaa
open Go.RowKit
set_option linter.unusedSimpArgs false
set_option linter.unusedVariables false

/-- A row of the call's own as a slice. -/
theorem sl_row {α : Type} [Rp α] {F : Nat → Prop} {w : World} {b : Nat} {e : TypeId} {cells : Array Value} (xs : List α) (css : List (List Value)) (hl : css.length = xs.length) (hR : ∀ i (h : i < xs.length) (h' : i < css.length), Rp.R F w xs[i] css[i]) (hF : F b)
    (hg : w.heap[b]? = some (.cells cells e)) (hc : cells.toList = css.flatten) (hm : xs.length ≤ 9223372036854775807) : Sl F w (.slice (some ⟨b, 0, none⟩) xs.length xs.length) xs := by
  refine ⟨_, xs.length, rfl, Nat.le_refl _, hm, (fun h => by cases h), fun i hi => ⟨b, 0, rfl, hF, (Array.getElem?_eq_some_iff.1 hg).1, css[i]'(by omega), hR i hi (by omega), fun j hj => ?_⟩⟩
  have h := flatten_cells xs css hl hR i (by omega) j hj
  simp only [World.cell?, hg, Nat.zero_add]
  rw [← Array.getElem?_toList, hc]
  exact h
theorem slT_ty8 : SlT Try.prog 24 23 2 2 := SlT.mk' (z := .agg #[.int .u8 0, .int .u8 0]) Try.underlying24 (by kernel_rfl) rfl (by omega)
theorem slT_opd8 : SlT Try.prog 40 28 5 32 := SlT.mk' (z := .agg #[.int .u8 0, .int .i64 0, .int .i64 0, .bool false, .int .u8 0]) Try.underlying40 (by kernel_rfl) rfl (by omega)
theorem Own.open8 {α : Type} [Rp α] {F : Nat → Prop} {base : Nat} {e : TypeId} {w : World} {v : Value} {xs : List α} (h : Own F base e w v xs) : ∃ a n cap, v = .slice a n cap ∧ Hid (n = xs.length) ∧ n ≤ 140737488355328 ∧ Own F base e w (.slice a n cap) xs := by
  obtain ⟨a, cap, rfl, hl⟩ := h.shape
  exact ⟨a, _, cap, rfl, Lib.hid rfl, hl, h⟩
theorem own_row {α : Type} [Rp α] {base g cap : Nat} {e : TypeId} {w : World} {cur : Array Value} (xs : List α) (css : List (List Value)) (hl : css.length = xs.length) (hR : ∀ i (h : i < xs.length) (h' : i < css.length), Rp.R (fun _ => False) w xs[i] css[i])
    (hb : base ≤ g) (hg : w.heap[g]? = some (.cells cur e)) (hcap : xs.length ≤ cap) (hcm : cap ≤ maxLen) (hcs : cur.size = cap * Rp.sz α) (ht : cur.toList.take (xs.length * Rp.sz α) = css.flatten) (hn : xs.length ≤ 140737488355328) (hf : css.flatten.length = xs.length * Rp.sz α) : Own (fun _ => False) base e w (.slice (some ⟨g, 0, none⟩) xs.length cap) xs :=
  ⟨fun _ => False, css, fun _ h => h.elim, hl, hR, hn, ⟨hf, .inr ⟨g, cap, cur, rfl, hb, hg, hcap, hcm, hcs, ht⟩⟩⟩
abbrev leafF (n : Int) (ts : List Ty) : Fn := ⟨n, false, ts, [exEnd]⟩
abbrev t10 : Ty := ⟨1, 0⟩
abbrev exCells : Array Value := #[.slice none 0 0, .int .u8 3, .int .u8 0, .int .i64 0, .int .i64 0, .bool false, .int .u8 0, .int .i64 0, .int .i64 0, .int .i64 0, .slice none 0 0, .int .i64 0, .bool false, .int .u8 0]
set_option maxRecDepth 100000 in
set_option maxHeartbeats 2000000 in
theorem law08_leaf1 (w : World) : Calls Try.prog 22 #[.int .i64 1] w (RetP w fun v w' => ∃ C cap, 2 ≤ cap ∧ cap ≤ 9223372036854775807 ∧ v = (leafF 1 [t10, t10]).v (.slice (some ⟨w.heap.size + 1 + 1 + 1 + 1 + 1, 0, none⟩) 2 cap) (.slice (some ⟨w.heap.size + 1 + 1, 0, none⟩) 1 1) ∧
    w'.heap[w.heap.size + 1 + 1 + 1 + 1 + 1]? = some (.cells C 23) ∧ Rows8 (fun _ => True) w C [t10, t10] ∧ w'.heap[w.heap.size + 1 + 1]? = some (.cells exCells 63)) := by
  go_enter Try.func22, Try.ntmps22
  go_wp2_with fail
  refine wp_loop_rounds 2 ?_
  rw [rounds_succ]
  have hs0 : ∀ W : World, W.heap[w.heap.size + 1]? = some (.cells #[.int .u8 1, .int .u8 0] 23) → Sl (fun _ => True) W (.slice (some ⟨w.heap.size + 1, 0, none⟩) 1 1) [t10] := fun W h => sl_row [t10] [[.int .u8 1, .int .u8 0]] rfl (fun i h1 h2 => by
    obtain rfl : i = 0 := by simpa using h1
    exact ⟨rfl, ty10⟩) trivial h rfl (by decide)
  have hs1 : ∀ W : World, W.heap[w.heap.size + 1 + 1 + 1 + 1]? = some (.cells #[.int .u8 1, .int .u8 0] 23) → Sl (fun _ => True) W (.slice (some ⟨w.heap.size + 1 + 1 + 1 + 1, 0, none⟩) 1 1) [t10] := fun W h => sl_row [t10] [[.int .u8 1, .int .u8 0]] rfl (fun i h1 h2 => by
    obtain rfl : i = 0 := by simpa using h1
    exact ⟨rfl, ty10⟩) trivial h rfl (by decide)
  go_wp2_with (first | (at_builtin; go_must (refine wpList_copy2 (α := Ty) slT_ty8 rfl rfl rfl rfl (hs0 _ (by simp only [hp_alloc, hp_at, hp_ext, hp_drew])) (hs1 _ (by simp only [hp_alloc, hp_at, hp_ext, hp_drew])) (by omega) (by omega) (by omega) (by omega) (by omega) ?_); intro C capC hC1 hC2 HC))
  rw [rounds_succ]
  go_wp2_with fail
  (refine postP_of (by simp only [results, Try.results22]; go_simp <;> rfl) rfl (by (repeat (first | (with_reducible exact Grow.refl _) | assumption | refine Grow.ext ?_ _ | refine Grow.alloc ?_ _ | refine Grow.drew ?_ | refine Grow.setCell ?_ (by first | (simp; done) | (simp; omega)) _ | refine Grow.trans ?_ (by assumption)))) ?_)
  exact ⟨C, capC, hC1, hC2, rfl, by simp only [hp_alloc, hp_at, hp_ext, hp_drew], (fun k hk => by obtain ⟨cs, hr, hc⟩ := HC k hk; exact ⟨cs, hr, hc⟩), by simp only [hp_alloc, hp_at, hp_ext, hp_drew]⟩
set_option maxRecDepth 100000 in
set_option maxHeartbeats 2000000 in
theorem law08_leaf2 (w : World) : Calls Try.prog 22 #[.int .i64 2] w (RetP w fun v w' => ∃ la lc, v = (leafF 2 [t10, t10, t10]).v (.slice la 3 lc) (.slice (some ⟨w.heap.size + 1 + 1, 0, none⟩) 1 1) ∧
    Sl (New w) w' (.slice la 3 lc) [t10, t10, t10] ∧ w'.heap[w.heap.size + 1 + 1]? = some (.cells exCells 63)) := by
  go_enter Try.func22, Try.ntmps22
  go_wp2_with fail
  refine wp_loop_rounds 3 ?_
  rw [rounds_succ]
  go_wp2_with fail
  rename_i hcap
  clear hcap
  have g2 := grownCap_ge w 2 1 23
  have g3 := grownCap_le_maxLen w 2 1 23 (by decide)
  obtain ⟨cap, hcap⟩ : ∃ cap, cap = grownCap w 2 1 23 := ⟨_, rfl⟩
  rw [← hcap] at g2 g3
  unfold grownCap at hcap
  rw [← hcap]
  clear hcap
  have hown : ∀ W : World, W.heap[w.heap.size + 1 + 1 + 1 + 1 + 1]? = some (.cells (#[.int .u8 1, .int .u8 0] ++ (#[.int .u8 1, .int .u8 0] ++ Builtin.zeroCells #[.int .u8 0, .int .u8 0] (cap - 2))) 23) → Own (fun _ => False) (w.heap.size + 1 + 1 + 1 + 1) 23 W (.slice (some ⟨w.heap.size + 1 + 1 + 1 + 1 + 1, 0, none⟩) 2 cap) [t10, t10] := fun W h =>
    own_row [t10, t10] [[.int .u8 1, .int .u8 0], [.int .u8 1, .int .u8 0]] rfl (fun i h1 h2 => by
      obtain rfl | rfl : i = 0 ∨ i = 1 := by simp at h1; omega
      · exact ⟨rfl, ty10⟩
      · exact ⟨rfl, ty10⟩) (by omega) h g2 g3 (by simp [size_zeroCells, sz_ty]; omega) (by simp [sz_ty]) (by decide) rfl
  have h0 := hown ((((((((w.alloc (.cells #[.int .i64 0, .bool false, .slice none 0 0, .slice none 0 0] 50)).alloc (.cells #[.int .u8 1, .int .u8 0] 23)).alloc (.cells exCells 63)).alloc (.cells #[.int .i64 2, .bool false, .slice (some ⟨w.heap.size + 1 + 1 + 1 + 1 + 1, 0, none⟩) 2 cap, .slice (some ⟨w.heap.size + 1 + 1, 0, none⟩) 1 1] 50))).alloc (.cells #[.int .u8 1, .int .u8 0] 23)).alloc (.cells (#[.int .u8 1, .int .u8 0] ++ (#[.int .u8 1, .int .u8 0] ++ Builtin.zeroCells #[.int .u8 0, .int .u8 0] (cap - 2))) 23)).drew) (by simp only [hp_alloc, hp_at, hp_ext, hp_drew])
  obtain ⟨x0, hx0⟩ := ext_of_grow (W := ((((w.alloc (.cells #[.int .i64 0, .bool false, .slice none 0 0, .slice none 0 0] 50)).alloc (.cells #[.int .u8 1, .int .u8 0] 23)).alloc (.cells exCells 63)).alloc (.cells #[.int .i64 2, .bool false, .slice (some ⟨w.heap.size + 1 + 1 + 1 + 1 + 1, 0, none⟩) 2 cap, .slice (some ⟨w.heap.size + 1 + 1, 0, none⟩) 1 1] 50))) (w := (((((((w.alloc (.cells #[.int .i64 0, .bool false, .slice none 0 0, .slice none 0 0] 50)).alloc (.cells #[.int .u8 1, .int .u8 0] 23)).alloc (.cells exCells 63)).alloc (.cells #[.int .i64 2, .bool false, .slice (some ⟨w.heap.size + 1 + 1 + 1 + 1 + 1, 0, none⟩) 2 cap, .slice (some ⟨w.heap.size + 1 + 1, 0, none⟩) 1 1] 50))).alloc (.cells #[.int .u8 1, .int .u8 0] 23)).alloc (.cells (#[.int .u8 1, .int .u8 0] ++ (#[.int .u8 1, .int .u8 0] ++ Builtin.zeroCells #[.int .u8 0, .int .u8 0] (cap - 2))) 23)).drew) (by (repeat (first | (with_reducible exact Grow.refl _) | assumption | refine Grow.ext ?_ _ | refine Grow.alloc ?_ _ | refine Grow.drew ?_ | refine Grow.setCell ?_ (by first | (simp; done) | (simp; omega)) _ | refine Grow.trans ?_ (by assumption))))
  rw [hx0] at h0 ⊢
  clear hx0 hown
  rw [rounds_succ]
  go_wp2_with (first | (at_builtin; go_must (refine wpList_app1 (α := Ty) slT_ty8 rfl rfl rfl h0 (by (repeat (first | (with_reducible exact Grow.refl _) | assumption | refine Grow.ext ?_ _ | refine Grow.alloc ?_ _ | refine Grow.drew ?_ | refine Grow.setCell ?_ (by first | (simp; done) | (simp; omega)) _ | refine Grow.trans ?_ (by assumption)))) (by simp) (by simp; omega) rfl (y := t10) (Gy := fun _ => False) ⟨rfl, ty10⟩ (fun _ h => h.elim) (by (repeat (refine CellsAt.cons (by go_simp) ?_)); exact CellsAt.nil _ _ _) rfl (by decide) (by decide) ?_); intro v' x' hown' hsz' hagr; obtain ⟨la, ln, lc, rfl, Hln, hln, hown'⟩ := hown'.open8))
  obtain rfl : ln = 3 := by have := Hln.out; simpa using this
  rw [rounds_succ]
  go_wp2_with fail
  (refine postP_of (by simp only [results, Try.results22]; go_simp <;> rfl) rfl (by (repeat (first | (with_reducible exact Grow.refl _) | assumption | refine Grow.ext ?_ _ | refine Grow.alloc ?_ _ | refine Grow.drew ?_ | refine Grow.setCell ?_ (by first | (simp; done) | (simp; omega)) _ | refine Grow.trans ?_ (by assumption)))) ?_)
  refine ⟨la, lc, rfl, ?_, by simp only [hp_alloc, hp_at, hp_ext, hp_drew]⟩
  exact ((hown'.sl.wide (F' := New ((((w.alloc (.cells #[.int .i64 0, .bool false, .slice none 0 0, .slice none 0 0] 50)).alloc (.cells #[.int .u8 1, .int .u8 0] 23)).alloc (.cells exCells 63)).alloc (.cells #[.int .i64 2, .bool false, .slice (some ⟨w.heap.size + 1 + 1 + 1 + 1 + 1, 0, none⟩) 2 cap, .slice (some ⟨w.heap.size + 1 + 1, 0, none⟩) 1 1] 50))) (fun k _ hk => by rcases hk with hk | hk; exact hk.elim; unfold New; simp; omega)).keep (agr_new x' (by simp))).wide (fun k _ hk => by unfold New at *; simp at hk; omega)
end Go.Proofs.Ythackfblfkpddaa
