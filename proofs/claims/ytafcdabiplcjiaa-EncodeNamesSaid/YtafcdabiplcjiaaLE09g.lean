/- A row of the call's own under its own number: its cells. -/
import Derived.Test.YtafcdabiplcjiaaLE09c
import Derived.Test.YtafcdabiplcjiaaLE09e
namespace Go.Proofs.Ytafcdabiplcjiaa
open Go.RowKit
set_option linter.unusedSimpArgs false
set_option linter.unusedVariables false

theorem Own.rows8 {α : Type} [Rp α] {F : Nat → Prop} {base : Nat} {e : TypeId} {w : World} {v : Value} {xs : List α} (h : Own F base e w v xs) (hx : xs ≠ []) :
    ∃ g cap C, v = .slice (some ⟨g, 0, none⟩) xs.length cap ∧ base ≤ g ∧ w.heap[g]? = some (.cells C e) ∧ xs.length ≤ cap ∧ cap ≤ 9223372036854775807 ∧ Rows8 (fun k => (F k ∨ base ≤ k) ∧ k ≠ g) w C xs := by
  obtain ⟨G, css, hG, hl, hR, hn, hown⟩ := h
  rcases id hown.2 with ⟨rfl, h0⟩ | ⟨g, cap, cur, rfl, hbg, hg, hnc, hcm, hcs, htake⟩
  · exact absurd (List.eq_nil_of_length_eq_zero h0) hx
  · refine ⟨g, cap, cur, rfl, hbg, hg, hnc, (by unfold maxLen at hcm; exact hcm), fun i hi => ⟨css[i]'(by omega), Rp.wide (fun k hk hGk => ⟨(hG k hGk).2.1, fun e => (hG k hGk).2.2 (by rw [e]; rfl)⟩) (hR i hi (by omega)), fun j hj => ?_⟩⟩
    have h1 := hown.cells (g := g) rfl (i * Rp.sz α + j) _ (flatten_cells xs css hl hR i (by omega) j hj)
    rw [Addr.add_lit] at h1
    simp only [World.cell?, hg, Nat.zero_add] at h1
    simpa using h1
theorem split_at {W : World} {x : Ext} {R : Nat} {o : Obj} (h : (ext W x).heap[R]? = some o) (hR : W.heap.size ≤ R) : ∃ xa xb, R = W.heap.size + xa.k ∧ ext W x = ext ((ext W xa).alloc o) xb := by
  have hlt : R < (W.heap ++ x.x).size := (Array.getElem?_eq_some_iff.1 h).1
  have hsz : (W.heap ++ x.x).size = W.heap.size + x.x.size := by simp
  refine ⟨⟨0, x.x.extract 0 (R - W.heap.size)⟩, ⟨x.d, x.x.extract (R - W.heap.size + 1) x.x.size⟩, by unfold Ext.k; simp; omega, ?_⟩
  simp only [ext, World.alloc]
  congr 1
  have h' : (W.heap ++ x.x)[R]? = some o := h
  apply Array.ext_getElem?
  intro i
  by_cases h1 : i < W.heap.size
  · rw [Array.getElem?_append_left h1, Array.getElem?_append_left (by simp; omega), Array.getElem?_push, if_neg (by simp; omega), Array.getElem?_append_left h1]
  · rw [Array.getElem?_append_right (by omega)]
    by_cases h2 : i < R
    · rw [Array.getElem?_append_left (by simp; omega), Array.getElem?_push, if_neg (by simp; omega), Array.getElem?_append_right (by omega), Array.getElem?_extract, if_pos (by omega)]; congr 1; omega
    · by_cases h3 : i = R
      · subst h3
        rw [Array.getElem?_append_left (by simp; omega), Array.getElem?_push, if_pos (by simp; omega)]
        rw [Array.getElem?_append_right (by omega)] at h'; exact h'
      · rw [Array.getElem?_append_right (by simp; omega), Array.getElem?_extract]
        simp only [Array.size_push, Array.size_append, Array.size_extract]
        by_cases h4 : i < W.heap.size + x.x.size
        · rw [if_pos (by omega)]; congr 1; omega
        · rw [if_neg (by omega), Array.getElem?_eq_none (by omega)]

/-- The print of the number that has ten bytes. -/
def bigSt : St := ⟨2, kP, kR, ⟨1, -9223372036854775808, kP⟩, 0⟩
/-- The 24 blocks when i of them have their 23 statements, and block i has k. -/
def bigB (i k : Nat) : List Bk := (List.range 24).map fun j => ⟨List.replicate (if j < i then 23 else if j = i then k else 0) bigSt, ju3⟩
theorem bigB_zero : List.replicate (23 + 1) (⟨[], ju3⟩ : Bk) = bigB 0 0 := by
  apply List.ext_getElem
  · simp [bigB]
  · intro j h1 h2
    rw [List.getElem_replicate]
    simp only [bigB, List.getElem_map, List.getElem_range, Nat.not_lt_zero, if_false, ite_self, List.replicate_zero]
theorem bigB_len (i k : Nat) : (bigB i k).length = 24 := by simp [bigB]
theorem bigB_next (i : Nat) : bigB i 23 = bigB (i + 1) 0 := by
  apply List.ext_getElem
  · simp [bigB]
  · intro j h1 h2
    simp only [bigB, List.getElem_map, List.getElem_range]
    by_cases a : j < i
    · rw [if_pos a, if_pos (by omega)]
    · by_cases b : j = i
      · rw [if_neg a, if_pos b, if_pos (by omega)]
      · rw [if_neg a, if_neg b, if_neg (by omega), ite_self]
theorem bigB_get {i k : Nat} (h : i < 24) : (bigB i k)[i]? = some ⟨List.replicate k bigSt, ju3⟩ := by
  simp [bigB, List.getElem?_range h]
theorem bigB_set {i k : Nat} (h : i < 24) : (bigB i k).set i ⟨List.replicate (k + 1) bigSt, ju3⟩ = bigB i (k + 1) := by
  apply List.ext_getElem
  · simp [bigB]
  · intro j h1 h2
    rw [List.getElem_set]
    simp only [bigB, List.getElem_map, List.getElem_range]
    by_cases b : i = j
    · subst b; simp
    · have b' : ¬ j = i := fun e => b e.symm
      simp only [if_neg b, if_neg b']
theorem Rows8.keep {α : Type} [Rp α] {F : Nat → Prop} {w w' : World} {C : Array Value} {xs : List α} (h : Rows8 F w C xs) (ha : Agr F w w') : Rows8 F w' C xs := fun i hi => by
  obtain ⟨cs, hR, hc⟩ := h i hi
  exact ⟨cs, Rp.keep ha hR, hc⟩
/-- Block i among the 24: its statements. -/
theorem big_at {F : Nat → Prop} {w : World} {C : Array Value} {i k : Nat} (h : Rows8 F w C (bigB i k)) (hi : i < 24) :
    ∃ sa sc, C[i * 14]? = some (.slice sa k sc) ∧ i * 14 < C.size ∧ Sl F w (.slice sa k sc) (List.replicate k bigSt) := by
  obtain ⟨cs, hR, hc⟩ := h i (by rw [bigB_len]; exact hi)
  have hb : (bigB i k)[i]'(by rw [bigB_len]; exact hi) = ⟨List.replicate k bigSt, ju3⟩ := (List.getElem?_eq_some_iff.1 (bigB_get (k := k) hi)).2
  rw [hb] at hR
  obtain ⟨sa, sn, sc, ja, jn, jc, rfl, _, hs, _⟩ := hR
  have hn := hs.len
  rw [List.length_replicate] at hn
  subst hn
  have h0 : C[i * 14]? = some (.slice sa sn sc) := hc 0 (Nat.zero_lt_succ _)
  exact ⟨sa, sc, h0, (Array.getElem?_eq_some_iff.1 h0).1, hs⟩
theorem big_put {F : Nat → Prop} {w : World} {C : Array Value} {i k : Nat} {a : Option Addr} {n c : Nat} (h : Rows8 F w C (bigB i k)) (hi : i < 24) (hs : Sl F w (.slice a n c) (List.replicate (k + 1) bigSt)) :
    Rows8 F w (C.setIfInBounds (i * 14) (.slice a n c)) (bigB i (k + 1)) := by
  rw [← bigB_set hi]
  refine h.put i (by rw [bigB_len]; exact hi) 0 (by decide) (.slice a n c) ?_
  intro cs hR
  have hb : (bigB i k)[i]'(by rw [bigB_len]; exact hi) = ⟨List.replicate k bigSt, ju3⟩ := (List.getElem?_eq_some_iff.1 (bigB_get (k := k) hi)).2
  rw [hb] at hR
  obtain ⟨sa, sn, sc, ja, jn, jc, rfl, hw, _, h2⟩ := hR
  exact ⟨_, _, _, ja, jn, jc, rfl, ⟨ju3_wf⟩, hs, h2⟩
/-- A round: the statements of block i get one more, in memory of the call's own. -/
theorem big_step {W : World} {e T : TypeId} {C : Array Value} {xd x' : Ext} {i k base : Nat} {ta : Option Addr} {tn tc : Nat} {F : Nat → Prop} (hi : i < 24) (hF : ∀ k, F k → k ≠ W.heap.size) (hF2 : ∀ k, base ≤ k → F k) (hb : W.heap.size < base)
    (hR : Rows8 F (ext (W.alloc (.cells C e)) xd) C (bigB i k)) (ho : Own (fun _ => False) base T (ext (ext (W.alloc (.cells C e)) xd) x') (.slice ta tn tc) (List.replicate k bigSt ++ [bigSt])) :
    ∃ x'', ext (ext (W.alloc (.cells (C.setIfInBounds (i * 14) (.slice ta tn tc)) e)) xd) x' = ext (W.alloc (.cells (C.setIfInBounds (i * 14) (.slice ta tn tc)) e)) x'' ∧
      Rows8 F (ext (ext (W.alloc (.cells (C.setIfInBounds (i * 14) (.slice ta tn tc)) e)) xd) x') (C.setIfInBounds (i * 14) (.slice ta tn tc)) (bigB i (k + 1)) := by
  obtain ⟨x'', he⟩ := ext_of_grow (W := W.alloc (.cells (C.setIfInBounds (i * 14) (.slice ta tn tc)) e)) (Grow.ext (Grow.ext (Grow.refl _) xd) x')
  refine ⟨x'', he, ?_⟩
  have ha : Agr F (ext (W.alloc (.cells C e)) xd) (ext (ext (W.alloc (.cells (C.setIfInBounds (i * 14) (.slice ta tn tc)) e)) xd) x') :=
    (((AgrS.refl F W).alloc (fun h => hF _ h rfl) (.cells C e) (.cells (C.setIfInBounds (i * 14) (.slice ta tn tc)) e)).ext xd).agr.grow (Grow.ext (Grow.refl _) x')
  refine big_put (hR.keep ha) hi ?_
  have h2 := Sl.keep (((((AgrS.refl (Fr (fun _ => False) base) W).alloc (fun h => by rcases h with h | h; exact h; omega) (.cells C e) (.cells (C.setIfInBounds (i * 14) (.slice ta tn tc)) e)).ext xd).ext x')).agr ho.sl
  rw [← List.replicate_succ'] at h2
  exact h2.wide (fun k _ h => by rcases h with h | h; exact h.elim; exact hF2 k h)
def bigF : Fn := ⟨0, false, [⟨1, 0⟩], bigB 16 0⟩
def fitsF : Fn := ⟨0, false, [⟨1, 0⟩], [⟨[bigSt], ju3⟩]⟩
theorem big_ok : fnR bigF = 18 ∧ prR ⟨[bigF]⟩ = 18 := by decide +kernel
theorem fits_ok : fnR fitsF = 0 ∧ (fnL fitsF).length = 19 := by decide +kernel
theorem none_ok : prR ⟨[]⟩ = 8 ∧ prR ⟨List.replicate 9 fn0⟩ = 4 ∧ fnR fn0 = 8 := by decide +kernel
theorem bigSt_wf : bigSt.wf := by
  refine ⟨?_, ⟨?_, ?_⟩, ⟨?_, ?_, ?_, ⟨?_, ?_, ⟨?_, ?_⟩⟩, ⟨?_, ?_, ⟨?_, ?_⟩⟩, ⟨?_, ?_⟩⟩, ⟨?_, ?_, ⟨?_, ?_⟩⟩, ?_⟩ <;> first | (unfold U8; decide) | (unfold I64; decide)
structure QC where
  C : Array Value
  x : Ext
instance : Inhabited QC := ⟨⟨#[], default⟩⟩
/-- Nine functions that make() gives. -/
theorem zero9 : ∃ (R : List Fn) (i0 : TypeInfo) (z0 : Value), (Try.prog).info? 25 = some i0 ∧ i0.zero = some z0 ∧ i0.size = 4 ∧ i0.bytes = 64 ∧ Hid (prR ⟨R⟩ = 4) ∧
    Hid (∀ (w' : World) (B g : Nat), w'.ownsRow B 25 4 (.slice (some ⟨g, 0, none⟩) 9 9) 9 (madeCells z0.cells (9 * 4)).toList → Sl (fun _ => True) w' (.slice (some ⟨g, 0, none⟩) 9 9) R) := by
  obtain ⟨i0, z0, hi, hz, hsize, hby, hzs⟩ := slTv_Fn.ex
  refine ⟨List.replicate 9 fn0, i0, z0, hi, hz, hsize, hby, Lib.hid none_ok.2.1, Lib.hid (fun w' B g h => ?_)⟩
  have e : i0.zero = some (.agg #[.int .i64 0, .bool false, .slice none 0 0, .slice none 0 0]) := by
    have h := (by kernel_rfl : ((Try.prog).info? 25).map (fun i => i.zero) = some (some (.agg #[.int .i64 0, .bool false, .slice none 0 0, .slice none 0 0])))
    rw [hi] at h; simpa using h
  rw [hz] at e; injection e with e; subst e
  have hO : Own (α := Fn) (fun _ => False) B 25 w' (.slice (some ⟨g, 0, none⟩) 9 9) (List.replicate 9 fn0) := by
    refine ⟨fun _ => False, List.replicate 9 [.int .i64 0, .bool false, .slice none 0 0, .slice none 0 0], fun _ h => h.elim, by rw [List.length_replicate, List.length_replicate], (fun i h h' => ?_), by rw [List.length_replicate]; omega, ?_⟩
    · rw [List.getElem_replicate, List.getElem_replicate]
      exact ⟨none, 0, 0, none, 0, 0, rfl, ⟨by unfold I64; decide⟩, Sl.nil _ _, Sl.nil _ _⟩
    · rw [List.length_replicate]
      have z : (List.replicate 9 [Value.int .i64 0, .bool false, .slice none 0 0, .slice none 0 0]).flatten = (madeCells (Value.agg #[.int .i64 0, .bool false, .slice none 0 0, .slice none 0 0]).cells (9 * 4)).toList := by kernel_rfl
      rw [z]; exact h
  exact hO.sl.wide (fun _ _ _ => trivial)
/-- One element in a block. -/
theorem sl_in {α : Type} [Rp α] {w : World} {g : Nat} {e : TypeId} {cs : List Value} {x : α} (hg : w.heap[g]? = some (.cells cs.toArray e)) (hR : Rp.R (fun _ => True) w x cs) : Sl (fun _ => True) w (.slice (some ⟨g, 0, none⟩) 1 1) [x] := by
  refine Sl.one trivial (Array.getElem?_eq_some_iff.1 hg).1 (by omega) (by omega) hR (fun j hj => ?_)
  simp only [World.cell?, hg, Nat.zero_add]
  simp [hj]
theorem sl_ty1 {w : World} {g : Nat} {e : TypeId} (hg : w.heap[g]? = some (.cells #[.int .u8 1, .int .u8 0] e)) : Sl (fun _ => True) w (.slice (some ⟨g, 0, none⟩) 1 1) [(⟨1, 0⟩ : Ty)] :=
  sl_in (cs := [.int .u8 1, .int .u8 0]) hg ⟨rfl, ⟨by unfold U8; dsimp only; omega, by unfold U8; dsimp only; omega⟩⟩
theorem sl_st1 {w : World} {g : Nat} {e : TypeId} (hg : w.heap[g]? = some (.cells bigSt.c.toArray e)) : Sl (fun _ => True) w (.slice (some ⟨g, 0, none⟩) 1 1) [bigSt] :=
  sl_in (cs := bigSt.c) hg ⟨rfl, bigSt_wf⟩
theorem sl_bk1 {w : World} {g : Nat} {e : TypeId} {a : Option Addr} {n c : Nat} (hs : Sl (fun _ => True) w (.slice a n c) [bigSt]) (hg : w.heap[g]? = some (.cells (Bk.c ⟨[bigSt], ju3⟩ (.slice a n c) (.slice none 0 0)).toArray e)) : Sl (fun _ => True) w (.slice (some ⟨g, 0, none⟩) 1 1) [(⟨[bigSt], ju3⟩ : Bk)] :=
  sl_in hg ⟨a, n, c, none, 0, 0, rfl, ⟨ju3_wf⟩, hs, Sl.nil _ _⟩
theorem sl_fn1 {w : World} {g : Nat} {e : TypeId} {F : Nat → Prop} {a b : Option Addr} {n c m d : Nat} (hl : Sl (fun _ => True) w (.slice a n c) [(⟨1, 0⟩ : Ty)]) (hb : Sl F w (.slice b m d) (bigB 16 0)) (hg : w.heap[g]? = some (.cells #[.int .i64 0, .bool false, .slice a n c, .slice b m d] e)) : Sl (fun _ => True) w (.slice (some ⟨g, 0, none⟩) 1 1) [bigF] :=
  sl_in (cs := [.int .i64 0, .bool false, .slice a n c, .slice b m d]) hg ⟨a, n, c, b, m, d, rfl, ⟨by unfold bigF I64; dsimp only; omega⟩, hl, hb.wide (fun _ _ _ => trivial)⟩
end Go.Proofs.Ytafcdabiplcjiaa
