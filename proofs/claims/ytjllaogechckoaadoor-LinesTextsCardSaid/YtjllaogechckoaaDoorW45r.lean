/- Layer 45: all places; the place that a text is, by the reference. -/
import Derived.Test.YtjllaogechckoaaDoorW45q
import Derived.Test.YtjllaogechckoaaDoorV45b
namespace Go.Proofs.YtjllaogechckoaaDoor
open Go.RowKit
set_option linter.unusedSimpArgs false
set_option linter.unusedVariables false

instance : Rp Pl where
  sz := 3
  R _ _ t cs := cs = t.c ∧ t.wf
  len h := by obtain ⟨rfl, _⟩ := h; rfl
  keep _ h := h
  wide _ h := h
theorem sz_pl : Rp.sz Pl = 3 := rfl
attribute [go_sem] sz_pl
structure AtPl (F : Nat → Prop) (w : World) (ts : List Pl) (i : Nat) (b off : Nat) (x : Pl) : Prop where
  g : Hid (ts[i]? = some x)
  lt : LtW b w
  wf : x.wf
  r0 : row? w b (off + i * 3) 3 = some [.int .i64 x.loc, .bool x.deref, .int .u8 x.field]
theorem Sl.pl {F : Nat → Prop} {w : World} {a : Option Addr} {n cap : Nat} {ts : List Pl} (h : Sl F w (.slice a n cap) ts) (i : Nat) (hi : i < n) : ∃ b off x, a = some ⟨b, off, none⟩ ∧ AtPl F w ts i b off x := by
  obtain ⟨b, off, x, cs, ha, hx, hlt, ⟨rfl, hw⟩, hc⟩ := h.get i hi
  exact ⟨b, off, x, ha, ⟨hx, hlt, hw, row_of_cells hc 0 3 (by simp)⟩⟩
theorem slT_pl : SlT Tryd.prog 99 24 3 16 := SlT.mk' (z := .agg #[.int .i64 0, .bool false, .int .u8 0]) Tryd.underlying99 (by kernel_rfl) rfl (by omega)
theorem pl_one : ∀ (G : Nat → Prop) (w : World) (x : Pl) cs, Rp.R G w x cs → ∀ u ∈ cs, u.oneCell' = true := by
  rintro G w x cs ⟨rfl, _⟩ u hu
  exact List.all_eq_true.1 (show x.c.all (·.oneCell') = true from rfl) u hu
def plPair (l f : Nat) : List Pl := [⟨l, false, f⟩, ⟨l, true, f⟩]
def plPre (l f : Nat) : List Pl := ((List.range l).flatMap fun l => (List.range 3).flatMap (plPair l)) ++ (List.range f).flatMap (plPair l)
theorem plPre_0 : plPre 0 0 = [] := rfl
theorem plPre_next (l : Nat) : plPre l 3 = plPre (l + 1) 0 := by
  unfold plPre; rw [List.range_succ (n := l), List.flatMap_append]; simp
theorem plPre_succ (l f : Nat) : plPre l (f + 1) = plPre l f ++ plPair l f := by
  unfold plPre; rw [List.range_succ (n := f), List.flatMap_append]; simp
theorem plPre_all : plPre 16 0 = allPl := by decide +kernel
theorem plPre_len' : ∀ l : Fin 17, ∀ f : Fin 4, (plPre l.val f.val).length = l.val * 6 + f.val * 2 := by decide +kernel
theorem plPre_len {l f : Nat} (h1 : l ≤ 16) (h2 : f ≤ 3) : (plPre l f).length = l * 6 + f * 2 := plPre_len' ⟨l, by omega⟩ ⟨f, by omega⟩
set_option maxRecDepth 100000 in
set_option maxHeartbeats 2000000 in
theorem ref03_All (w : World) : Calls Tryd.prog 61 #[] w (RetP w fun v w' => ∃ a c, v = .slice a 96 c ∧ Sl (Frs w) w' v allPl) := by
  go_enter Tryd.func61, Tryd.ntmps61
  go_wp2_with fail
  go_loopw [1, 2] (fun ov lv wr => ∃ (k : Nat) (x : Ext), lv = .int .i64 k ∧ k ≤ 16 ∧ wr = ext w x ∧ Own (fun _ => False) w.heap.size 24 wr ov (plPre k 0)) (fun _ lv _ => 16 - (intOf lv).toNat)
  case atStart => exact ⟨0, _, rfl, by omega, (ext_self _).symm, Own.nil _ _ _ _⟩
  case round =>
    obtain ⟨k, x, rfl, hk, rfl, hown⟩ := hrel
    obtain ⟨a, m, c, rfl, Hm, hm, hown⟩ := hown.open
    by_cases hlt : k < 16
    · have hd : decide ((k : Int) < 16) = true := decide_eq_true (by omega)
      go_wp2_with fail
      go_loopw [1, 3] (fun ov fv wr => ∃ (j : Nat) (y : Ext), fv = .int .u8 j ∧ j ≤ 3 ∧ wr = ext w y ∧ Own (fun _ => False) w.heap.size 24 wr ov (plPre k j)) (fun _ fv _ => 3 - (intOf fv).toNat)
      case atStart => exact ⟨0, x, rfl, by omega, rfl, hown⟩
      case round =>
        obtain ⟨j, y, rfl, hj, rfl, hown2⟩ := hrel
        obtain ⟨a2, m2, c2, rfl, Hm2, hm2, hown2⟩ := hown2.open
        by_cases hlt2 : j < 3
        · have hpl := plPre_len (l := k) (f := j) (by omega) (by omega)
          have Hs := Lib.hid (plPre_succ k j)
          obtain ⟨R, HR⟩ : ∃ R, Hid (plPre k j = R) := ⟨_, Lib.hid rfl⟩
          rw [HR.out] at hown2 hpl Hm2
          go_wp2_with (first | (at_builtin; go_must (refine wpList_appS (α := Pl) (W := w) slT_pl pl_one rfl rfl rfl rfl (by (repeat (first | (with_reducible exact Grow.refl _) | assumption | refine Grow.ext ?_ _ | refine Grow.alloc ?_ _ | refine Grow.drew ?_ | refine Grow.setCell ?_ (by first | (simp; done) | (simp; omega)) _ | refine Grow.trans ?_ (by assumption)))) (Nat.le_refl _) (by first | omega | (simp only [size_ext, alloc_size, drew_size]; omega)) (hown2.mono (by (repeat (first | (with_reducible exact Grow.refl _) | assumption | refine Grow.ext ?_ _ | refine Grow.alloc ?_ _ | refine Grow.drew ?_ | refine Grow.setCell ?_ (by first | (simp; done) | (simp; omega)) _ | refine Grow.trans ?_ (by assumption))))) (ys := plPair k j) (Sl.two (F := fun _ => True) (x := (⟨k, false, j⟩ : Pl)) (y := (⟨k, true, j⟩ : Pl)) (cs := [.int .i64 k, .bool false, .int .u8 j]) (ds := [.int .i64 k, .bool true, .int .u8 j]) trivial (by first | (simp; done) | (simp; omega)) (by omega) (by omega) ⟨rfl, ⟨by unfold I64; dsimp only; omega, by unfold U8; dsimp only; omega⟩⟩ (by (repeat (refine CellsAt.cons (by go_simp) ?_)); exact CellsAt.nil _ _ _) ⟨rfl, ⟨by unfold I64; dsimp only; omega, by unfold U8; dsimp only; omega⟩⟩ (by (repeat (refine CellsAt.cons (by go_simp) ?_)); exact CellsAt.nil _ _ _)) (Gy := fun _ => False) (fun _ _ h => h) (fun _ h => h.elim) (by omega) (by omega) ?_); intro v3 w3 hg3 _ hown3; obtain ⟨x3, rfl⟩ := ext_of_grow hg3; clear hg3))
          refine ⟨⟨j + 1, x3, by go_num, by omega, rfl, by rw [Hs.out, HR.out]; exact hown3⟩, by simp [intOf]; omega⟩
        · obtain rfl : 3 = j := by omega
          rw [plPre_next] at hown2
          go_wp2_with fail
          refine ⟨⟨k + 1, y, by go_num, by omega, rfl, hown2⟩, by simp [intOf]; omega⟩
    · obtain rfl : 16 = k := by omega
      rw [plPre_all] at hown
      go_wp2_with fail
      have hn : m = 96 := Hm.out.trans (by rw [plPre_len (by omega) (by omega)])
      subst hn
      refine postP_of (by simp only [results, Tryd.results61]; go_simp <;> rfl) rfl (by (repeat (first | (with_reducible exact Grow.refl _) | assumption | refine Grow.ext ?_ _ | refine Grow.alloc ?_ _ | refine Grow.drew ?_ | refine Grow.setCell ?_ (by first | (simp; done) | (simp; omega)) _ | refine Grow.trans ?_ (by assumption)))) ⟨_, _, rfl, hown.sl.wide (fun q _ h => by rcases h with h | h; exact h.elim; exact h)⟩
end Go.Proofs.YtjllaogechckoaaDoor
