/- Layer 45: what the first world holds; the library's numbers and cuts; the place that a text is. -/
import Derived.Test.YtjllaogechckoaaDoorW45s
import Derived.WalkSmall
namespace Go.Proofs.YtjllaogechckoaaDoor
open Go.RowKit
set_option linter.unusedSimpArgs false
set_option linter.unusedVariables false

/-- What the first world holds: the table of powers of ten, two errors, a bound. -/
structure Laid (w : World) : Prop where
  tab : Lib.TabIs Tryd.prog w "internal/strconv.uint64pow10" .u64 Lib.pow10Tab
  syn : ∃ te pe, w.cell? ⟨2, 0, none⟩ = some (.iface te pe)
  rng : ∃ te pe, w.cell? ⟨3, 0, none⟩ = some (.iface te pe)
  max : ∃ m, w.cell? ⟨1, 0, none⟩ = some (.int .i64 m)
theorem grow_cell {w w' : World} (g : Grow w w') {b : Nat} {v : Value} (h : w.cell? ⟨b, 0, none⟩ = some v) : w'.cell? ⟨b, 0, none⟩ = some v := by
  have hb := lt_of_cell h
  unfold World.cell? at h ⊢
  dsimp only at h ⊢
  rw [g.block b hb]; exact h
theorem Laid.grow {w w' : World} (h : Laid w) (g : Grow w w') : Laid w' := by
  refine ⟨?_, ?_, ?_, ?_⟩
  · have ht := h.tab
    have hc := ht.cell (g := 0) (by kernel_rfl) 0 (by decide)
    exact var?_below (B := w.heap.size) (g := 0) g (by kernel_rfl) (lt_of_cell hc) ht
  · obtain ⟨te, pe, h⟩ := h.syn; exact ⟨te, pe, grow_cell g h⟩
  · obtain ⟨te, pe, h⟩ := h.rng; exact ⟨te, pe, grow_cell g h⟩
  · obtain ⟨m, h⟩ := h.max; exact ⟨m, grow_cell g h⟩
theorem grow_bytes (w : World) (e : TypeId) (t : ByteArray) : Grow w (Lib.bytesWorld w e t) := by
  unfold Lib.bytesWorld
  exact Lib.below_freeze ((Below.drew (Below.refl _ w)).alloc (Nat.le_refl _) _) (p := ⟨w.heap.size, _, none⟩) (Nat.le_refl _) 1
theorem str_toList (l : Bs) : (str l).data.toList = l := by simp
theorem atoi_c (l : Bs) (hl : l.length ≤ 281474976710656) (w : World) (hw : Laid w) : Calls Tryd.prog 73 #[.string (str l)] w (RetP w fun v w' => ∃ n e, v = .tuple #[.int .i64 n, e] ∧ ((Lib.atoiAll l = .ok n ∧ e = .nilIface) ∨ ((∀ m, Lib.atoiAll l ≠ .ok m) ∧ ∃ N, e = .iface 126 (.pointer (some ⟨N, 0, none⟩))))) := by
  have hd := str_toList l
  have hsz : (str l).size = l.length := str_size l
  cases h : Lib.atoiAll l with
  | ok v =>
    refine (Tryd.strconv_Atoi_ok (str l) (by rw [hsz]; omega) v (by rw [hd]; exact h) w).mono ?_
    rintro e w' ⟨rfl, hw'⟩
    refine ⟨_, rfl, ⟨v, _, rfl, Or.inl ⟨rfl, rfl⟩⟩, ?_⟩
    rcases hw' with rfl | ⟨t, rfl⟩
    · exact Grow.refl _
    · exact grow_bytes w _ t
  | «syntax» =>
    obtain ⟨te, pe, hc⟩ := hw.syn
    refine (Tryd.strconv_Atoi_syntax (str l) (by rw [hsz]; omega) (by rw [hd]; exact h) _ w hc (Or.inr ⟨te, pe, rfl⟩)).mono ?_
    rintro e w' ⟨N, rfl, _, _, hb⟩
    exact ⟨_, rfl, ⟨_, _, rfl, Or.inr ⟨fun m hm => (by cases hm), N, rfl⟩⟩, hb⟩
  | range =>
    obtain ⟨te, pe, hc⟩ := hw.rng
    refine (Tryd.strconv_Atoi_range (str l) (by rw [hsz]; omega) (by rw [hd]; exact h) _ w hc (Or.inr ⟨te, pe, rfl⟩)).mono ?_
    rintro e w' ⟨N, rfl, _, _, hb⟩
    exact ⟨_, rfl, ⟨_, _, rfl, Or.inr ⟨fun m hm => (by cases hm), N, rfl⟩⟩, hb⟩
theorem parse_c (l : Bs) (hl : l.length ≤ 281474976710656) (w : World) (hw : Laid w) : Calls Tryd.prog 56 #[.string (str l), .int .i64 10, .int .i64 64] w (RetP w fun v w' => ∃ n e, v = .tuple #[.int .i64 n, e] ∧ ((Lib.parseIntB 64 l = .ok n ∧ e = .nilIface) ∨ ((∀ m, Lib.parseIntB 64 l ≠ .ok m) ∧ ∃ N, e = .iface 126 (.pointer (some ⟨N, 0, none⟩))))) := by
  have hd := str_toList l
  have hsz : (str l).size = l.length := str_size l
  cases h : Lib.parseIntB 64 l with
  | ok v =>
    refine (Tryd.strconv_ParseInt_10_at64_ok (str l) (by rw [hsz]; omega) v (by rw [hd]; exact h) w).mono ?_
    rintro e w' ⟨rfl, hw'⟩
    refine ⟨_, rfl, ⟨v, _, rfl, Or.inl ⟨rfl, rfl⟩⟩, ?_⟩
    rcases hw' with rfl | ⟨t, rfl⟩
    · exact Grow.refl _
    · exact grow_bytes w _ t
  | «syntax» =>
    obtain ⟨te, pe, hc⟩ := hw.syn
    refine (Tryd.strconv_ParseInt_10_at64_syntax (str l) (by rw [hsz]; omega) (by rw [hd]; exact h) _ w hc (Or.inr ⟨te, pe, rfl⟩)).mono ?_
    rintro e w' ⟨N, rfl, _, _, hb⟩
    exact ⟨_, rfl, ⟨_, _, rfl, Or.inr ⟨fun m hm => (by cases hm), N, rfl⟩⟩, hb⟩
  | range =>
    obtain ⟨te, pe, hc⟩ := hw.rng
    refine (Tryd.strconv_ParseInt_10_at64_range (str l) (by rw [hsz]; omega) (by rw [hd]; exact h) _ w hc (Or.inr ⟨te, pe, rfl⟩)).mono ?_
    rintro e w' ⟨N, rfl, _, _, hb⟩
    exact ⟨_, rfl, ⟨_, _, rfl, Or.inr ⟨fun m hm => (by cases hm), N, rfl⟩⟩, hb⟩
theorem grow_grow (w : World) (k : Nat) (os : Array Obj) : Grow w (Go.Sort.grow (w.drewN k) os) := by
  refine ⟨rfl, rfl, rfl, ?_, ?_⟩
  · show w.heap.size ≤ (w.heap ++ os).size; simp
  · intro j hj
    show (w.heap ++ os)[j]? = w.heap[j]?
    rw [Array.getElem?_append_left hj]
theorem fmt_c (n : Int) (h : I64 n) (w : World) (hw : Laid w) : Calls Tryd.prog 38 #[.int .i64 n, .int .i64 10] w (Ret w (.string (str (Lib.itoa n)))) := by
  refine (Tryd.strconv_FormatInt_10 n h.1 h.2 w hw.tab).mono ?_
  rintro e w' ⟨rfl, k, os, rfl⟩
  exact ⟨rfl, grow_grow w k os⟩
theorem itoa_c (n : Int) (h : I64 n) (w : World) (hw : Laid w) : Calls Tryd.prog 26 #[.int .i64 n] w (Ret w (.string (str (Lib.itoa n)))) := by
  refine (Tryd.strconv_Itoa n h.1 h.2 w hw.tab).mono ?_
  rintro e w' ⟨rfl, k, os, rfl⟩
  exact ⟨rfl, grow_grow w k os⟩
theorem cut_c (s sep : Bs) (hs : s.length < 4294967281) (w : World) (hw : Laid w) : Calls Tryd.prog 44 #[.string (str s), .string (str sep)] w (Ret w (.tuple #[.string (str (Lib.cut s sep).1), .string (str (Lib.cut s sep).2.1), .bool (Lib.cut s sep).2.2])) := by
  obtain ⟨m, hm⟩ := hw.max
  have hd := str_toList s
  have hd2 := str_toList sep
  refine (Tryd.strings_Cut (str s) (str sep) m w (by rw [str_size]; exact hs) hm).mono ?_
  rw [hd, hd2]
  rintro e w' ⟨rfl, n, rfl⟩
  exact ⟨rfl, ⟨rfl, rfl, rfl, Nat.le_refl _, fun _ _ => rfl⟩⟩
theorem cutP_c (s p : Bs) (w : World) : Calls Tryd.prog 71 #[.string (str s), .string (str p)] w (Ret w (.tuple #[.string (str (Lib.trimPrefix s p)), .bool (Lib.hasPrefix s p)])) := by
  refine (Tryd.strings_CutPrefix (str s) (str p) w).mono ?_
  rw [str_toList s, str_toList p]
  rintro e w' ⟨rfl, rfl⟩
  exact ⟨rfl, Grow.refl _⟩
theorem cutS_c (s p : Bs) (hs : s.length < 4294967281) (w : World) : Calls Tryd.prog 72 #[.string (str s), .string (str p)] w (Ret w (.tuple #[.string (str (Lib.trimSuffix s p)), .bool (Lib.hasSuffix s p)])) := by
  refine (Tryd.strings_CutSuffix (str s) (str p) w (by rw [str_size]; omega)).mono ?_
  rw [str_toList s, str_toList p]
  rintro e w' ⟨rfl, rfl⟩
  exact ⟨rfl, Grow.refl _⟩
theorem hasP_c (s p : Bs) (w : World) : Calls Tryd.prog 57 #[.string (str s), .string (str p)] w (Ret w (.bool (Lib.hasPrefix s p))) := by
  refine (Tryd.strings_HasPrefix (str s) (str p) w).mono ?_
  rw [str_toList s, str_toList p]
  rintro e w' ⟨rfl, rfl⟩
  exact ⟨rfl, Grow.refl _⟩
end Go.Proofs.YtjllaogechckoaaDoor
