/- Layer 14: the law TypingNames. Printed by gen14n.py. -/
import Derived.Test.YthackfblfkpddaaLN14b
import Derived.Test.YthackfblfkpddaaLA14
import Derived.Test.YthackfblfkpddaaQT45
import Derived.Test.YthackfblfkpddaaTD
import Derived.Deep.DeepCutAuto
import Derived.Deep.CutBlock
namespace Go.Proofs.Ythackfblfkpddaa
open Go.RowKit
set_option linter.unusedSimpArgs false
set_option linter.unusedVariables false

abbrev shTs : List Ty := [⟨1, 0⟩, ⟨3, 2⟩, ⟨5, 1⟩, ⟨2, 0⟩]
abbrev shObj : Obj := .cells #[.int .u8 1, .int .u8 0, .int .u8 3, .int .u8 2, .int .u8 5, .int .u8 1, .int .u8 2, .int .u8 0] 23
theorem sh_at {w : World} {b : Nat} (hg : w.heap[b]? = some shObj) : Sl (fun _ => True) w (.slice (some ⟨b, 0, none⟩) 4 4) shTs :=
  sl_of shTs [[.int .u8 1, .int .u8 0], [.int .u8 3, .int .u8 2], [.int .u8 5, .int .u8 1], [.int .u8 2, .int .u8 0]] rfl (fun i h h' => by
    obtain rfl | rfl | rfl | rfl : i = 0 ∨ i = 1 ∨ i = 2 ∨ i = 3 := by simp at h; omega
    · exact ty_R 1 0 (by constructor <;> decide) u0
    · exact ty_R 3 2 (by constructor <;> decide) (by constructor <;> decide)
    · exact ty_R 5 1 (by constructor <;> decide) (by constructor <;> decide)
    · exact ty_R 2 0 (by constructor <;> decide) u0) trivial hg rfl (by simp)
theorem sh_rv (r : Rv) (t : Ty) (e : Int) (v : Value) (w : World) {F : Nat → Prop} (hw : r.wf) (h : rvalueTy shTs r = (t, e)) (hv : Sl F w v shTs) :
    Calls Try.prog 6 #[v, r.v] w (Ret w (.tuple #[t.v, .int .i64 e])) := by
  have := typing_Rvalue v shTs r w hv hw; rw [h] at this; exact this
theorem sh_st (s : St) (e : Int) (v : Value) (w : World) {F : Nat → Prop} (hw : s.wf) (h : stmtErr shTs s = e) (hv : Sl F w v shTs) :
    Calls Try.prog 9 #[v, s.v] w (Ret w (.int .i64 e)) := by
  have := typing_Stmt v shTs s w hv hw; rw [h] at this; exact this
set_option maxHeartbeats 400000 in
theorem law14_number (n : Int) (w : World) : Calls Try.prog 8 #[.int .i64 n] w (Ret w (Opd.v ⟨1, n, ⟨0, false, 0⟩⟩)) := by
  go_enter Try.func8, Try.ntmps8
  go_wp2
  all_goals ((try simp only [Exit.inBlock, Exit.then]); refine post_of (by simp only [results, Try.results8]; go_simp; rfl) rfl (by (repeat (first | (with_reducible exact Grow.refl _) | assumption | refine Grow.ext ?_ _ | refine Grow.alloc ?_ _ | refine Grow.drew ?_ | refine Grow.setCell ?_ (by first | (simp; done) | (simp; omega)) _ | refine Grow.trans ?_ (by assumption)))) ?_)
  all_goals rfl
theorem u8d {n : Int} (h : decide (0 ≤ n ∧ n ≤ 255) = true) : U8 n := by simpa [U8] using h
theorem i64d {n : Int} (h : decide (-9223372036854775808 ≤ n ∧ n ≤ 9223372036854775807) = true) : I64 n := by simpa [I64] using h
theorem pl_wfd {p : Pl} (h1 : decide (-9223372036854775808 ≤ p.loc ∧ p.loc ≤ 9223372036854775807) = true) (h2 : decide (0 ≤ p.field ∧ p.field ≤ 255) = true) : p.wf := ⟨i64d h1, u8d h2⟩
theorem opd_wfd {o : Opd} (h0 : decide (0 ≤ o.kind ∧ o.kind ≤ 255) = true) (h1 : decide (-9223372036854775808 ≤ o.n ∧ o.n ≤ 9223372036854775807) = true) (h2 : decide (-9223372036854775808 ≤ o.pl.loc ∧ o.pl.loc ≤ 9223372036854775807) = true) (h3 : decide (0 ≤ o.pl.field ∧ o.pl.field ≤ 255) = true) : o.wf := ⟨u8d h0, i64d h1, pl_wfd h2 h3⟩

abbrev nr0 : Rv := ⟨4, 0, 1, ⟨0, 0, ⟨0, false, 0⟩⟩, ⟨0, 0, ⟨0, false, 0⟩⟩, ⟨1, true, 2⟩⟩
theorem nr0_wf : nr0.wf := ⟨u8d (by decide), u8d (by decide), u8d (by decide), opd_wfd (by decide) (by decide) (by decide) (by decide), opd_wfd (by decide) (by decide) (by decide) (by decide), pl_wfd (by decide) (by decide)⟩
theorem nr0_e : rvalueTy shTs nr0 = (⟨3, 1⟩, 0) := by decide +kernel
abbrev nr1 : Rv := ⟨4, 0, 2, ⟨0, 0, ⟨0, false, 0⟩⟩, ⟨0, 0, ⟨0, false, 0⟩⟩, ⟨1, true, 2⟩⟩
theorem nr1_wf : nr1.wf := ⟨u8d (by decide), u8d (by decide), u8d (by decide), opd_wfd (by decide) (by decide) (by decide) (by decide), opd_wfd (by decide) (by decide) (by decide) (by decide), pl_wfd (by decide) (by decide)⟩
theorem nr1_e : rvalueTy shTs nr1 = (⟨0, 0⟩, 42) := by decide +kernel
abbrev nr2 : Rv := ⟨4, 0, 3, ⟨0, 0, ⟨0, false, 0⟩⟩, ⟨0, 0, ⟨0, false, 0⟩⟩, ⟨1, true, 2⟩⟩
theorem nr2_wf : nr2.wf := ⟨u8d (by decide), u8d (by decide), u8d (by decide), opd_wfd (by decide) (by decide) (by decide) (by decide), opd_wfd (by decide) (by decide) (by decide) (by decide), pl_wfd (by decide) (by decide)⟩
theorem nr2_e : rvalueTy shTs nr2 = (⟨0, 0⟩, 42) := by decide +kernel
abbrev nr3 : Rv := ⟨5, 0, 0, ⟨0, 0, ⟨0, false, 0⟩⟩, ⟨0, 0, ⟨0, false, 0⟩⟩, ⟨1, true, 2⟩⟩
theorem nr3_wf : nr3.wf := ⟨u8d (by decide), u8d (by decide), u8d (by decide), opd_wfd (by decide) (by decide) (by decide) (by decide), opd_wfd (by decide) (by decide) (by decide) (by decide), pl_wfd (by decide) (by decide)⟩
theorem nr3_e : rvalueTy shTs nr3 = (⟨5, 1⟩, 0) := by decide +kernel
abbrev nr4 : Rv := ⟨4, 0, 1, ⟨0, 0, ⟨0, false, 0⟩⟩, ⟨0, 0, ⟨0, false, 0⟩⟩, ⟨1, false, 0⟩⟩
theorem nr4_wf : nr4.wf := ⟨u8d (by decide), u8d (by decide), u8d (by decide), opd_wfd (by decide) (by decide) (by decide) (by decide), opd_wfd (by decide) (by decide) (by decide) (by decide), pl_wfd (by decide) (by decide)⟩
theorem nr4_e : rvalueTy shTs nr4 = (⟨0, 0⟩, 42) := by decide +kernel
abbrev nr5 : Rv := ⟨5, 0, 0, ⟨0, 0, ⟨0, false, 0⟩⟩, ⟨0, 0, ⟨0, false, 0⟩⟩, ⟨2, false, 0⟩⟩
theorem nr5_wf : nr5.wf := ⟨u8d (by decide), u8d (by decide), u8d (by decide), opd_wfd (by decide) (by decide) (by decide) (by decide), opd_wfd (by decide) (by decide) (by decide) (by decide), pl_wfd (by decide) (by decide)⟩
theorem nr5_e : rvalueTy shTs nr5 = (⟨0, 0⟩, 42) := by decide +kernel
abbrev nr6 : Rv := ⟨3, 0, 0, ⟨1, 1, ⟨0, false, 0⟩⟩, ⟨2, 0, ⟨1, true, 2⟩⟩, ⟨0, false, 0⟩⟩
theorem nr6_wf : nr6.wf := ⟨u8d (by decide), u8d (by decide), u8d (by decide), opd_wfd (by decide) (by decide) (by decide) (by decide), opd_wfd (by decide) (by decide) (by decide) (by decide), pl_wfd (by decide) (by decide)⟩
theorem nr6_e : rvalueTy shTs nr6 = (⟨2, 0⟩, 0) := by decide +kernel
abbrev nr7 : Rv := ⟨2, 5, 0, ⟨2, 0, ⟨1, true, 2⟩⟩, ⟨1, 2, ⟨0, false, 0⟩⟩, ⟨0, false, 0⟩⟩
theorem nr7_wf : nr7.wf := ⟨u8d (by decide), u8d (by decide), u8d (by decide), opd_wfd (by decide) (by decide) (by decide) (by decide), opd_wfd (by decide) (by decide) (by decide) (by decide), pl_wfd (by decide) (by decide)⟩
theorem nr7_e : rvalueTy shTs nr7 = (⟨1, 0⟩, 0) := by decide +kernel
abbrev nr8 : Rv := ⟨3, 0, 0, ⟨1, 1, ⟨0, false, 0⟩⟩, ⟨2, 0, ⟨3, false, 0⟩⟩, ⟨0, false, 0⟩⟩
theorem nr8_wf : nr8.wf := ⟨u8d (by decide), u8d (by decide), u8d (by decide), opd_wfd (by decide) (by decide) (by decide) (by decide), opd_wfd (by decide) (by decide) (by decide) (by decide), pl_wfd (by decide) (by decide)⟩
theorem nr8_e : rvalueTy shTs nr8 = (⟨0, 0⟩, 42) := by decide +kernel
abbrev nr9 : Rv := ⟨2, 1, 0, ⟨2, 0, ⟨3, false, 0⟩⟩, ⟨2, 0, ⟨9, false, 0⟩⟩, ⟨0, false, 0⟩⟩
theorem nr9_wf : nr9.wf := ⟨u8d (by decide), u8d (by decide), u8d (by decide), opd_wfd (by decide) (by decide) (by decide) (by decide), opd_wfd (by decide) (by decide) (by decide) (by decide), pl_wfd (by decide) (by decide)⟩
theorem nr9_e : rvalueTy shTs nr9 = (⟨0, 0⟩, 6) := by decide +kernel
abbrev nr10 : Rv := ⟨1, 0, 0, ⟨3, 0, ⟨1, false, 0⟩⟩, ⟨0, 0, ⟨0, false, 0⟩⟩, ⟨0, false, 0⟩⟩
theorem nr10_wf : nr10.wf := ⟨u8d (by decide), u8d (by decide), u8d (by decide), opd_wfd (by decide) (by decide) (by decide) (by decide), opd_wfd (by decide) (by decide) (by decide) (by decide), pl_wfd (by decide) (by decide)⟩
theorem nr10_e : rvalueTy shTs nr10 = (⟨0, 0⟩, 42) := by decide +kernel
abbrev nrn : Rv := ⟨1, 0, 0, ⟨0, 0, ⟨0, false, 0⟩⟩, ⟨0, 0, ⟨0, false, 0⟩⟩, ⟨0, false, 0⟩⟩
theorem nrn_wf : nrn.wf := ⟨u8d (by decide), u8d (by decide), u8d (by decide), opd_wfd (by decide) (by decide) (by decide) (by decide), opd_wfd (by decide) (by decide) (by decide) (by decide), pl_wfd (by decide) (by decide)⟩
theorem nrn_c (w : World) : Calls Try.prog 6 #[.slice none 0 0, nrn.v] w (Ret w (.tuple #[(⟨0, 0⟩ : Ty).v, .int .i64 8])) := by
  have h := typing_Rvalue (.slice none 0 0) [] nrn w (Sl.nil (fun _ => True) w) nrn_wf
  rw [show rvalueTy [] nrn = (⟨0, 0⟩, 8) by decide +kernel] at h; exact h
abbrev ns0 : St := ⟨1, ⟨1, true, 2⟩, ⟨1, 0, 0, ⟨1, 1, ⟨0, false, 0⟩⟩, ⟨0, 0, ⟨0, false, 0⟩⟩, ⟨0, false, 0⟩⟩, ⟨0, 0, ⟨0, false, 0⟩⟩, 0⟩
theorem ns0_wf : ns0.wf := ⟨u8d (by decide), pl_wfd (by decide) (by decide), ⟨u8d (by decide), u8d (by decide), u8d (by decide), opd_wfd (by decide) (by decide) (by decide) (by decide), opd_wfd (by decide) (by decide) (by decide) (by decide), pl_wfd (by decide) (by decide)⟩, opd_wfd (by decide) (by decide) (by decide) (by decide), i64d (by decide)⟩
theorem ns0_e : stmtErr shTs ns0 = 42 := by decide +kernel
abbrev ns1 : St := ⟨1, ⟨2, true, 0⟩, ⟨1, 0, 0, ⟨1, 1, ⟨0, false, 0⟩⟩, ⟨0, 0, ⟨0, false, 0⟩⟩, ⟨0, false, 0⟩⟩, ⟨0, 0, ⟨0, false, 0⟩⟩, 0⟩
theorem ns1_wf : ns1.wf := ⟨u8d (by decide), pl_wfd (by decide) (by decide), ⟨u8d (by decide), u8d (by decide), u8d (by decide), opd_wfd (by decide) (by decide) (by decide) (by decide), opd_wfd (by decide) (by decide) (by decide) (by decide), pl_wfd (by decide) (by decide)⟩, opd_wfd (by decide) (by decide) (by decide) (by decide), i64d (by decide)⟩
theorem ns1_e : stmtErr shTs ns1 = 0 := by decide +kernel
abbrev ns2 : St := ⟨2, ⟨0, false, 0⟩, ⟨0, 0, 0, ⟨0, 0, ⟨0, false, 0⟩⟩, ⟨0, 0, ⟨0, false, 0⟩⟩, ⟨0, false, 0⟩⟩, ⟨2, 0, ⟨1, true, 2⟩⟩, 0⟩
theorem ns2_wf : ns2.wf := ⟨u8d (by decide), pl_wfd (by decide) (by decide), ⟨u8d (by decide), u8d (by decide), u8d (by decide), opd_wfd (by decide) (by decide) (by decide) (by decide), opd_wfd (by decide) (by decide) (by decide) (by decide), pl_wfd (by decide) (by decide)⟩, opd_wfd (by decide) (by decide) (by decide) (by decide), i64d (by decide)⟩
theorem ns2_e : stmtErr shTs ns2 = 0 := by decide +kernel
abbrev ns3 : St := ⟨4, ⟨0, false, 0⟩, ⟨0, 0, 0, ⟨0, 0, ⟨0, false, 0⟩⟩, ⟨0, 0, ⟨0, false, 0⟩⟩, ⟨0, false, 0⟩⟩, ⟨2, 0, ⟨3, false, 0⟩⟩, 0⟩
theorem ns3_wf : ns3.wf := ⟨u8d (by decide), pl_wfd (by decide) (by decide), ⟨u8d (by decide), u8d (by decide), u8d (by decide), opd_wfd (by decide) (by decide) (by decide) (by decide), opd_wfd (by decide) (by decide) (by decide) (by decide), pl_wfd (by decide) (by decide)⟩, opd_wfd (by decide) (by decide) (by decide) (by decide), i64d (by decide)⟩
theorem ns3_e : stmtErr shTs ns3 = 42 := by decide +kernel
abbrev ns4 : St := ⟨3, ⟨0, false, 0⟩, ⟨0, 0, 0, ⟨0, 0, ⟨0, false, 0⟩⟩, ⟨0, 0, ⟨0, false, 0⟩⟩, ⟨0, false, 0⟩⟩, ⟨0, 0, ⟨0, false, 0⟩⟩, 3⟩
theorem ns4_wf : ns4.wf := ⟨u8d (by decide), pl_wfd (by decide) (by decide), ⟨u8d (by decide), u8d (by decide), u8d (by decide), opd_wfd (by decide) (by decide) (by decide) (by decide), opd_wfd (by decide) (by decide) (by decide) (by decide), pl_wfd (by decide) (by decide)⟩, opd_wfd (by decide) (by decide) (by decide) (by decide), i64d (by decide)⟩
theorem ns4_e : stmtErr shTs ns4 = 0 := by decide +kernel
abbrev ns5 : St := ⟨3, ⟨0, false, 0⟩, ⟨0, 0, 0, ⟨0, 0, ⟨0, false, 0⟩⟩, ⟨0, 0, ⟨0, false, 0⟩⟩, ⟨0, false, 0⟩⟩, ⟨0, 0, ⟨0, false, 0⟩⟩, 4⟩
theorem ns5_wf : ns5.wf := ⟨u8d (by decide), pl_wfd (by decide) (by decide), ⟨u8d (by decide), u8d (by decide), u8d (by decide), opd_wfd (by decide) (by decide) (by decide) (by decide), opd_wfd (by decide) (by decide) (by decide) (by decide), pl_wfd (by decide) (by decide)⟩, opd_wfd (by decide) (by decide) (by decide) (by decide), i64d (by decide)⟩
theorem ns5_e : stmtErr shTs ns5 = 6 := by decide +kernel
abbrev ns6 : St := ⟨3, ⟨0, false, 0⟩, ⟨0, 0, 0, ⟨0, 0, ⟨0, false, 0⟩⟩, ⟨0, 0, ⟨0, false, 0⟩⟩, ⟨0, false, 0⟩⟩, ⟨0, 0, ⟨0, false, 0⟩⟩, 16⟩
theorem ns6_wf : ns6.wf := ⟨u8d (by decide), pl_wfd (by decide) (by decide), ⟨u8d (by decide), u8d (by decide), u8d (by decide), opd_wfd (by decide) (by decide) (by decide) (by decide), opd_wfd (by decide) (by decide) (by decide) (by decide), pl_wfd (by decide) (by decide)⟩, opd_wfd (by decide) (by decide) (by decide) (by decide), i64d (by decide)⟩
theorem ns6_e : stmtErr shTs ns6 = 8 := by decide +kernel
abbrev nsn : St := ⟨0, ⟨0, false, 0⟩, ⟨0, 0, 0, ⟨0, 0, ⟨0, false, 0⟩⟩, ⟨0, 0, ⟨0, false, 0⟩⟩, ⟨0, false, 0⟩⟩, ⟨0, 0, ⟨0, false, 0⟩⟩, 0⟩
theorem nsn_wf : nsn.wf := ⟨u8d (by decide), pl_wfd (by decide) (by decide), ⟨u8d (by decide), u8d (by decide), u8d (by decide), opd_wfd (by decide) (by decide) (by decide) (by decide), opd_wfd (by decide) (by decide) (by decide) (by decide), pl_wfd (by decide) (by decide)⟩, opd_wfd (by decide) (by decide) (by decide) (by decide), i64d (by decide)⟩
theorem nsn_c (w : World) : Calls Try.prog 9 #[.slice none 0 0, nsn.v] w (Ret w (.int .i64 8)) := by
  have h := typing_Stmt (.slice none 0 0) [] nsn w (Sl.nil (fun _ => True) w) nsn_wf
  rw [show stmtErr [] nsn = 8 by decide +kernel] at h; exact h
theorem hide_wp {P : Program} {Q : Exit → Act → World → Prop} {c : Code} {a : Act} {w : World} (h : ∀ a0 : Act, Hid (a0 = a) → c.wp P Q a0 w) : c.wp P Q a w := h a (Lib.hid rfl)
abbrev Wa (w : World) : World := (((w.alloc shObj).alloc (.cells #[.int .i64 1, .bool true, .int .u8 2] 26)).alloc (.cells #[.int .u8 2, .int .i64 0, .int .i64 1, .bool true, .int .u8 2] 28))
abbrev Wb (w : World) (x : Ext) : World := ((ext (Wa w) x).alloc (.cells #[.int .u8 3, .int .i64 0, .int .i64 2, .bool false, .int .u8 0] 28)).alloc (.cells #[.int .u8 2, .int .i64 0, .int .i64 1, .bool false, .int .u8 0] 28)
theorem cells_ne {w : World} {b o Z : Nat} {cs : List Value} {x : Value} {t : TypeId} (h : CellsAt w b o cs) (h2 : 2 ≤ cs.length) (hz : w.heap[Z]? = some (.cells #[x] t)) : b ≠ Z := by
  rintro rfl
  have h1 := h 1 (by omega)
  simp [World.cell?, hz] at h1
theorem Sl.ne {α : Type} [Rp α] {F : Nat → Prop} {w : World} {v : Value} {xs : List α} {Z : Nat} {x : Value} {t : TypeId} (hz : w.heap[Z]? = some (.cells #[x] t)) (hs : 2 ≤ Rp.sz α) (hR : ∀ (y : α) cs, Rp.R F w y cs → Rp.R (fun k => F k ∧ k ≠ Z) w y cs) (h : Sl F w v xs) : Sl (fun k => F k ∧ k ≠ Z) w v xs := by
  obtain ⟨a, cap, hv, h1, h2, h3, h⟩ := h
  refine ⟨a, cap, hv, h1, h2, h3, fun i hi => ?_⟩
  obtain ⟨b, off, e, hF, hb, cs, hr, hc⟩ := h i hi
  exact ⟨b, off, e, ⟨hF, cells_ne hc (by rw [Rp.len hr]; exact hs) hz⟩, hb, cs, hR _ _ hr, hc⟩
theorem bk_ne {F : Nat → Prop} {w : World} {Z : Nat} {x : Value} {t : TypeId} (hz : w.heap[Z]? = some (.cells #[x] t)) (y : Bk) (cs : List Value) (h : Rp.R F w y cs) : Rp.R (fun k => F k ∧ k ≠ Z) w y cs := by
  obtain ⟨a, n, c, a', n', c', h1, h2, g0, g1⟩ := h
  exact ⟨a, n, c, a', n', c', h1, h2, g0.ne hz (by decide) (fun _ _ h => h), g1.ne hz (by decide) (fun _ _ h => h)⟩
theorem fn_ne {F : Nat → Prop} {w : World} {Z : Nat} {x : Value} {t : TypeId} (hz : w.heap[Z]? = some (.cells #[x] t)) (y : Fn) (cs : List Value) (h : Rp.R F w y cs) : Rp.R (fun k => F k ∧ k ≠ Z) w y cs := by
  obtain ⟨a, n, c, a', n', c', h1, h2, g0, g1⟩ := h
  exact ⟨a, n, c, a', n', c', h1, h2, g0.ne hz (by decide) (fun _ _ h => h), g1.ne hz (by decide) (bk_ne hz)⟩
/-- A box of one cell holds nothing of a program. -/
theorem PrAt.box {B b : Nat} {w : World} {fs : List Fn} {Z : Nat} {x : Value} {t : TypeId} (h : PrAt B b w fs) (hl : 0 < fs.length) (hz : w.heap[Z]? = some (.cells #[x] t)) : PrAt Z b w fs := by
  obtain ⟨h1, ⟨h2, h4⟩, h3⟩ := h
  refine ⟨h1, ⟨?_, h4⟩, fun i hi => ?_⟩
  · obtain ⟨cs, hr, hc⟩ := h3 0 hl
    exact cells_ne hc (by rw [Rp.len hr]; decide) hz
  · obtain ⟨cs, hr, hc⟩ := h3 i hi
    exact ⟨cs, Rp.wide (fun _ _ hf => ⟨hf.1.1, hf.2⟩) (fn_ne hz _ _ hr), hc⟩
abbrev mvA : Opd := ⟨3, 0, ⟨2, false, 0⟩⟩
abbrev prA : Opd := ⟨2, 0, ⟨1, false, 0⟩⟩
abbrev p5A : Opd := ⟨2, 0, ⟨5, false, 0⟩⟩
abbrev tF (n : Int) : List Fn := [twoF0 [mvA, prA] ⟨0, false, 0⟩, twoF1 n]
theorem PrAt.cell1 {B b : Nat} {w w' : World} (h : PrAt B b w (tF 2)) (g : Grow w w') : w'.cell? ⟨b, 4, none⟩ = some (.int .i64 2) := by
  obtain ⟨h1, -, h3⟩ := h
  obtain ⟨cs, ⟨a, n, c, a', n', c', rfl, -⟩, hc⟩ := h3 1 (by decide)
  rw [g.cell (p := ⟨b, 4, none⟩) h1]
  exact hc 0 (Nat.succ_pos _)
theorem PrAt.free {B b : Nat} {w w' : World} {fs : List Fn} (h : PrAt B b w fs) (g : Grow w w') : w'.frozen? ⟨b, 4, none⟩ = false := by
  obtain ⟨h1, ⟨h2, cells, e, hr⟩, h3⟩ := h
  simp [World.frozen?, block_stay g hr]
theorem PrAt.write {B b : Nat} {w : World} (h : PrAt B b w (tF 2)) : PrAt B b (w.setCell ⟨b, 4, none⟩ (.int .i64 3)) (tF 3) := by
  obtain ⟨h1, ⟨h2, cells, e, hr⟩, h3⟩ := h
  have hk : ∀ {z : Fn} {cz : List Value}, Rp.R (fun k => k ≠ b ∧ k ≠ B) w z cz → Rp.R (fun k => k ≠ b ∧ k ≠ B) (w.setCell ⟨b, 4, none⟩ (.int .i64 3)) z cz := fun hz => Rp.keep (fun k hk _ => heap_setCell_other w ⟨b, 4, none⟩ k (.int .i64 3) hk.1) hz
  refine ⟨by simpa using h1, ⟨h2, cells.setIfInBounds 4 (.int .i64 3), e, heap_setCell_same w b 4 cells e _ hr⟩, fun i hi => ?_⟩
  obtain rfl | rfl : i = 0 ∨ i = 1 := by simp at hi; omega
  · obtain ⟨cs, hR, hc⟩ := h3 0 (by decide)
    have hl := Rp.len hR
    refine ⟨cs, hk hR, fun j hj => ?_⟩
    have hj4 : j < 4 := by have : cs.length = 4 := hl; omega
    rw [World.cell?_setCell_other _ _ _ _ (by intro e; injection e with e1 e2; omega)]
    exact hc j hj
  · obtain ⟨cs, hR, hc⟩ := h3 1 (by decide)
    obtain ⟨a, n, c, a', n', c', rfl, hw, g0, g1⟩ := hk hR
    refine ⟨(twoF1 3).c (.slice a n c) (.slice a' n' c'), ⟨a, n, c, a', n', c', rfl, ⟨(⟨by decide, by decide⟩ : I64 3)⟩, g0, g1⟩, fun j hj => ?_⟩
    by_cases hj0 : j = 0
    · subst hj0
      exact World.cell?_setCell_same _ _ _ (hc 0 (Nat.succ_pos _))
    · rw [World.cell?_setCell_other _ _ _ _ (by intro e; injection e with e1 e2; omega)]
      obtain ⟨k, rfl⟩ : ∃ k, j = k + 1 := ⟨j - 1, by omega⟩
      exact hc (k + 1) hj
theorem after24 {w W : World} {p24 p25 q24 : Nat} {o24 o25 : Obj} (hgr : Grow w W) (hq : w.heap.size ≤ q24) (h24 : w.heap.size ≤ p24) (h45 : p24 < p25) (hne : p25 ≠ q24) (hc24 : W.heap[p24]? = some o24) (hc25 : W.heap[p25]? = some o25) (hpr : PrAt p24 q24 W (tF 2)) :
    ∃ ya yb yc, W.setCell ⟨q24, 4, none⟩ (.int .i64 3) = ext ((ext ((ext w ya).alloc o24) yb).alloc o25) yc ∧ p24 = (ext w ya).heap.size ∧ p25 = (ext ((ext w ya).alloc o24) yb).heap.size ∧ Sl (fun _ => True) (ext ((ext ((ext w ya).alloc o24) yb).alloc o25) yc) (.slice (some ⟨q24, 0, none⟩) 2 2) (tF 3) := by
  obtain ⟨y, hy⟩ := ext_of_grow (hgr.setCell (p := ⟨q24, 4, none⟩) hq (.int .i64 3))
  have hsl : Sl (fun _ => True) _ (.slice (some ⟨q24, 0, none⟩) 2 2) (tF 3) := hpr.write.sl (by decide)
  have k24 : (ext w y).heap[p24]? = some o24 := by rw [← hy, heap_setCell_other _ _ _ _ (fun e => hpr.2.1.1 e.symm)]; exact hc24
  have k25 : (ext w y).heap[p25]? = some o25 := by rw [← hy, heap_setCell_other _ _ _ _ hne]; exact hc25
  obtain ⟨ya, y2, e24, hy2⟩ := split_box k24 h24
  rw [hy2] at k25
  obtain ⟨yb, yc, e25, hy3⟩ := split_box k25 (by simp only [alloc_size]; omega)
  refine ⟨ya, yb, yc, by rw [hy, hy2, hy3], e24, e25, ?_⟩
  rw [hy, hy2, hy3] at hsl
  exact hsl
theorem sl_opds {w : World} {b : Nat} {e : TypeId} {cells : Array Value} (xs : List Opd) (hwf : ∀ x ∈ xs, x.wf) (hg : w.heap[b]? = some (.cells cells e)) (hc : cells.toList = (xs.map Opd.c).flatten) (hm : xs.length ≤ 9223372036854775807) : Sl (fun _ => True) w (.slice (some ⟨b, 0, none⟩) xs.length xs.length) xs :=
  sl_of xs (xs.map Opd.c) (by simp) (fun i h h' => ⟨by simp, hwf _ (List.getElem_mem _)⟩) trivial hg hc hm
theorem mvA_wf : mvA.wf := opd_wfd (by decide) (by decide) (by decide) (by decide)
theorem prA_wf : prA.wf := opd_wfd (by decide) (by decide) (by decide) (by decide)
theorem p5A_wf : p5A.wf := opd_wfd (by decide) (by decide) (by decide) (by decide)
theorem opds_wf {xs : List Opd} (h : (xs.all fun x => x == mvA || x == prA || x == p5A) = true) : ∀ x ∈ xs, x.wf := fun x hx => by
  have := List.all_eq_true.1 h x hx
  simp only [Bool.or_eq_true, beq_iff_eq] at this
  rcases this with (rfl | rfl) | rfl
  · exact mvA_wf
  · exact prA_wf
  · exact p5A_wf
theorem call_wf (args : List Opd) (dest : Pl) (h : dest.wf) : (callJ args dest).wf := ⟨(⟨by decide, by decide⟩ : U8 4), opz_wf, (⟨by decide, by decide⟩ : I64 1), (⟨by decide, by decide⟩ : I64 1), i0, h⟩
theorem called_is {args : List Opd} {dest : Pl} {e : Int} (av : Value) (w : World) {F : Nat → Prop} (h : jumpErr ⟨[twoF0 args dest, twoF1 2]⟩ 0 (callJ args dest) = e) (hd : dest.wf) (ha : Sl F w av args) :
    Calls Try.prog 10 #[av, dest.v] w (Ret w (.int .i64 e)) := by
  have := law14_called av args dest w ha (call_wf _ _ hd); rw [h] at this; exact this
abbrev brJ : Ju := ⟨2, prA, 0, 1, 1, [], ⟨0, false, 0⟩⟩
abbrev zJ : Ju := ⟨0, opz', 0, 0, 0, [], ⟨0, false, 0⟩⟩
abbrev cJ : Ju := ⟨4, opz', 2, 0, 0, [], ⟨0, false, 0⟩⟩
theorem ju_wfd (j : Ju) (h1 : decide (0 ≤ j.kind ∧ j.kind ≤ 255) = true) (h2 : j.a.wf) (h3 : decide (-9223372036854775808 ≤ j.next ∧ j.next ≤ 9223372036854775807) = true) (h4 : decide (-9223372036854775808 ≤ j.els ∧ j.els ≤ 9223372036854775807) = true) (h5 : decide (-9223372036854775808 ≤ j.fn ∧ j.fn ≤ 9223372036854775807) = true) (h6 : j.dest.wf) : j.wf := ⟨u8d h1, h2, i64d h5, i64d h3, i64d h4, h6⟩
theorem jump_is {fs : List Fn} {f e : Int} {j : Ju} (pv : Value) (w : World) {F : Nat → Prop} (h : jumpErr ⟨fs⟩ f j = e) (hf : I64 f) (hj : j.wf) (ha : j.args = []) (hp : Sl F w pv fs) :
    Calls Try.prog 12 #[.agg #[pv], .int .i64 f, j.v nil0] w (Ret w (.int .i64 e)) := by
  have := typing_Jump ⟨fs⟩ pv nil0 f j w (F'' := fun _ => True) hp (by rw [ha]; exact Sl.nil _ _) hj hf; rw [h] at this; exact this

theorem cl0 : jumpErr ⟨[twoF0 [mvA, prA] ⟨0, false, 0⟩, twoF1 2]⟩ 0 (callJ [mvA, prA] ⟨0, false, 0⟩) = 0 := by decide +kernel
theorem cl1 : jumpErr ⟨[twoF0 [prA, mvA] ⟨0, false, 0⟩, twoF1 2]⟩ 0 (callJ [prA, mvA] ⟨0, false, 0⟩) = 42 := by decide +kernel
theorem cl2 : jumpErr ⟨[twoF0 [mvA] ⟨0, false, 0⟩, twoF1 2]⟩ 0 (callJ [mvA] ⟨0, false, 0⟩) = 42 := by decide +kernel
theorem cl3 : jumpErr ⟨[twoF0 [mvA, prA, prA] ⟨0, false, 0⟩, twoF1 2]⟩ 0 (callJ [mvA, prA, prA] ⟨0, false, 0⟩) = 42 := by decide +kernel
theorem cl4 : jumpErr ⟨[twoF0 [mvA, prA] ⟨1, false, 0⟩, twoF1 2]⟩ 0 (callJ [mvA, prA] ⟨1, false, 0⟩) = 42 := by decide +kernel
theorem cl5 : jumpErr ⟨[twoF0 [mvA, prA] ⟨3, false, 0⟩, twoF1 2]⟩ 0 (callJ [mvA, prA] ⟨3, false, 0⟩) = 6 := by decide +kernel
theorem cl6 : jumpErr ⟨[twoF0 [mvA, prA] ⟨2, true, 0⟩, twoF1 2]⟩ 0 (callJ [mvA, prA] ⟨2, true, 0⟩) = 0 := by decide +kernel
theorem cl7 : jumpErr ⟨[twoF0 [prA, p5A] ⟨0, false, 0⟩, twoF1 2]⟩ 0 (callJ [prA, p5A] ⟨0, false, 0⟩) = 6 := by decide +kernel
theorem jl0 : jumpErr ⟨(tF 2)⟩ 0 brJ = 42 := by decide +kernel
theorem jl0_wf : brJ.wf := ju_wfd brJ (by decide) prA_wf (by decide) (by decide) (by decide) pl0_wf
theorem jl1 : jumpErr ⟨(tF 2)⟩ 2 brJ = 2 := by decide +kernel
theorem jl1_wf : brJ.wf := ju_wfd brJ (by decide) prA_wf (by decide) (by decide) (by decide) pl0_wf
theorem jl2 : jumpErr ⟨(tF 2)⟩ (-1) brJ = 2 := by decide +kernel
theorem jl2_wf : brJ.wf := ju_wfd brJ (by decide) prA_wf (by decide) (by decide) (by decide) pl0_wf
theorem jl3 : jumpErr ⟨(tF 2)⟩ 0 zJ = 8 := by decide +kernel
theorem jl3_wf : zJ.wf := ju_wfd zJ (by decide) opz_wf (by decide) (by decide) (by decide) pl0_wf
theorem jl4 : jumpErr ⟨(tF 2)⟩ 0 cJ = 6 := by decide +kernel
theorem jl4_wf : cJ.wf := ju_wfd cJ (by decide) opz_wf (by decide) (by decide) (by decide) pl0_wf
theorem jl5 : jumpErr ⟨(tF 2)⟩ 0 endJ = 0 := by decide +kernel
theorem jl5_wf : endJ.wf := ju_wfd endJ (by decide) opz_wf (by decide) (by decide) (by decide) pl0_wf
theorem jl6 : jumpErr ⟨[]⟩ 0 brJ = 8 := by decide +kernel
theorem jl6_wf : brJ.wf := ju_wfd brJ (by decide) prA_wf (by decide) (by decide) (by decide) pl0_wf
theorem jl7 : jumpErr ⟨(tF 3)⟩ 0 brJ = 8 := by decide +kernel
theorem jl7_wf : brJ.wf := ju_wfd brJ (by decide) prA_wf (by decide) (by decide) (by decide) pl0_wf
end Go.Proofs.Ythackfblfkpddaa
