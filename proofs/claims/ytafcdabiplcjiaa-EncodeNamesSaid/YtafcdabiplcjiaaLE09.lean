/- Layer 9: the law of the names: what a function of one block is written as. -/
import Derived.Test.YtafcdabiplcjiaaLN10
import Derived.Test.YtafcdabiplcjiaaL08v
namespace Go.Proofs.Ytafcdabiplcjiaa
open Go.RowKit
set_option linter.unusedSimpArgs false
set_option linter.unusedVariables false

def wrF (l : List St) (j : Ju) : Fn := ⟨1, true, List.replicate 16 ⟨1, 0⟩, [⟨l, j⟩]⟩
def zeros16 : List Nat := [0, 0, 0, 0, 0, 0, 0, 0, 0, 0, 0, 0, 0, 0, 0, 0]
theorem zeros16_all : ∃ (i0 : TypeInfo) (z0 : Value), (Try.prog).info? 5 = some i0 ∧ i0.zero = some z0 ∧ i0.size = 1 ∧ i0.bytes = 1 ∧
    Hid (∀ (w' : World) (B g : Nat), w'.ownsRow B 5 1 (.slice (some ⟨g, 0, none⟩) 16 16) 16 (madeCells z0.cells (16 * 1)).toList → Sl (fun _ => True) w' (.slice (some ⟨g, 0, none⟩) 16 16) zeros16) := by
  obtain ⟨i0, z0, hi, hz, hsize, hby, hzs⟩ := slT_u8.ex
  refine ⟨i0, z0, hi, hz, hsize, hby, Lib.hid (fun w' B g h => ?_)⟩
  have e : i0.zero = some (.int .u8 0) := by
    have h := (by kernel_rfl : ((Try.prog).info? 5).map (fun i => i.zero) = some (some (.int .u8 0)))
    rw [hi] at h; simpa using h
  rw [hz] at e; injection e with e; rw [e] at h
  exact sl_zeros (n := 16) (by rw [show (madeCells (Value.int .u8 0).cells (16 * 1)).toList = List.replicate 16 (.int .u8 0) from toList_madeCells_one _ _] at h; exact h) (by omega)
set_option maxRecDepth 100000 in
set_option maxHeartbeats 8000000 in
theorem law09_written (l : List St) (lv : Value) (j : Ju) (jv : Value) (want : List Nat) (w : World) {F F' : Nat → Prop} (hl : Sl F w lv l) (hj : Sl F' w jv j.args) (hjw : j.wf) (hwl : want.length ≤ 100)
    (hL : fnL (wrF l j) = [1, 1, 16] ++ zeros16 ++ [1] ++ want) (hR : fnR (wrF l j) = 0) :
    Calls Try.prog 19 #[lv, j.v jv, .string (strB want)] w (Ret w (.bool true)) := by
  have hl := hl.old; have hj := hj.old
  obtain ⟨la, ln, lc, rfl, Hln, hlm, hlcap, hlcm, hl⟩ := hl.open
  obtain ⟨ja, jn, jc, rfl, Hjn, hjm, hjcap, hjcm, hj⟩ := hj.open
  obtain ⟨i0, z0, hi, hz, hsize, hby, Hzs⟩ := zeros16_all
  have Hw : Hid (wrF l j).wf := Lib.hid ⟨by unfold wrF I64; dsimp only; omega⟩
  have HL := Lib.hid hL
  have HR := Lib.hid hR
  clear hL hR
  obtain ⟨s0, hs0⟩ : ∃ s, strB want = s := ⟨_, rfl⟩
  obtain ⟨z16, Hz16⟩ : ∃ z, Hid (strB zeros16 = z) := ⟨_, Lib.hid rfl⟩
  obtain ⟨z19, Hz19⟩ : ∃ z, Hid (strB ([1, 1, 16] ++ zeros16) = z) := ⟨_, Lib.hid rfl⟩
  obtain ⟨z20, Hz20⟩ : ∃ z, Hid (strB ([1, 1, 16] ++ zeros16 ++ [1]) = z) := ⟨_, Lib.hid rfl⟩
  obtain ⟨t, Ht⟩ : ∃ z, Hid (strB ([1, 1, 16] ++ zeros16 ++ [1] ++ want) = z) := ⟨_, Lib.hid rfl⟩
  have e1 : (ByteArray.mk #[1, 1, 16]) ++ z16 = z19 := by rw [← Hz16.out, ← Hz19.out, strB_app]; congr 1
  have e2 : z19 ++ (ByteArray.mk #[1]) = z20 := by rw [← Hz19.out, ← Hz20.out, strB_app _ [1]]; congr 1
  have e3 : z20 ++ s0 = t := by rw [← Hz20.out, ← hs0, ← Ht.out, strB_app _ want]
  have n16 : z16.size = 16 := by rw [← Hz16.out]; kernel_rfl
  have n19 : z19.size = 19 := by rw [← Hz19.out]; kernel_rfl
  have n20 : z20.size = 20 := by rw [← Hz20.out]; kernel_rfl
  have n0 : s0.size ≤ 100 := by rw [← hs0]; simp [strB, ByteArray.size]; exact hwl
  have m3 : (ByteArray.mk #[1, 1, 16]).size = 3 := rfl
  have m1 : (ByteArray.mk #[1]).size = 1 := rfl
  rw [hs0]
  clear hs0
  have HE : Hid (∀ (w' : World) {F F' : Nat → Prop} (v1 v2 : Value) (h1 : Sl F w' v1 (List.replicate 16 (⟨1, 0⟩ : Ty))) (h2 : Sl F' w' v2 [(⟨l, j⟩ : Bk)]), Calls Try.prog 11 #[.agg #[.int .i64 1, .bool true, v1, v2]] w' (RetP w' fun v w'' => ∃ u, v = .tuple #[u, .int .i64 0] ∧ Sl (Fresh w') w'' u ([1, 1, 16] ++ zeros16 ++ [1] ++ want))) := Lib.hid (fun w' F F' v1 v2 h1 h2 => by
    have := encode_Func (wrF l j) v1 v2 w' Hw.out h1 h2
    rw [HL.out, HR.out] at this; exact this)
  obtain ⟨jk, ⟨ak, an, ⟨al, ad, af⟩⟩, fn, nx, el, ar, ⟨dl, dd, df⟩⟩ := j
  go_enter Try.func19, Try.ntmps19
  go_wp2_with fail
  go_loopw [8] (fun iv wr => ∃ (k : Nat) (tv : Value) (x : Ext), iv = .int .i64 k ∧ k ≤ 16 ∧ wr = ext (((w.alloc (.cells #[.int .u8 jk, .int .u8 ak, .int .i64 an, .int .i64 al, .bool ad, .int .u8 af, .int .i64 fn, .int .i64 nx, .int .i64 el, .slice ja jn jc, .int .i64 dl, .bool dd, .int .u8 df] 49)).alloc (.cells #[.slice la ln lc, .int .u8 jk, .int .u8 ak, .int .i64 an, .int .i64 al, .bool ad, .int .u8 af, .int .i64 fn, .int .i64 nx, .int .i64 el, .slice ja jn jc, .int .i64 dl, .bool dd, .int .u8 df] 57)).alloc (.cells #[.int .i64 1, .bool true, tv, .slice (some ⟨w.heap.size + 1, 0, none⟩) 1 1] 25)) x ∧ Own (fun _ => False) (w.heap.size + 1 + 1 + 1) 65 wr tv (List.replicate k (⟨1, 0⟩ : Ty))) (fun iv _ => 16 - (intOf iv).toNat)
  case atStart => exact ⟨0, .slice none 0 0, _, rfl, Nat.zero_le _, (ext_self _).symm, Own.nil _ _ _ _⟩
  case round =>
    obtain ⟨k, tv, x, rfl, hk, rfl, hown⟩ := hrel
    obtain ⟨a2, m2, c2, rfl, Hm2, hm2, hown⟩ := hown.open
    by_cases hlt : k < 16
    · have hkl : (List.replicate k (⟨1, 0⟩ : Ty)).length ≤ 100 := by rw [List.length_replicate]; omega
      obtain ⟨R, HR1⟩ : ∃ R, Hid (List.replicate k (⟨1, 0⟩ : Ty) = R) := ⟨_, Lib.hid rfl⟩
      have Hsn : Hid (List.replicate (k + 1) (⟨1, 0⟩ : Ty) = R ++ [⟨1, 0⟩]) := Lib.hid (by rw [← HR1.out, List.replicate_succ'])
      rw [HR1.out] at hown Hm2 hkl
      go_wp2_with (first | (at_builtin; go_must (refine wpList_app1 (α := Ty) slTv_Ty rfl rfl rfl hown (by (repeat (first | (with_reducible exact Grow.refl _) | assumption | refine Grow.ext ?_ _ | refine Grow.alloc ?_ _ | refine Grow.drew ?_ | refine Grow.setCell ?_ (by first | (simp; done) | (simp; omega)) _ | refine Grow.trans ?_ (by assumption)))) (by simp) (by simp; omega) rfl (y := ⟨1, 0⟩) (Gy := fun _ => False) ⟨rfl, ⟨by unfold U8; dsimp only; omega, by unfold U8; dsimp only; omega⟩⟩ (fun _ h => h.elim) (by (repeat (refine CellsAt.cons (by go_simp) ?_)); exact CellsAt.nil _ _ _) (by simp [Value.oneCell']) (by omega) (by omega) ?_); intro tv' x' hown' hsz' hagr; obtain ⟨ta, tn, tc, rfl, Htn, htn, hown'⟩ := hown'.open))
      go_roundw
      case rel => exact ⟨k + 1, .slice ta tn tc, x', by go_num, by omega, rfl, by rw [Hsn.out]; exact hown'.turn (by simp)⟩
      case measure => simp [intOf]; omega
    · obtain rfl : k = 16 := by omega
      have hts := hown.sl
      clear hown
      have hbs : Sl (fun _ => True) (ext (((w.alloc (.cells #[.int .u8 jk, .int .u8 ak, .int .i64 an, .int .i64 al, .bool ad, .int .u8 af, .int .i64 fn, .int .i64 nx, .int .i64 el, .slice ja jn jc, .int .i64 dl, .bool dd, .int .u8 df] 49)).alloc (.cells #[.slice la ln lc, .int .u8 jk, .int .u8 ak, .int .i64 an, .int .i64 al, .bool ad, .int .u8 af, .int .i64 fn, .int .i64 nx, .int .i64 el, .slice ja jn jc, .int .i64 dl, .bool dd, .int .u8 df] 57)).alloc (.cells #[.int .i64 1, .bool true, .slice a2 m2 c2, .slice (some ⟨w.heap.size + 1, 0, none⟩) 1 1] 25)) x) (.slice (some ⟨w.heap.size + 1, 0, none⟩) 1 1) [(⟨l, ⟨jk, ⟨ak, an, ⟨al, ad, af⟩⟩, fn, nx, el, ar, ⟨dl, dd, df⟩⟩⟩ : Bk)] := Sl.one trivial (by simp; omega) (by omega) (by omega) ⟨la, ln, lc, ja, jn, jc, rfl, ⟨hjw⟩, ((hl.mono (by (repeat (first | (with_reducible exact Grow.refl _) | assumption | refine Grow.ext ?_ _ | refine Grow.alloc ?_ _ | refine Grow.drew ?_ | refine Grow.setCell ?_ (by first | (simp; done) | (simp; omega)) _ | refine Grow.trans ?_ (by assumption))))).wide (fun _ _ _ => trivial)), ((hj.mono (by (repeat (first | (with_reducible exact Grow.refl _) | assumption | refine Grow.ext ?_ _ | refine Grow.alloc ?_ _ | refine Grow.drew ?_ | refine Grow.setCell ?_ (by first | (simp; done) | (simp; omega)) _ | refine Grow.trans ?_ (by assumption))))).wide (fun _ _ _ => trivial))⟩ (by (repeat (refine CellsAt.cons (by go_simp) ?_)); exact CellsAt.nil _ _ _)
      go_wp2_with (first
        | (go_at_call 11; ((with_reducible refine (HE.out _ _ _ hts hbs).mono ?_); rintro e w5 ⟨_, rfl, ⟨u5, rfl, hs5⟩, hg5⟩; obtain ⟨a5, n5, c5, rfl, Hn5, hm5, hcap5, hcm5, hs5⟩ := hs5.open; obtain ⟨x5, rfl⟩ := ext_of_grow hg5; clear hg5; have hcv5 := conv_at hs5; rw [Ht.out] at hcv5))
        | (at_make; refine wpList_make_full _ rfl _ _ 27 rfl w.heap.size 5 i0 z0 1 slT_u8.ut hi hz hsize .i64 .i64 _ _ 16 rfl rfl rfl rfl (by rw [hby]; omega) (by unfold maxLen; omega) (by first | (simp; done) | (simp; omega)) ?_; intro w2 hown2 hgrow2; obtain ⟨x2, rfl⟩ := ext_of_grow (grown_grow (Grow.refl _) hgrow2 (by simp)); have hsz2 := Hzs.out _ _ _ hown2; simp only [size_ext, alloc_size, drew_size] at hsz2; clear hown2 hgrow2; have hcv2 := conv_at hsz2; rw [Hz16.out] at hcv2))
      go_ret
      exact Ret.bool (by first | rfl | (simp; done)) (by (repeat (first | (with_reducible exact Grow.refl _) | assumption | refine Grow.ext ?_ _ | refine Grow.alloc ?_ _ | refine Grow.drew ?_ | refine Grow.setCell ?_ (by first | (simp; done) | (simp; omega)) _ | refine Grow.trans ?_ (by assumption))))
end Go.Proofs.Ytafcdabiplcjiaa
