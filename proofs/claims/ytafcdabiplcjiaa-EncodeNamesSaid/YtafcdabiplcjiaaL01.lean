/- Layer 1: the bytes of numbers. -/
import Derived.Test.YtafcdabiplcjiaaOwn
import Derived.Test.YtafcdabiplcjiaaReg
import Derived.OwnWalk
import Derived.Lib.Varint
import Derived.Lib.Zigzag
import Derived.Laws.Bits64b
import Derived.Deep.DeepMust
import Derived.Lib.BitFns
import Derived.Lib.Walk
import Derived.Lib.Small
import Derived.Lib.Slices
import Derived.Lib.Strings
namespace Go.Proofs.Ytafcdabiplcjiaa
open Go.RowKit
set_option linter.unusedSimpArgs false
set_option linter.unusedVariables false

/-- A byte. -/
instance : Rp Nat where
  sz := 1
  R _ _ n cs := cs = [.int .u8 n] ∧ n < 256
  len h := by obtain ⟨rfl, _⟩ := h; rfl
  keep _ h := h
  wide _ h := h
theorem sz_nat : Rp.sz Nat = 1 := rfl
attribute [go_sem] sz_nat
def vputF : Nat → Nat → List Nat
  | 0, n => [n]
  | f + 1, n => if n < 128 then [n] else (n % 128 + 128) :: vputF f (n / 128)
/-- The bytes of a number below 2^64. -/
def vput (n : Nat) : List Nat := vputF 9 n
theorem vputF_pos (f n : Nat) : 1 ≤ (vputF f n).length := by
  cases f
  · simp [vputF]
  · rw [vputF]; split <;> simp
theorem vputF_le (f : Nat) : ∀ n, (vputF f n).length ≤ f + 1 := by
  induction f with
  | zero => intro n; simp [vputF]
  | succ f ih => intro n; rw [vputF]; split; simp; have := ih (n / 128); simp; omega
theorem vput_pos (n : Nat) : 1 ≤ (vput n).length := vputF_pos 9 n
theorem vput_le (n : Nat) : (vput n).length ≤ 10 := vputF_le 9 n
theorem vputF_byte (f : Nat) : ∀ n, n < 128 ^ (f + 1) → ∀ x ∈ vputF f n, x < 256 := by
  induction f with
  | zero => intro n h x hx; simp [vputF] at hx; omega
  | succ f ih =>
    intro n h x hx
    rw [vputF] at hx
    split at hx
    · simp at hx; omega
    · rcases List.mem_cons.1 hx with rfl | hx
      · omega
      · exact ih (n / 128) (by rw [Nat.pow_succ] at h; omega) x hx
theorem vput_byte {n : Nat} (h : n < 18446744073709551616) : ∀ x ∈ vput n, x < 256 := vputF_byte 9 n (by omega)
theorem vputF_pf (f : Nat) : ∀ a b s t, a < 128 ^ (f + 1) → b < 128 ^ (f + 1) → vputF f a ++ s = vputF f b ++ t → a = b ∧ s = t := by
  induction f with
  | zero => intro a b s t _ _ h; simp only [vputF, List.cons_append, List.nil_append, List.cons.injEq] at h; exact h
  | succ f ih =>
    intro a b s t ha hb h
    rw [vputF, vputF] at h
    rw [Nat.pow_succ] at ha hb
    by_cases h1 : a < 128 <;> by_cases h2 : b < 128
    · rw [if_pos h1, if_pos h2] at h; simp only [List.cons_append, List.nil_append, List.cons.injEq] at h; exact h
    · rw [if_pos h1, if_neg h2] at h; simp only [List.cons_append, List.nil_append, List.cons.injEq] at h; omega
    · rw [if_neg h1, if_pos h2] at h; simp only [List.cons_append, List.nil_append, List.cons.injEq] at h; omega
    · rw [if_neg h1, if_neg h2] at h; simp only [List.cons_append, List.cons.injEq] at h
      have := ih (a / 128) (b / 128) s t (by omega) (by omega) h.2
      exact ⟨by omega, this.2⟩
theorem vput_pf {a b : Nat} {s t : List Nat} (ha : a < 18446744073709551616) (hb : b < 18446744073709551616) (h : vput a ++ s = vput b ++ t) : a = b ∧ s = t :=
  vputF_pf 9 a b s t (by omega) (by omega) h

def foldS (n : Int) : Nat := if 0 ≤ n then (2 * n).toNat else (-2 * n - 1).toNat
theorem foldS_lt {n : Int} (h : I64 n) : foldS n < 18446744073709551616 := by
  obtain ⟨h1, h2⟩ := h; unfold foldS; split <;> omega
theorem foldS_inj {a b : Int} (h : foldS a = foldS b) : a = b := by
  unfold foldS at h; split at h <;> split at h <;> omega

theorem slT_u8 : SlT Try.prog 27 5 1 1 := SlT.mk' (z := .int .u8 0) Try.underlying27 (by kernel_rfl) rfl (by omega)
theorem len8_b {i q : Int} (h : Lib.len8 i = q) : 0 ≤ q ∧ q ≤ 255 := by
  subst h; unfold Lib.len8
  have := ((Lib.len8tab[i.toNat]?).getD 0).toNat_lt; omega
theorem ext_selfw (W : World) : ext W ⟨W.drawn, #[]⟩ = W := by simp [ext]
theorem Own.low' {α : Type} [Rp α] {F : Nat → Prop} {base base' : Nat} {e : TypeId} {w : World} {v : Value} {xs : List α} (h : Own F base e w v xs) (hb : base' ≤ base) : Own F base' e w v xs := by
  obtain ⟨G, css, hG, hl, hR, hn, h1, h2⟩ := h
  refine ⟨G, css, fun k hk => ⟨(hG k hk).1, (hG k hk).2.1.imp id (fun h => Nat.le_trans hb h), (hG k hk).2.2⟩, hl, hR, hn, h1, ?_⟩
  rcases h2 with h2 | ⟨g, cap, cur, hv, hbg, hr⟩
  · exact .inl h2
  · exact .inr ⟨g, cap, cur, hv, Nat.le_trans hb hbg, hr⟩
theorem one_u8 : ∀ (G : Nat → Prop) (w : World) (x : Nat) cs, Rp.R G w x cs → ∀ u ∈ cs, u.oneCell' = true := by
  rintro G w x cs ⟨rfl, _⟩ u hu; simp at hu; subst hu; rfl
set_option maxRecDepth 1000000 in
set_option maxHeartbeats 4000000 in
theorem bits_Len64 (x : Int) (h0 : 0 ≤ x) (h1 : x ≤ 18446744073709551615) (w : World) :
    Calls Try.prog 64 #[.int .u64 x] w (RetP w fun v _ => ∃ z : Int, v = .int .i64 z ∧ 0 ≤ z ∧ z ≤ 400) := by
  go_enter Try.func64, Try.ntmps64
  generalize htab : ByteArray.mk _ = tab
  obtain rfl : tab = Lib.len8tab := by rw [← htab]; kernel_rfl
  clear htab
  go_wp2
  all_goals first
    | (refine postP_of (by simp only [results, Try.results64]; go_simp; rfl) rfl (by (repeat (first | (with_reducible exact Grow.refl _) | assumption | refine Grow.ext ?_ _ | refine Grow.alloc ?_ _ | refine Grow.drew ?_ | refine Grow.setCell ?_ (by first | (simp; done) | (simp; omega)) _ | refine Grow.trans ?_ (by assumption)))) ⟨_, rfl, ?_⟩)
    | (exfalso; go_light; have hs := Lib.len8tab_size; omega)
  all_goals (generalize hq : UInt8.toNat _ = q; have hb : q < 256 := (by rw [← hq]; exact UInt8.toNat_lt _); unfold wrap64; omega)
set_option maxHeartbeats 1000000 in
theorem number_Length (n : Nat) (hn : n < 18446744073709551616) (w : World) :
    Calls Try.prog 40 #[.int .u64 n] w (RetP w fun v _ => ∃ z : Nat, v = .int .i64 z ∧ z ≤ 400) := by
  go_enter Try.func40, Try.ntmps40
  go_wp2_with (first | (go_at_call 64; ((with_reducible refine (bits_Len64 n (by omega) (by omega) _).mono ?_); rintro e w1 ⟨_, rfl, ⟨z, rfl, hz0, hz1⟩, hb1⟩; obtain ⟨x1, rfl⟩ := ext_of_grow hb1; clear hb1)))
  all_goals (refine postP_of (by simp only [results, Try.results40]; go_simp; rfl) rfl (by (repeat (first | (with_reducible exact Grow.refl _) | assumption | refine Grow.ext ?_ _ | refine Grow.alloc ?_ _ | refine Grow.drew ?_ | refine Grow.setCell ?_ (by first | (simp; done) | (simp; omega)) _ | refine Grow.trans ?_ (by assumption)))) ?_)
  · exact ⟨(max 1 ((z + 6) / 7)).toNat, by rw [Int.toNat_of_nonneg (by omega)], by omega⟩
set_option maxRecDepth 100000 in
set_option maxHeartbeats 4000000 in
theorem number_Put (n : Nat) (hn : n < 18446744073709551616) (w : World) :
    Calls Try.prog 23 #[.int .u64 n] w (RetP w fun v w' => Own (fun _ => False) w.heap.size 5 w' v (vput n)) := by
  obtain ⟨i0, z0, hi, hz, hsize, hby, hzs⟩ := slT_u8.ex
  go_enter Try.func23, Try.ntmps23
  go_wp2_with (first | (go_at_call 40; ((with_reducible refine (number_Length n hn _).mono ?_); rintro e w1 ⟨_, rfl, ⟨z, rfl, hz1⟩, hb1⟩; obtain ⟨x1, rfl⟩ := ext_of_grow hb1; clear hb1)) | (at_make; refine wpList_make_own _ rfl _ _ 27 rfl w.heap.size 5 i0 z0 1 slT_u8.ut hi hz hsize .i64 .i64 _ z rfl rfl rfl (by rw [hby]; omega) (by unfold maxLen; omega) (by simp) ?_; intro w2 hown2 hgrow2))
  rw [show (ext w x1).heap.size = w.heap.size + x1.k from by simp] at hown2
  have hown : Own (fun _ => False) w.heap.size 5 w2 (.slice (some ⟨w.heap.size + x1.k, 0, none⟩) 0 z) ([] : List Nat) := ⟨fun _ => False, [], fun _ h => h.elim, rfl, (fun i h => by cases h), by simp, hown2⟩
  obtain ⟨x2, rfl⟩ := ext_of_grow (grown_grow (W := w) (by (repeat (first | (with_reducible exact Grow.refl _) | assumption | refine Grow.ext ?_ _ | refine Grow.alloc ?_ _ | refine Grow.drew ?_ | refine Grow.setCell ?_ (by first | (simp; done) | (simp; omega)) _ | refine Grow.trans ?_ (by assumption)))) hgrow2 (fun k h => by cases h))
  clear hown2 hgrow2
  go_loopw [0, 3] (fun nv v wr => ∃ (m k : Nat) (pre : List Nat) (x : Ext), nv = .int .u64 m ∧ wr = ext w x ∧ Own (fun _ => False) w.heap.size 5 wr v pre ∧ Hid (vput n = pre ++ vputF k m) ∧ pre.length + k ≤ 9 ∧ m < 128 ^ (k + 1) ∧ m < 18446744073709551616) (fun nv _ _ => (intOf nv).toNat)
  case atStart => exact ⟨n, 9, [], x2, rfl, rfl, hown, Lib.hid rfl, by simp, by omega, hn⟩
  case round =>
    obtain ⟨m, k, pre, x, rfl, rfl, hown, Hp, hk, hm, hm64⟩ := hrel
    by_cases hlt : 127 < m
    · cases k with
      | zero => omega
      | succ k =>
        have hor : bits .or .u8 ((m : Int) % 256) 128 = ((m % 128 + 128 : Nat) : Int) := by rw [Lib.u8_or128_any _ (by omega) (by omega)]; omega
        go_wp2_with (first | (at_builtin; go_must (refine wpList_app1 (α := Nat) slT_u8 rfl rfl rfl hown (by (repeat (first | (with_reducible exact Grow.refl _) | assumption | refine Grow.ext ?_ _ | refine Grow.alloc ?_ _ | refine Grow.drew ?_ | refine Grow.setCell ?_ (by first | (simp; done) | (simp; omega)) _ | refine Grow.trans ?_ (by assumption)))) (Nat.le_refl _) (by simp; omega) rfl (y := m % 128 + 128) (Gy := fun _ => False) ⟨rfl, by omega⟩ (fun _ h => h.elim) (by (repeat (refine CellsAt.cons (by go_simp) ?_)); exact CellsAt.nil _ _ _) (by simp [Value.oneCell']) (by omega) (by omega) ?_); intro tv' x' hown' hsz' hagr))
        go_roundw
        case rel => exact ⟨m / 128, k, pre ++ [m % 128 + 128], x', by go_num, rfl, hown', Lib.hid (by rw [Hp.out, vputF, if_neg (by omega)]; simp), by simp; omega, by rw [Nat.pow_succ] at hm; omega, by omega⟩
        case measure => simp [intOf]; omega
    · have Hv : Hid (vputF k m = [m]) := Lib.hid (by
        cases k with
        | zero => simp [vputF]
        | succ k => rw [vputF, if_pos (by omega)])
      have hmm : (m : Int) % 256 = m := by omega
      go_wp2_with (first | (at_builtin; go_must (refine wpList_app1 (α := Nat) slT_u8 rfl rfl rfl hown (by (repeat (first | (with_reducible exact Grow.refl _) | assumption | refine Grow.ext ?_ _ | refine Grow.alloc ?_ _ | refine Grow.drew ?_ | refine Grow.setCell ?_ (by first | (simp; done) | (simp; omega)) _ | refine Grow.trans ?_ (by assumption)))) (Nat.le_refl _) (by simp; omega) rfl (y := m) (Gy := fun _ => False) ⟨rfl, by omega⟩ (fun _ h => h.elim) (by (repeat (refine CellsAt.cons (by go_simp) ?_)); exact CellsAt.nil _ _ _) (by simp [Value.oneCell']) (by omega) (by omega) ?_); intro tv' x' hown' hsz' hagr))
      refine postP_of (by simp only [results, Try.results23]; go_simp; rfl) rfl (by (repeat (first | (with_reducible exact Grow.refl _) | assumption | refine Grow.ext ?_ _ | refine Grow.alloc ?_ _ | refine Grow.drew ?_ | refine Grow.setCell ?_ (by first | (simp; done) | (simp; omega)) _ | refine Grow.trans ?_ (by assumption)))) ?_
      rw [Hp.out, Hv.out]; exact hown'
set_option maxRecDepth 100000 in
set_option maxHeartbeats 4000000 in
theorem ref01_Put (n : Nat) (hn : n < 18446744073709551616) (w : World) :
    Calls Try.prog 90 #[.int .u64 n] w (RetP w fun v w' => Own (fun _ => False) w.heap.size 5 w' v (vput n)) := by
  go_enter Try.func90, Try.ntmps90
  go_wp2_with fail
  go_loopw [0, 3] (fun nv v wr => ∃ (m k : Nat) (pre : List Nat) (x : Ext), nv = .int .u64 m ∧ wr = ext w x ∧ Own (fun _ => False) w.heap.size 5 wr v pre ∧ Hid (vput n = pre ++ vputF k m) ∧ pre.length + k ≤ 9 ∧ m < 128 ^ (k + 1) ∧ m < 18446744073709551616) (fun nv _ _ => (intOf nv).toNat)
  case atStart => exact ⟨n, 9, [], _, rfl, (ext_selfw _).symm, Own.nil _ _ _ _, Lib.hid rfl, by simp, by omega, hn⟩
  case round =>
    obtain ⟨m, k, pre, x, rfl, rfl, hown, Hp, hk, hm, hm64⟩ := hrel
    by_cases hlt : 128 ≤ m
    · cases k with
      | zero => omega
      | succ k =>
        have hor : ((m : Int) % 128 + 128) % 256 = ((m % 128 + 128 : Nat) : Int) := by omega
        go_wp2_with (first | (at_builtin; go_must (refine wpList_app1 (α := Nat) slT_u8 rfl rfl rfl hown (by (repeat (first | (with_reducible exact Grow.refl _) | assumption | refine Grow.ext ?_ _ | refine Grow.alloc ?_ _ | refine Grow.drew ?_ | refine Grow.setCell ?_ (by first | (simp; done) | (simp; omega)) _ | refine Grow.trans ?_ (by assumption)))) (Nat.le_refl _) (by simp; omega) rfl (y := m % 128 + 128) (Gy := fun _ => False) ⟨rfl, by omega⟩ (fun _ h => h.elim) (by (repeat (refine CellsAt.cons (by go_simp) ?_)); exact CellsAt.nil _ _ _) (by simp [Value.oneCell']) (by omega) (by omega) ?_); intro tv' x' hown' hsz' hagr))
        go_roundw
        case rel => exact ⟨m / 128, k, pre ++ [m % 128 + 128], x', by go_num, rfl, hown', Lib.hid (by rw [Hp.out, vputF, if_neg (by omega)]; simp), by simp; omega, by rw [Nat.pow_succ] at hm; omega, by omega⟩
        case measure => simp [intOf]; omega
    · have Hv : Hid (vputF k m = [m]) := Lib.hid (by
        cases k with
        | zero => simp [vputF]
        | succ k => rw [vputF, if_pos (by omega)])
      have hmm : (m : Int) % 256 = m := by omega
      go_wp2_with (first | (at_builtin; go_must (refine wpList_app1 (α := Nat) slT_u8 rfl rfl rfl hown (by (repeat (first | (with_reducible exact Grow.refl _) | assumption | refine Grow.ext ?_ _ | refine Grow.alloc ?_ _ | refine Grow.drew ?_ | refine Grow.setCell ?_ (by first | (simp; done) | (simp; omega)) _ | refine Grow.trans ?_ (by assumption)))) (Nat.le_refl _) (by simp; omega) rfl (y := m) (Gy := fun _ => False) ⟨rfl, by omega⟩ (fun _ h => h.elim) (by (repeat (refine CellsAt.cons (by go_simp) ?_)); exact CellsAt.nil _ _ _) (by simp [Value.oneCell']) (by omega) (by omega) ?_); intro tv' x' hown' hsz' hagr))
      refine postP_of (by simp only [results, Try.results90]; go_simp; rfl) rfl (by (repeat (first | (with_reducible exact Grow.refl _) | assumption | refine Grow.ext ?_ _ | refine Grow.alloc ?_ _ | refine Grow.drew ?_ | refine Grow.setCell ?_ (by first | (simp; done) | (simp; omega)) _ | refine Grow.trans ?_ (by assumption)))) ?_
      rw [Hp.out, Hv.out]; exact hown'
set_option maxHeartbeats 1000000 in
theorem ref01_Fold (n : Int) (hn : I64 n) (w : World) :
    Calls Try.prog 134 #[.int .i64 n] w (Ret w (.int .u64 (foldS n : Nat))) := by
  obtain ⟨h1, h2⟩ := hn
  go_enter Try.func134, Try.ntmps134
  go_wp2_with fail
  all_goals go_ret
  all_goals (refine Ret.int ?_ (by (repeat (first | (with_reducible exact Grow.refl _) | assumption | refine Grow.ext ?_ _ | refine Grow.alloc ?_ _ | refine Grow.drew ?_ | refine Grow.setCell ?_ (by first | (simp; done) | (simp; omega)) _ | refine Grow.trans ?_ (by assumption)))))
  all_goals (unfold foldS; split <;> omega)
set_option maxHeartbeats 1000000 in
theorem number_PutSigned (n : Int) (hn : I64 n) (w : World) :
    Calls Try.prog 117 #[.int .i64 n] w (RetP w fun v w' => Own (fun _ => False) w.heap.size 5 w' v (vput (foldS n))) := by
  have hf := foldS_lt hn
  obtain ⟨h1, h2⟩ := hn
  by_cases h0 : 0 ≤ n
  · have hx : bits .xor .u64 (n * 2) (n / 9223372036854775808) = ((foldS n : Nat) : Int) := by
      have e1 : n * 2 = ((foldS n : Nat) : Int) := by unfold foldS; rw [if_pos h0]; omega
      rw [show n / 9223372036854775808 = ((0 : Nat) : Int) by omega, e1, bits_xor_u64_nat _ _ hf (by omega)]; simp
    go_enter Try.func117, Try.ntmps117
    go_wp2_with (first | (go_at_call 23; ((with_reducible refine (number_Put (foldS n) hf _).mono ?_); rintro e w1 ⟨v, rfl, ho1, hb1⟩; obtain ⟨x1, rfl⟩ := ext_of_grow hb1; clear hb1)))
    exact postP_of (by simp only [results, Try.results117]; go_simp <;> rfl) rfl (by (repeat (first | (with_reducible exact Grow.refl _) | assumption | refine Grow.ext ?_ _ | refine Grow.alloc ?_ _ | refine Grow.drew ?_ | refine Grow.setCell ?_ (by first | (simp; done) | (simp; omega)) _ | refine Grow.trans ?_ (by assumption)))) ho1
  · have hx : bits .xor .u64 (IntKind.u64.wrap (IntKind.u64.wrap n * 2)) (IntKind.u64.wrap (n / 9223372036854775808)) = ((foldS n : Nat) : Int) := by
      have e1 : IntKind.u64.wrap (IntKind.u64.wrap n * 2) = (((2 * n + 18446744073709551616).toNat : Nat) : Int) := by rw [IntKind.wrap_u64, IntKind.wrap_u64]; omega
      have e2 : IntKind.u64.wrap (n / 9223372036854775808) = ((2 ^ 64 - 1 : Nat) : Int) := by rw [IntKind.wrap_u64]; omega
      rw [e1, e2, bits_xor_u64_nat _ _ (by omega) (by decide), Nat.xor_comm, Lib.xor_ones64 _ (by omega)]
      unfold foldS; rw [if_neg h0]; omega
    go_enter Try.func117, Try.ntmps117
    go_wp2_with (first | (go_at_call 23; ((with_reducible refine (number_Put (foldS n) hf _).mono ?_); rintro e w1 ⟨v, rfl, ho1, hb1⟩; obtain ⟨x1, rfl⟩ := ext_of_grow hb1; clear hb1)))
    exact postP_of (by simp only [results, Try.results117]; go_simp <;> rfl) rfl (by (repeat (first | (with_reducible exact Grow.refl _) | assumption | refine Grow.ext ?_ _ | refine Grow.alloc ?_ _ | refine Grow.drew ?_ | refine Grow.setCell ?_ (by first | (simp; done) | (simp; omega)) _ | refine Grow.trans ?_ (by assumption)))) ho1
set_option maxHeartbeats 1000000 in
theorem ref01_PutSigned (n : Int) (hn : I64 n) (w : World) :
    Calls Try.prog 118 #[.int .i64 n] w (RetP w fun v w' => Own (fun _ => False) w.heap.size 5 w' v (vput (foldS n))) := by
  have hf := foldS_lt hn
  go_enter Try.func118, Try.ntmps118
  go_wp2_with (first | (go_at_call 134; ((with_reducible refine (ref01_Fold n hn _).mono ?_); rintro e w1 ⟨rfl, hb1⟩; obtain ⟨x1, rfl⟩ := ext_of_grow hb1; clear hb1)) | (go_at_call 90; ((with_reducible refine (ref01_Put (foldS n) hf _).mono ?_); rintro e w2 ⟨v, rfl, ho2, hb2⟩; obtain ⟨x2, rfl⟩ := ext_of_grow hb2; clear hb2)))
  exact postP_of (by simp only [results, Try.results118]; go_simp <;> rfl) rfl (by (repeat (first | (with_reducible exact Grow.refl _) | assumption | refine Grow.ext ?_ _ | refine Grow.alloc ?_ _ | refine Grow.drew ?_ | refine Grow.setCell ?_ (by first | (simp; done) | (simp; omega)) _ | refine Grow.trans ?_ (by assumption)))) (ho2.low' (by simp))
end Go.Proofs.Ytafcdabiplcjiaa
