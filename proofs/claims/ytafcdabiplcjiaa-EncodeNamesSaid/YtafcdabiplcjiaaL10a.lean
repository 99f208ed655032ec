/- Layers 1 and 10: numbers are read. -/
import Derived.Test.YtafcdabiplcjiaaL01
import Derived.Test.YtafcdabiplcjiaaL08b
import Derived.LoopN
import Derived.Lib.VarintBits
import Derived.Lib.VarintMem
namespace Go.Proofs.Ytafcdabiplcjiaa
open Go.RowKit
set_option linter.unusedSimpArgs false
set_option linter.unusedVariables false

/-- The number whose bytes begin a list: the number, how many bytes, the error. -/
def vgetL : Nat → Nat → List Nat → Nat × Nat × Int
  | _, _, [] => (0, 0, 24)
  | i, acc, c :: r => if (i = 9 ∧ 1 < c) ∨ (c = 0 ∧ 0 < i) then (0, 0, 12) else if c < 128 then (acc + c * 128 ^ i, i + 1, 0) else vgetL (i + 1) (acc + c % 128 * 128 ^ i) r
def vget (l : List Nat) : Nat × Nat × Int := vgetL 0 0 l
theorem vgetL_put (f : Nat) : ∀ (i acc n : Nat) (s : List Nat), i + f = 9 → n < 128 ^ (f + 1) → (f = 0 → n ≤ 1) → (0 < i → 0 < n) → (∀ g, g < f → n < 2 * 128 ^ f) →
    vgetL i acc (vputF f n ++ s) = (acc + n * 128 ^ i, i + (vputF f n).length, 0) := by
  induction f with
  | zero =>
    intro i acc n s hi hn h1 h2 _
    have h1 := h1 rfl
    simp only [vputF, List.cons_append, List.nil_append, List.length_cons, List.length_nil]
    rw [vgetL, if_neg (by omega), if_pos (by omega)]
  | succ f ih =>
    intro i acc n s hi hn h1 h2 h3
    rw [vputF]
    by_cases h : n < 128
    · rw [if_pos h]
      simp only [List.cons_append, List.nil_append, List.length_cons, List.length_nil]
      rw [vgetL, if_neg (by omega), if_pos h]
    · rw [if_neg h]
      have h3' := h3 0 (by omega)
      rw [Nat.pow_succ] at h3' hn
      simp only [List.cons_append, List.length_cons]
      rw [vgetL, if_neg (by omega), if_neg (by omega)]
      rw [ih (i + 1) _ (n / 128) s (by omega) (by omega) (fun hf => by subst hf; simp at h3'; omega) (fun _ => by omega) (fun g hg => by omega)]
      have e : (n % 128 + 128) % 128 = n % 128 := by omega
      rw [e, Nat.pow_succ]
      have hd : n % 128 * 128 ^ i + n / 128 * (128 ^ i * 128) = n * 128 ^ i := by
        have : n = n % 128 + 128 * (n / 128) := (Nat.mod_add_div n 128).symm
        calc n % 128 * 128 ^ i + n / 128 * (128 ^ i * 128) = (n % 128 + 128 * (n / 128)) * 128 ^ i := by
              rw [Nat.add_mul]; congr 1; rw [Nat.mul_comm (128 ^ i) 128, ← Nat.mul_assoc, Nat.mul_comm (n / 128) 128]
          _ = n * 128 ^ i := by rw [Nat.mod_add_div]
      rw [← hd]
      simp only [Nat.add_assoc, Prod.mk.injEq, true_and, and_true]
      omega
/-- What was written is read. -/
theorem vget_put {n : Nat} (h : n < 18446744073709551616) (s : List Nat) : vget (vput n ++ s) = (n, (vput n).length, 0) := by
  unfold vget vput
  rw [vgetL_put 9 0 0 n s (by omega) (by omega) (by omega) (by omega) (fun g _ => by omega)]
  simp
theorem vgetL_back : ∀ (l : List Nat) (i acc n k : Nat), i ≤ 9 → (∀ x ∈ l, x < 256) → vgetL i acc l = (n, k, 0) → ∃ m j, n = acc + m * 128 ^ i ∧ k = i + j ∧ l.take j = vputF (9 - i) m ∧ 1 ≤ j ∧ j ≤ l.length ∧ m < 128 ^ (10 - i) ∧ (0 < i → 0 < m) ∧ m < 2 * 128 ^ (9 - i) := by
  intro l
  induction l with
  | nil => intro i acc n k _ _ h; simp [vgetL] at h
  | cons c r ih =>
    intro i acc n k hi hb h
    rw [vgetL] at h
    split at h
    · simp at h
    · rename_i hne
      have hc := hb c (by simp)
      split at h
      · rename_i h1
        simp only [Prod.mk.injEq, and_true] at h
        refine ⟨c, 1, by omega, by omega, ?_, by omega, by simp, ?_, ?_, ?_⟩
        · have : vputF (9 - i) c = [c] := by
            cases hf : 9 - i with
            | zero => simp [vputF]
            | succ f => rw [vputF, if_pos h1]
          rw [this]; rfl
        · have : 128 ^ 1 ≤ 128 ^ (10 - i) := Nat.pow_le_pow_right (by omega) (by omega)
          omega
        · intro h0; omega
        · by_cases h9 : i = 9
          · subst h9; simp; omega
          · have : 128 ^ 1 ≤ 128 ^ (9 - i) := Nat.pow_le_pow_right (by omega) (by omega)
            omega
      · rename_i h1
        have hi9 : i ≠ 9 := by omega
        obtain ⟨m, j, e1, e2, e3, e4, e5, e6, e7, e8⟩ := ih (i + 1) _ n k (by omega) (fun x hx => hb x (by simp [hx])) h
        have e7 := e7 (by omega)
        refine ⟨m * 128 + c % 128, j + 1, ?_, by omega, ?_, by omega, by simp; omega, ?_, fun _ => by omega, ?_⟩
        · rw [e1, Nat.pow_succ, Nat.add_mul, Nat.add_assoc, Nat.add_comm (c % 128 * 128 ^ i), ← Nat.mul_assoc]
          congr 2; rw [Nat.mul_right_comm]
        · have hf : 9 - i = (9 - (i + 1)) + 1 := by omega
          rw [hf, vputF, if_neg (by omega), List.take_succ_cons, e3]
          have a1 : (m * 128 + c % 128) % 128 + 128 = c := by omega
          have a2 : (m * 128 + c % 128) / 128 = m := by omega
          rw [a1, a2]
        · have : 10 - i = (10 - (i + 1)) + 1 := by omega
          rw [this, Nat.pow_succ]; omega
        · have : 9 - i = (9 - (i + 1)) + 1 := by omega
          rw [this, Nat.pow_succ]; omega
/-- What is read has just these bytes. -/
theorem vget_back {l : List Nat} {n k : Nat} (hb : ∀ x ∈ l, x < 256) (h : vget l = (n, k, 0)) : l.take k = vput n ∧ n < 18446744073709551616 ∧ 1 ≤ k ∧ k ≤ l.length := by
  obtain ⟨m, j, e1, e2, e3, e4, e5, e6, e7, e8⟩ := vgetL_back l 0 0 n k (by omega) hb h
  simp at e1 e2 e3 e8
  subst e1 e2
  exact ⟨e3, by omega, e4, e5⟩
theorem vgetL_err : ∀ (l : List Nat) (i acc : Nat), (vgetL i acc l).2.2 = 0 ∨ (vgetL i acc l).2.2 = 12 ∨ (vgetL i acc l).2.2 = 24 := by
  intro l
  induction l with
  | nil => intro i acc; simp [vgetL]
  | cons c r ih => intro i acc; rw [vgetL]; split; simp; split; simp; exact ih _ _
theorem Sl.byte {F : Nat → Prop} {w : World} {a : Option Addr} {n cap : Nat} {ts : List Nat} (h : Sl F w (.slice a n cap) ts) (i : Nat) (hi : i < n) : ∃ b off x, a = some ⟨b, off, none⟩ ∧ Hid (ts[i]? = some x) ∧ LtW b w ∧ x < 256 ∧ w.cell? ⟨b, off + i, none⟩ = some (.int .u8 (x : Nat)) := by
  obtain ⟨b, off, x, cs, ha, hx, hlt, ⟨rfl, hw⟩, hc⟩ := h.get i hi
  exact ⟨b, off, x, ha, hx, hlt, hw, by have := hc 0 (by simp); simpa [sz_nat] using this⟩
theorem u8_high : ∀ c : Fin 256, bits .andNot .u8 (c.val : Int) 127 = (if c.val < 128 then 0 else 128) ∧ bits .xor .u8 (c.val : Int) (if c.val < 128 then 0 else 128) = ((c.val % 128 : Nat) : Int) := by decide +kernel
theorem or_add (i acc x : Nat) (hi : i ≤ 9) (ha : acc < 128 ^ i) (hx : x * 128 ^ i < 18446744073709551616) : bits .or .u64 (acc : Int) ((x * 128 ^ i : Nat) : Int) = ((acc + x * 128 ^ i : Nat) : Int) := by
  have h1 : 128 ^ i ≤ 128 ^ 9 := Nat.pow_le_pow_right (by omega) hi
  rw [bits_or_u64_nat _ _ (by omega) hx]
  congr 1
  have e : 128 ^ i = 2 ^ (7 * i) := by rw [Nat.pow_mul]
  rw [e] at ha ⊢
  rw [Nat.add_comm, Nat.or_comm, Nat.mul_comm, Nat.two_pow_add_eq_or_of_lt ha]
def getNext (at' : Nat) (g : Nat × Nat × Int) : Int := if g.2.2 = 0 then ((at' + g.2.1 : Nat) : Int) else 0
theorem getNext_err (a n k : Nat) (e : Int) (h : e ≠ 0) : getNext a (n, k, e) = 0 := by unfold getNext; rw [if_neg h]
theorem getNext_ok (a n i : Nat) : getNext a (n, i + 1, 0) = (a : Int) + i + 1 := by unfold getNext; rw [if_pos rfl]; push_cast; omega
theorem vget_nil : vget [] = (0, 0, 24) := rfl
theorem ten {P : Nat → Prop} (h0 : P 0) (h1 : P 1) (h2 : P 2) (h3 : P 3) (h4 : P 4) (h5 : P 5) (h6 : P 6) (h7 : P 7) (h8 : P 8) (h9 : P 9) : ∀ i, i ≤ 9 → P i := by
  intro i hi
  rcases i with _ | _ | _ | _ | _ | _ | _ | _ | _ | _ | i
  all_goals first | assumption | omega
set_option maxRecDepth 100000 in
set_option maxHeartbeats 8000000 in
theorem number_Get (v : Value) (b : List Nat) (at' : Nat) (w : World) {F : Nat → Prop} (hs : Sl F w v b) (hat : at' ≤ b.length) :
    Calls Try.prog 107 #[v, .int .i64 at'] w (Ret w (.tuple #[.int .u64 (vget (b.drop at')).1, .int .i64 (getNext at' (vget (b.drop at'))), .int .i64 (vget (b.drop at')).2.2])) := by
  obtain ⟨a, n, cap, rfl, Hn, hm, hcap, hcm, hs⟩ := hs.open
  have hatn : at' ≤ n := by rw [Hn.out]; exact hat
  clear hat
  by_cases hlt0 : at' < n
  · obtain ⟨bb, off, x0, rfl, -, hlb, -, -⟩ := hs.byte at' hlt0
    obtain ⟨g, Hg⟩ : ∃ g, Hid (g = vget (b.drop at')) := ⟨_, Lib.hid rfl⟩
    rw [← Hg.out]
    have hd1 : decide ((at' : Int) < 0) = false := by simp
    have hd2 : decide (n < at') = false := by simp; omega
    go_enter Try.func107, Try.ntmps107
    go_wp2_with fail
    go_loopw [4, 22] (fun nv iv wr => ∃ (i acc : Nat), i ≤ n - at' ∧ iv = .int .i64 i ∧ nv = .int .u64 acc ∧ Grow w wr ∧ Hid (g = vgetL i acc (b.drop (at' + i))) ∧ i ≤ 9 ∧ acc < 128 ^ i) (fun _ iv _ => n - at' - (intOf iv).toNat)
    case atStart => exact ⟨0, 0, Nat.zero_le _, rfl, rfl, (by (repeat (first | (with_reducible exact Grow.refl _) | assumption | refine Grow.ext ?_ _ | refine Grow.alloc ?_ _ | refine Grow.drew ?_ | refine Grow.setCell ?_ (by first | (simp; done) | (simp; omega)) _ | refine Grow.trans ?_ (by assumption)))), Lib.hid (by rw [Hg.out]; rfl), by omega, by decide⟩
    case round =>
      obtain ⟨i, acc, hi, rfl, rfl, hb1, Hv, hi9, hacc⟩ := hrel
      obtain ⟨y1, rfl⟩ := ext_of_grow hb1
      by_cases hlt : i < n - at'
      · obtain ⟨bc, oc, c, hac, Hc, hlc, hc8, hcc⟩ := hs.byte (at' + i) (by omega)
        simp only [Option.some.injEq, Addr.mk.injEq, and_true] at hac
        obtain ⟨rfl, rfl⟩ := hac
        have Hd : Hid (b.drop (at' + i) = c :: b.drop (at' + (i + 1))) := Lib.hid (by rw [drop_cons Hc]; rfl)
        have hcc' : w.cell? ⟨bb, off + at' + i, none⟩ = some (.int .u8 (c : Nat)) := by rw [Nat.add_assoc]; exact hcc
        have hu := u8_high ⟨c, hc8⟩
        simp only at hu
        have Hstep : Hid (g = if (i = 9 ∧ 1 < c) ∨ (c = 0 ∧ 0 < i) then (0, 0, 12) else if c < 128 then (acc + c * 128 ^ i, i + 1, 0) else vgetL (i + 1) (acc + c % 128 * 128 ^ i) (b.drop (at' + (i + 1)))) := Lib.hid (by rw [Hv.out, Hd.out, vgetL])
        obtain ⟨V, HV⟩ : ∃ V, Hid (V = acc + c % 128 * 128 ^ i) := ⟨_, Lib.hid rfl⟩
        clear Hv Hd Hc
        by_cases h9 : i = 9
        · subst h9
          by_cases h1c : 1 < c
          · have Hs : Hid (g = (0, 0, 12)) := Lib.hid (by rw [Hstep.out, if_pos (by omega)])
            clear Hstep HV
            by_cases h128 : c < 128
            all_goals
              first | rw [if_pos h128] at hu | rw [if_neg h128] at hu
              obtain ⟨hu1, hu2⟩ := hu
              go_wp2_with fail
              go_ret3
              exact ⟨by rw [Hs.out, getNext_err at' 0 0 12 (by decide)]; simp, (by (repeat (first | (with_reducible exact Grow.refl _) | assumption | refine Grow.ext ?_ _ | refine Grow.alloc ?_ _ | refine Grow.drew ?_ | refine Grow.setCell ?_ (by first | (simp; done) | (simp; omega)) _ | refine Grow.trans ?_ (by assumption))))⟩
          · rw [if_pos (by omega : c < 128)] at hu
            obtain ⟨hu1, hu2⟩ := hu
            by_cases h0c : c = 0
            · subst h0c
              have Hs : Hid (g = (0, 0, 12)) := Lib.hid (by rw [Hstep.out, if_pos (by omega)])
              have hz1 : bits .andNot .u8 0 127 = 0 := by decide +kernel
              have hz2 : bits .xor .u8 0 0 = 0 := by decide +kernel
              clear Hstep HV
              go_wp2_with fail
              go_ret3
              exact ⟨by rw [Hs.out, getNext_err at' 0 0 12 (by decide)]; simp, (by (repeat (first | (with_reducible exact Grow.refl _) | assumption | refine Grow.ext ?_ _ | refine Grow.alloc ?_ _ | refine Grow.drew ?_ | refine Grow.setCell ?_ (by first | (simp; done) | (simp; omega)) _ | refine Grow.trans ?_ (by assumption))))⟩
            · have hc1 : c = 1 := by omega
              have Hs : Hid (g = (V, 10, 0)) := Lib.hid (by rw [Hstep.out, if_neg (by omega), if_pos (by omega), HV.out, Nat.mod_eq_of_lt (by omega : c < 128)])
              have hor : bits .or .u64 (acc : Int) ((c : Int) % 128 * 9223372036854775808) = (V : Int) := by
                have e := or_add 9 acc 1 (by omega) hacc (by omega)
                rw [HV.out, hc1]; exact e
              have hcp : 0 < c := by omega
              have hcl : c < 2 := by omega
              clear Hstep HV hacc hc1 h0c h1c
              go_wp2_with fail
              all_goals first | (exfalso; omega) | skip
              go_ret3
              exact ⟨by rw [Hs.out, getNext_ok at' V 9]; simp, (by (repeat (first | (with_reducible exact Grow.refl _) | assumption | refine Grow.ext ?_ _ | refine Grow.alloc ?_ _ | refine Grow.drew ?_ | refine Grow.setCell ?_ (by first | (simp; done) | (simp; omega)) _ | refine Grow.trans ?_ (by assumption))))⟩
        · have h8 : i ≤ 8 := by omega
          have hx8 : c % 128 * 128 ^ i < 18446744073709551616 := by
            have h1 : 128 ^ i ≤ 128 ^ 8 := Nat.pow_le_pow_right (by omega) h8
            have h2 : c % 128 * 128 ^ i ≤ 127 * 128 ^ 8 := Nat.mul_le_mul (by omega) h1
            omega
          have hor : bits .or .u64 (acc : Int) (IntKind.u64.wrap ((c : Int) % 128 * 2 ^ (7 * i))) = (V : Int) := by
            have e0 : (c : Int) % 128 * 2 ^ (7 * i) = ((c % 128 * 128 ^ i : Nat) : Int) := by
              rw [show (128 : Nat) ^ i = 2 ^ (7 * i) from by rw [Nat.pow_mul]]; push_cast; rfl
            rw [e0, IntKind.wrap_u64, Int.emod_eq_of_lt (by omega) (by omega), or_add i acc (c % 128) hi9 hacc hx8, HV.out]
          by_cases h128 : c < 128
          · rw [if_pos h128] at hu
            obtain ⟨hu1, hu2⟩ := hu
            by_cases h0c : c = 0
            · subst h0c
              have hz1 : bits .andNot .u8 0 127 = 0 := by decide +kernel
              have hz2 : bits .xor .u8 0 0 = 0 := by decide +kernel
              by_cases hi0 : 0 < i
              · have Hs : Hid (g = (0, 0, 12)) := Lib.hid (by rw [Hstep.out, if_pos (by omega)])
                clear Hstep HV hor hacc hx8
                go_wp2_with fail
                go_ret3
                exact ⟨by rw [Hs.out, getNext_err at' 0 0 12 (by decide)]; simp, (by (repeat (first | (with_reducible exact Grow.refl _) | assumption | refine Grow.ext ?_ _ | refine Grow.alloc ?_ _ | refine Grow.drew ?_ | refine Grow.setCell ?_ (by first | (simp; done) | (simp; omega)) _ | refine Grow.trans ?_ (by assumption))))⟩
              · obtain rfl : i = 0 := by omega
                obtain rfl : acc = 0 := Nat.lt_one_iff.1 hacc
                have Hs : Hid (g = (0, 0 + 1, 0)) := Lib.hid (by rw [Hstep.out, if_neg (by omega), if_pos (by omega)])
                have hcc0 : w.cell? ⟨bb, off + at', none⟩ = some (.int .u8 0) := hcc'
                have hz3 : bits .or .u64 0 0 = 0 := by decide +kernel
                have hz4 : bits .or .u64 0 (IntKind.u64.wrap (IntKind.u64.wrap 0)) = 0 := by decide +kernel
                have hz5 : bits .or .u64 0 (IntKind.u64.wrap 0) = 0 := by decide +kernel
                clear Hstep HV hor hacc hx8
                go_wp2_with fail
                go_ret3
                exact ⟨by rw [Hs.out, getNext_ok at' 0 0]; simp, (by (repeat (first | (with_reducible exact Grow.refl _) | assumption | refine Grow.ext ?_ _ | refine Grow.alloc ?_ _ | refine Grow.drew ?_ | refine Grow.setCell ?_ (by first | (simp; done) | (simp; omega)) _ | refine Grow.trans ?_ (by assumption))))⟩
            · have Hs : Hid (g = (V, i + 1, 0)) := Lib.hid (by rw [Hstep.out, if_neg (by omega), if_pos (by omega), HV.out, Nat.mod_eq_of_lt h128])
              clear Hstep HV hacc hx8
              go_wp2_with fail
              go_ret3
              exact ⟨by rw [Hs.out, getNext_ok at' V i]; first | rfl | (simp; done), (by (repeat (first | (with_reducible exact Grow.refl _) | assumption | refine Grow.ext ?_ _ | refine Grow.alloc ?_ _ | refine Grow.drew ?_ | refine Grow.setCell ?_ (by first | (simp; done) | (simp; omega)) _ | refine Grow.trans ?_ (by assumption))))⟩
          · rw [if_neg h128] at hu
            obtain ⟨hu1, hu2⟩ := hu
            have Hs : Hid (g = vgetL (i + 1) V (b.drop (at' + (i + 1)))) := Lib.hid (by rw [Hstep.out, if_neg (by omega), if_neg (by omega), HV.out])
            have hV : V < 128 ^ (i + 1) := by
              rw [HV.out, Nat.pow_succ]
              have : c % 128 * 128 ^ i ≤ 127 * 128 ^ i := Nat.mul_le_mul_right _ (by omega)
              omega
            have HVb := Lib.hid hV
            clear Hstep HV hacc hx8 hV
            go_wp2_with fail
            go_roundw
            case rel => exact ⟨i + 1, V, by omega, by go_num, by go_num, (by (repeat (first | (with_reducible exact Grow.refl _) | assumption | refine Grow.ext ?_ _ | refine Grow.alloc ?_ _ | refine Grow.drew ?_ | refine Grow.setCell ?_ (by first | (simp; done) | (simp; omega)) _ | refine Grow.trans ?_ (by assumption)))), Hs, by omega, HVb.out⟩
            case measure => simp [intOf]; omega
      · have Hd : Hid (g = (0, 0, 24)) := Lib.hid (by rw [Hv.out, List.drop_eq_nil_of_le (by rw [← Hn.out]; omega)]; rfl)
        go_wp2_with fail
        go_ret3
        exact ⟨by rw [Hd.out, getNext_err at' 0 0 24 (by decide)]; simp, (by (repeat (first | (with_reducible exact Grow.refl _) | assumption | refine Grow.ext ?_ _ | refine Grow.alloc ?_ _ | refine Grow.drew ?_ | refine Grow.setCell ?_ (by first | (simp; done) | (simp; omega)) _ | refine Grow.trans ?_ (by assumption))))⟩
  · obtain rfl : at' = n := by omega
    have Hd : Hid (vget (b.drop at') = (0, 0, 24)) := Lib.hid (by rw [List.drop_eq_nil_of_le (by rw [← Hn.out]; omega)]; rfl)
    rw [Hd.out]
    have hgn : getNext at' (0, 0, 24) = 0 := by unfold getNext; simp
    rw [hgn]
    cases a
    all_goals
      go_enter Try.func107, Try.ntmps107
      go_wp2_with fail
    all_goals
      go_loopw [22] (fun i wr => i = .int .i64 0 ∧ Grow w wr) (fun _ _ => 0)
      case atStart => exact ⟨rfl, (by (repeat (first | (with_reducible exact Grow.refl _) | assumption | refine Grow.ext ?_ _ | refine Grow.alloc ?_ _ | refine Grow.drew ?_ | refine Grow.setCell ?_ (by first | (simp; done) | (simp; omega)) _ | refine Grow.trans ?_ (by assumption))))⟩
      case round =>
        obtain ⟨rfl, hb1⟩ := hrel
        obtain ⟨y1, rfl⟩ := ext_of_grow hb1
        go_wp2_with fail
        go_ret3
        exact ⟨by simp, (by (repeat (first | (with_reducible exact Grow.refl _) | assumption | refine Grow.ext ?_ _ | refine Grow.alloc ?_ _ | refine Grow.drew ?_ | refine Grow.setCell ?_ (by first | (simp; done) | (simp; omega)) _ | refine Grow.trans ?_ (by assumption))))⟩
end Go.Proofs.Ytafcdabiplcjiaa
