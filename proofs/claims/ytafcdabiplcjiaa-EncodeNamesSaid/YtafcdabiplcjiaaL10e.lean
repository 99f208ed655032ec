/- Layer 10: lists are read (operands, statements). Printed by gen10e.py. Layer 10: the reader's jump. Printed by gen10f.py. Layer 10: the reader's block; lists of blocks. Printed by gen10g.py. -/
import Derived.Test.YtafcdabiplcjiaaL10b
import Derived.Test.YtafcdabiplcjiaaL08v
import Derived.WalkMore
namespace Go.Proofs.Ytafcdabiplcjiaa
open Go.RowKit
set_option linter.unusedSimpArgs false
set_option linter.unusedVariables false

theorem rdPl_wf (b : List Nat) (s : RS) : (rdPl b s).1.wf := by
  have h := rdNum_le (b := b) (s := s) (lo := 0) (hi := 95) (by omega)
  unfold rdPl
  exact ⟨by unfold I64; dsimp only; omega, by unfold U8; dsimp only; omega⟩
theorem rdSg_i64 {b : List Nat} {s : RS} (hb : ∀ x ∈ b, x < 256) : I64 (rdSg b s).1 := by
  have h := vget_lt (l := b.drop s.at') (fun x hx => hb x (List.mem_of_mem_drop hx))
  unfold rdSg I64
  split
  · dsimp only; omega
  · split
    · dsimp only; omega
    · unfold foldB; dsimp only; split <;> omega
theorem pl0_wf : (⟨0, false, 0⟩ : Pl).wf := ⟨by unfold I64; dsimp only; omega, by unfold U8; dsimp only; omega⟩
theorem opd0_wf : (⟨0, 0, ⟨0, false, 0⟩⟩ : Opd).wf := ⟨by unfold U8; dsimp only; omega, by unfold I64; dsimp only; omega, pl0_wf⟩
theorem rv0_wf : (⟨0, 0, 0, ⟨0, 0, ⟨0, false, 0⟩⟩, ⟨0, 0, ⟨0, false, 0⟩⟩, ⟨0, false, 0⟩⟩ : Rv).wf := ⟨by unfold U8; dsimp only; omega, by unfold U8; dsimp only; omega, by unfold U8; dsimp only; omega, opd0_wf, opd0_wf, pl0_wf⟩
theorem rdU8 {b : List Nat} {lo hi : Nat} {s : RS} (h1 : lo ≤ hi) (h2 : hi < 256) : U8 ((rdNum b lo hi s).1 : Int) := by
  have h := rdNum_le (b := b) (s := s) h1
  unfold U8; omega
theorem rdI64 {b : List Nat} {lo hi : Nat} {s : RS} (h1 : lo ≤ hi) (h2 : hi < 1000) : I64 ((rdNum b lo hi s).1 : Int) := by
  have h := rdNum_le (b := b) (s := s) h1
  unfold I64; omega
theorem rdOpd_wf {b : List Nat} {s : RS} (hb : ∀ x ∈ b, x < 256) : (rdOpd b s).1.wf := by
  unfold rdOpd
  split
  · exact ⟨by unfold U8; dsimp only; omega, rdSg_i64 hb, pl0_wf⟩
  · exact ⟨rdU8 (by omega) (by omega), by unfold I64; dsimp only; omega, rdPl_wf _ _⟩
theorem rdRv_wf {b : List Nat} {s : RS} (hb : ∀ x ∈ b, x < 256) : (rdRv b s).1.wf := by
  have z8 : U8 0 := by unfold U8; omega
  unfold rdRv
  (repeat' split)
  · exact ⟨by unfold U8; dsimp only; omega, z8, z8, rdOpd_wf hb, opd0_wf, pl0_wf⟩
  · exact ⟨by unfold U8; dsimp only; omega, rdU8 (by omega) (by omega), z8, rdOpd_wf hb, rdOpd_wf hb, pl0_wf⟩
  · exact ⟨by unfold U8; dsimp only; omega, z8, z8, rdOpd_wf hb, rdOpd_wf hb, pl0_wf⟩
  · exact ⟨by unfold U8; dsimp only; omega, z8, rdU8 (by omega) (by omega), opd0_wf, opd0_wf, rdPl_wf _ _⟩
  · exact ⟨rdU8 (by omega) (by omega), z8, z8, opd0_wf, opd0_wf, rdPl_wf _ _⟩
theorem rdSt_wf {b : List Nat} {s : RS} (hb : ∀ x ∈ b, x < 256) : (rdSt b s).1.wf := by
  have z64 : I64 0 := by unfold I64; omega
  unfold rdSt
  (repeat' split)
  · exact ⟨by unfold U8; dsimp only; omega, rdPl_wf _ _, rdRv_wf hb, opd0_wf, z64⟩
  · exact ⟨by unfold U8; dsimp only; omega, pl0_wf, rv0_wf, opd0_wf, rdI64 (by omega) (by omega)⟩
  · exact ⟨rdU8 (by omega) (by omega), pl0_wf, rv0_wf, rdOpd_wf hb, z64⟩
/-- n elements are read, to the first error. -/
def rdL {α : Type} (rd : RS → α × RS) : Nat → RS → List α × RS
  | 0, s => ([], s)
  | n + 1, s => if (rd s).2.e ≠ 0 then ([(rd s).1], (rd s).2) else ((rd s).1 :: (rdL rd n (rd s).2).1, (rdL rd n (rd s).2).2)
theorem rdL_at {α : Type} {rd : RS → α × RS} {m : Nat} (hrd : ∀ s, s.at' ≤ m → (rd s).2.at' ≤ m) : ∀ (n : Nat) (s : RS), s.at' ≤ m → (rdL rd n s).2.at' ≤ m
  | 0, s, h => h
  | n + 1, s, h => by
    unfold rdL
    split
    · exact hrd s h
    · exact rdL_at hrd n _ (hrd s h)
def lenV : Value → Nat
  | .slice _ n _ => n
  | _ => 0
def RdnL {α : Type} [Rp α] (W : RS → World) (t : TypeId) (s : RS) (q : List α × RS) (e : Ending) (w' : World) : Prop :=
  ∃ v y, e = .returned v ∧ w' = ext (W q.2) y ∧ Own (fun _ => False) (W s).heap.size t w' v q.1
theorem AgrS.ext0 {F : Nat → Prop} {w w' : World} (hz : w.heap.size = w'.heap.size) (hF : ∀ k, F k → w.heap.size ≤ k) (x : Ext) : AgrS F (Go.Proofs.Ytafcdabiplcjiaa.ext w x) (Go.Proofs.Ytafcdabiplcjiaa.ext w' x) :=
  ⟨by simp only [size_ext, hz], fun k hk hlt => by
    have := hF k hk
    simp only [Go.Proofs.Ytafcdabiplcjiaa.ext, Array.getElem?_append, ← hz]
    rw [if_neg (by omega), if_neg (by omega)]⟩
theorem Own.state0 {α : Type} [Rp α] {T : TypeId} {rb : Nat} {bv : Value} {b : List Nat} {W : RS → World} (h : RdW T rb bv b W) {s : RS} (s' : RS) {x : Ext} {base : Nat} {e : TypeId} {v : Value} {xs : List α}
    (ho : Own (fun _ => False) base e (ext (W s) x) v xs) (hb : (W s).heap.size ≤ base) : Own (fun _ => False) base e (ext (W s') x) v xs := by
  have hz := h.size s s'
  exact ho.keep (AgrS.ext0 hz (by rintro k (hk | hk); exact hk.elim; omega) x).agr (by simp only [size_ext]; omega)
theorem Own.state {α : Type} [Rp α] {T : TypeId} {rb : Nat} {bv : Value} {b : List Nat} {W : RS → World} (h : RdW T rb bv b W) {s s' : RS} {x y : Ext} {base : Nat} {e : TypeId} {v : Value} {xs : List α}
    (ho : Own (fun _ => False) base e (ext (W s) x) v xs) (hb : (W s).heap.size ≤ base) : Own (fun _ => False) base e (ext (ext (W s') x) y) v xs := by
  have hz := h.size s s'
  have q : Own (fun _ => False) base e (ext (W s') x) v xs := ho.keep (AgrS.ext0 hz (by rintro k (hk | hk); exact hk.elim; omega) x).agr (by simp only [size_ext]; omega)
  exact q.mono (grow_ext _ _)
set_option maxRecDepth 100000 in
set_option maxHeartbeats 4000000 in
theorem decode_list_Opd {rb : Nat} {bv : Value} {b : List Nat} {W : RS → World} (h : RdW 93 rb bv b W) (s : RS) (hs : s.at' ≤ b.length) (lo hi : Nat) (hlo : lo ≤ hi) (hhi : hi < 1000) :
    Calls Try.prog 131 #[.pointer (some ⟨rb, 0, none⟩), .int .i64 lo, .int .i64 hi, .func (.func 129) #[.pointer (some ⟨rb, 0, none⟩)] #[]] (W s)
      (RdnL W 45 s (rdL (rdOpd b) (rdNum b lo hi s).1 (rdNum b lo hi s).2)) := by
  haveI hltw : ∀ s, LtW rb (W s) := fun s => ⟨h.lt s⟩
  haveI hsz : ∀ s0 s1, EqW (W s1).heap.size (W s0) := fun s0 s1 => h.szW s1 s0
  have Hz : ∀ s1, (W s1).heap.size = (W s).heap.size := fun s1 => h.size s1 s
  have hc2 : ∀ s, (W s).cell? ⟨rb, 2, none⟩ = some (.int .i64 s.e) := fun s => by simp [World.cell?, h.box s]
  have hb : ∀ x ∈ b, x < 256 := by have := (h.sl s).drop_byte 0; rwa [List.drop_zero] at this
  obtain ⟨q0, Hq0⟩ : ∃ q, Hid (q = rdNum b lo hi s) := ⟨_, Lib.hid rfl⟩
  have Hc0 : Hid (Calls Try.prog 73 #[.pointer (some ⟨rb, 0, none⟩), .int .i64 lo, .int .i64 hi] (W s) (Rdn W (.int .i64 q0.1) q0.2)) := Lib.hid (by rw [Hq0.out]; exact decode_num_int h s hs lo hi (by omega) (by omega))
  have hz0 : q0.2.at' ≤ b.length := by rw [Hq0.out]; exact rdNum_at hb hs
  have hq0 : q0.1 ≤ hi := by rw [Hq0.out]; exact (rdNum_le hlo).2
  rw [← Hq0.out]
  clear Hq0
  obtain ⟨n, s0⟩ := q0
  simp only at hz0 hq0
  dsimp only
  go_enter Try.func131, Try.ntmps131
  go_wp2_with fail
  go_step3
  go_wp2_with (first
    | (go_at_call 73; ((with_reducible refine (Hc0.out).mono ?_); rintro e w1 ⟨rfl, x0, rfl⟩; (try dsimp only []))))
  go_step3
  go_wp2_with fail
  go_loopw [9] (fun tv wr => ∃ (xs : List Opd) (s' : RS) (x : Ext), wr = ext (W s') x ∧ s'.at' ≤ b.length ∧ Own (fun _ => False) (W s).heap.size 45 wr tv xs ∧ xs.length ≤ n ∧ Hid (rdL (rdOpd b) n s0 = (xs ++ (rdL (rdOpd b) (n - xs.length) s').1, (rdL (rdOpd b) (n - xs.length) s').2))) (fun tv _ => n - lenV tv)
  case atStart => exact ⟨[], s0, x0, rfl, hz0, Own.nil _ _ _ _, Nat.zero_le _, Lib.hid (by simp)⟩
  case round =>
    obtain ⟨xs, s', x, rfl, hz, hown, hxn, Hr⟩ := hrel
    obtain ⟨a, m, cap, rfl, Hm, hm, hown⟩ := hown.open
    have hmn : m ≤ n := by rw [Hm.out]; exact hxn
    rw [← Hm.out] at Hr
    by_cases hlt : m < n
    · obtain ⟨q1, Hq1⟩ : ∃ q, Hid (q = rdOpd b s') := ⟨_, Lib.hid rfl⟩
      have Hc1 : Hid (∀ W2, RdW 93 rb bv b W2 → Calls Try.prog 129 #[.pointer (some ⟨rb, 0, none⟩)] (W2 s') (Rdn W2 q1.1.v q1.2)) := Lib.hid (fun W2 h2 => by rw [Hq1.out]; exact decode_operand h2 s' hz)
      have hz1 : q1.2.at' ≤ b.length := by rw [Hq1.out]; exact rdOpd_at hb hz
      have hwy : q1.1.wf := by rw [Hq1.out]; exact rdOpd_wf hb
      have Hr1 : Hid (rdL (rdOpd b) (n - m) s' = if q1.2.e ≠ 0 then ([q1.1], q1.2) else (q1.1 :: (rdL (rdOpd b) (n - (m + 1)) q1.2).1, (rdL (rdOpd b) (n - (m + 1)) q1.2).2)) := Lib.hid (by
        obtain ⟨k, hk⟩ : ∃ k, n - m = k + 1 := ⟨n - m - 1, by omega⟩
        have hk2 : n - (m + 1) = k := by omega
        rw [hk, hk2, rdL, ← Hq1.out])
      have hxl : xs.length < 1000 := by rw [← Hm.out]; omega
      obtain ⟨y, s2⟩ := q1
      simp only at hz1 hwy
      by_cases he : s2.e = 0
      · have Hs : Hid (rdL (rdOpd b) n s0 = ((xs ++ [y]) ++ (rdL (rdOpd b) (n - (m + 1)) s2).1, (rdL (rdOpd b) (n - (m + 1)) s2).2)) := Lib.hid (by rw [Hr.out, Hr1.out, if_neg (by simpa using he)]; simp)
        have he' : (s2.e != 0) = false := by simp [he]
        clear Hr Hr1 Hq1 he
        go_wp2_with (first
          | (go_at_call 129; ((with_reducible refine (Hc1.out _ (h.ext _)).mono ?_); rintro e w1 ⟨rfl, x1, rfl⟩; (try dsimp only [])))
          | (at_builtin; go_must (refine wpList_app1 (α := Opd) slTv_Opd rfl rfl rfl (hown.state0 h s2 (Nat.le_of_eq (Hz s'))) (by (repeat (first | (with_reducible exact Grow.refl _) | assumption | refine Grow.ext ?_ _ | refine Grow.alloc ?_ _ | refine Grow.drew ?_ | refine Grow.setCell ?_ (by first | (simp; done) | (simp; omega)) _ | refine Grow.trans ?_ (by assumption)))) (Nat.le_of_eq (Hz s2)) (by simp; have := Hz s2; omega) rfl (y := y) (Gy := fun _ => False) ⟨rfl, hwy⟩ (fun _ h => h.elim) (by (repeat (refine CellsAt.cons (by go_simp) ?_)); exact CellsAt.nil _ _ _) (by simp [Value.oneCell']) (by omega) (by omega) ?_); intro tv' x' hown' hsz' hagr))
        go_roundw
        case rel => exact ⟨xs ++ [y], s2, x', rfl, hz1, hown', by rw [List.length_append]; have := Hm.out; simp only [List.length_cons, List.length_nil]; omega, Lib.hid (by rw [List.length_append, ← Hm.out]; exact Hs.out)⟩
        case measure => obtain ⟨a', m', cap', rfl, Hm', hm', hown'⟩ := hown'.open; have := Hm'.out; rw [List.length_append, ← Hm.out] at this; simp [lenV] at this ⊢; omega
      · have Hs : Hid (rdL (rdOpd b) n s0 = (xs ++ [y], s2)) := Lib.hid (by rw [Hr.out, Hr1.out, if_pos (by simpa using he)])
        have he' : (s2.e != 0) = true := by simp [he]
        clear Hr Hr1 Hq1 he
        go_wp2_with (first
          | (go_at_call 129; ((with_reducible refine (Hc1.out _ (h.ext _)).mono ?_); rintro e w1 ⟨rfl, x1, rfl⟩; (try dsimp only [])))
          | (at_builtin; go_must (refine wpList_app1 (α := Opd) slTv_Opd rfl rfl rfl (hown.state0 h s2 (Nat.le_of_eq (Hz s'))) (by (repeat (first | (with_reducible exact Grow.refl _) | assumption | refine Grow.ext ?_ _ | refine Grow.alloc ?_ _ | refine Grow.drew ?_ | refine Grow.setCell ?_ (by first | (simp; done) | (simp; omega)) _ | refine Grow.trans ?_ (by assumption)))) (Nat.le_of_eq (Hz s2)) (by simp; have := Hz s2; omega) rfl (y := y) (Gy := fun _ => False) ⟨rfl, hwy⟩ (fun _ h => h.elim) (by (repeat (refine CellsAt.cons (by go_simp) ?_)); exact CellsAt.nil _ _ _) (by simp [Value.oneCell']) (by omega) (by omega) ?_); intro tv' x' hown' hsz' hagr))
        (try rw [Exit.noGoto_ret])
        go_ret
        exact ⟨_, x', rfl, by rw [Hs.out], by rw [Hs.out]; exact hown'⟩
    · have Hs : Hid (rdL (rdOpd b) n s0 = (xs, s')) := Lib.hid (by rw [Hr.out, show n - m = 0 from by omega, rdL]; simp)
      clear Hr
      go_wp2_with fail
      (try rw [Exit.noGoto_ret])
      go_ret
      exact ⟨_, x, rfl, by rw [Hs.out], by rw [Hs.out]; exact hown⟩

set_option maxRecDepth 100000 in
set_option maxHeartbeats 4000000 in
theorem decode_list_St {rb : Nat} {bv : Value} {b : List Nat} {W : RS → World} (h : RdW 93 rb bv b W) (s : RS) (hs : s.at' ≤ b.length) (lo hi : Nat) (hlo : lo ≤ hi) (hhi : hi < 1000) :
    Calls Try.prog 108 #[.pointer (some ⟨rb, 0, none⟩), .int .i64 lo, .int .i64 hi, .func (.func 109) #[.pointer (some ⟨rb, 0, none⟩)] #[]] (W s)
      (RdnL W 54 s (rdL (rdSt b) (rdNum b lo hi s).1 (rdNum b lo hi s).2)) := by
  haveI hltw : ∀ s, LtW rb (W s) := fun s => ⟨h.lt s⟩
  haveI hsz : ∀ s0 s1, EqW (W s1).heap.size (W s0) := fun s0 s1 => h.szW s1 s0
  have Hz : ∀ s1, (W s1).heap.size = (W s).heap.size := fun s1 => h.size s1 s
  have hc2 : ∀ s, (W s).cell? ⟨rb, 2, none⟩ = some (.int .i64 s.e) := fun s => by simp [World.cell?, h.box s]
  have hb : ∀ x ∈ b, x < 256 := by have := (h.sl s).drop_byte 0; rwa [List.drop_zero] at this
  obtain ⟨q0, Hq0⟩ : ∃ q, Hid (q = rdNum b lo hi s) := ⟨_, Lib.hid rfl⟩
  have Hc0 : Hid (Calls Try.prog 73 #[.pointer (some ⟨rb, 0, none⟩), .int .i64 lo, .int .i64 hi] (W s) (Rdn W (.int .i64 q0.1) q0.2)) := Lib.hid (by rw [Hq0.out]; exact decode_num_int h s hs lo hi (by omega) (by omega))
  have hz0 : q0.2.at' ≤ b.length := by rw [Hq0.out]; exact rdNum_at hb hs
  have hq0 : q0.1 ≤ hi := by rw [Hq0.out]; exact (rdNum_le hlo).2
  rw [← Hq0.out]
  clear Hq0
  obtain ⟨n, s0⟩ := q0
  simp only at hz0 hq0
  dsimp only
  go_enter Try.func108, Try.ntmps108
  go_wp2_with fail
  go_step3
  go_wp2_with (first
    | (go_at_call 73; ((with_reducible refine (Hc0.out).mono ?_); rintro e w1 ⟨rfl, x0, rfl⟩; (try dsimp only []))))
  go_step3
  go_wp2_with fail
  go_loopw [9] (fun tv wr => ∃ (xs : List St) (s' : RS) (x : Ext), wr = ext (W s') x ∧ s'.at' ≤ b.length ∧ Own (fun _ => False) (W s).heap.size 54 wr tv xs ∧ xs.length ≤ n ∧ Hid (rdL (rdSt b) n s0 = (xs ++ (rdL (rdSt b) (n - xs.length) s').1, (rdL (rdSt b) (n - xs.length) s').2))) (fun tv _ => n - lenV tv)
  case atStart => exact ⟨[], s0, x0, rfl, hz0, Own.nil _ _ _ _, Nat.zero_le _, Lib.hid (by simp)⟩
  case round =>
    obtain ⟨xs, s', x, rfl, hz, hown, hxn, Hr⟩ := hrel
    obtain ⟨a, m, cap, rfl, Hm, hm, hown⟩ := hown.open
    have hmn : m ≤ n := by rw [Hm.out]; exact hxn
    rw [← Hm.out] at Hr
    by_cases hlt : m < n
    · obtain ⟨q1, Hq1⟩ : ∃ q, Hid (q = rdSt b s') := ⟨_, Lib.hid rfl⟩
      have Hc1 : Hid (∀ W2, RdW 93 rb bv b W2 → Calls Try.prog 109 #[.pointer (some ⟨rb, 0, none⟩)] (W2 s') (Rdn W2 q1.1.v q1.2)) := Lib.hid (fun W2 h2 => by rw [Hq1.out]; exact decode_stmt h2 s' hz)
      have hz1 : q1.2.at' ≤ b.length := by rw [Hq1.out]; exact rdSt_at hb hz
      have hwy : q1.1.wf := by rw [Hq1.out]; exact rdSt_wf hb
      have Hr1 : Hid (rdL (rdSt b) (n - m) s' = if q1.2.e ≠ 0 then ([q1.1], q1.2) else (q1.1 :: (rdL (rdSt b) (n - (m + 1)) q1.2).1, (rdL (rdSt b) (n - (m + 1)) q1.2).2)) := Lib.hid (by
        obtain ⟨k, hk⟩ : ∃ k, n - m = k + 1 := ⟨n - m - 1, by omega⟩
        have hk2 : n - (m + 1) = k := by omega
        rw [hk, hk2, rdL, ← Hq1.out])
      have hxl : xs.length < 1000 := by rw [← Hm.out]; omega
      obtain ⟨y, s2⟩ := q1
      simp only at hz1 hwy
      by_cases he : s2.e = 0
      · have Hs : Hid (rdL (rdSt b) n s0 = ((xs ++ [y]) ++ (rdL (rdSt b) (n - (m + 1)) s2).1, (rdL (rdSt b) (n - (m + 1)) s2).2)) := Lib.hid (by rw [Hr.out, Hr1.out, if_neg (by simpa using he)]; simp)
        have he' : (s2.e != 0) = false := by simp [he]
        clear Hr Hr1 Hq1 he
        go_wp2_with (first
          | (go_at_call 109; ((with_reducible refine (Hc1.out _ (h.ext _)).mono ?_); rintro e w1 ⟨rfl, x1, rfl⟩; (try dsimp only [])))
          | (at_builtin; go_must (refine wpList_app1 (α := St) slTv_St rfl rfl rfl (hown.state0 h s2 (Nat.le_of_eq (Hz s'))) (by (repeat (first | (with_reducible exact Grow.refl _) | assumption | refine Grow.ext ?_ _ | refine Grow.alloc ?_ _ | refine Grow.drew ?_ | refine Grow.setCell ?_ (by first | (simp; done) | (simp; omega)) _ | refine Grow.trans ?_ (by assumption)))) (Nat.le_of_eq (Hz s2)) (by simp; have := Hz s2; omega) rfl (y := y) (Gy := fun _ => False) ⟨rfl, hwy⟩ (fun _ h => h.elim) (by (repeat (refine CellsAt.cons (by go_simp) ?_)); exact CellsAt.nil _ _ _) (by simp [Value.oneCell']) (by omega) (by omega) ?_); intro tv' x' hown' hsz' hagr))
        go_roundw
        case rel => exact ⟨xs ++ [y], s2, x', rfl, hz1, hown', by rw [List.length_append]; have := Hm.out; simp only [List.length_cons, List.length_nil]; omega, Lib.hid (by rw [List.length_append, ← Hm.out]; exact Hs.out)⟩
        case measure => obtain ⟨a', m', cap', rfl, Hm', hm', hown'⟩ := hown'.open; have := Hm'.out; rw [List.length_append, ← Hm.out] at this; simp [lenV] at this ⊢; omega
      · have Hs : Hid (rdL (rdSt b) n s0 = (xs ++ [y], s2)) := Lib.hid (by rw [Hr.out, Hr1.out, if_pos (by simpa using he)])
        have he' : (s2.e != 0) = true := by simp [he]
        clear Hr Hr1 Hq1 he
        go_wp2_with (first
          | (go_at_call 109; ((with_reducible refine (Hc1.out _ (h.ext _)).mono ?_); rintro e w1 ⟨rfl, x1, rfl⟩; (try dsimp only [])))
          | (at_builtin; go_must (refine wpList_app1 (α := St) slTv_St rfl rfl rfl (hown.state0 h s2 (Nat.le_of_eq (Hz s'))) (by (repeat (first | (with_reducible exact Grow.refl _) | assumption | refine Grow.ext ?_ _ | refine Grow.alloc ?_ _ | refine Grow.drew ?_ | refine Grow.setCell ?_ (by first | (simp; done) | (simp; omega)) _ | refine Grow.trans ?_ (by assumption)))) (Nat.le_of_eq (Hz s2)) (by simp; have := Hz s2; omega) rfl (y := y) (Gy := fun _ => False) ⟨rfl, hwy⟩ (fun _ h => h.elim) (by (repeat (refine CellsAt.cons (by go_simp) ?_)); exact CellsAt.nil _ _ _) (by simp [Value.oneCell']) (by omega) (by omega) ?_); intro tv' x' hown' hsz' hagr))
        (try rw [Exit.noGoto_ret])
        go_ret
        exact ⟨_, x', rfl, by rw [Hs.out], by rw [Hs.out]; exact hown'⟩
    · have Hs : Hid (rdL (rdSt b) n s0 = (xs, s')) := Lib.hid (by rw [Hr.out, show n - m = 0 from by omega, rdL]; simp)
      clear Hr
      go_wp2_with fail
      (try rw [Exit.noGoto_ret])
      go_ret
      exact ⟨_, x, rfl, by rw [Hs.out], by rw [Hs.out]; exact hown⟩
/-- A box pb that holds p, in every state. -/
structure Pb (pb : Nat) (p : Value) (W : RS → World) : Prop where
  lt : ∀ s, pb < (W s).heap.size
  cell : ∀ s, (W s).cell? ⟨pb, 0, none⟩ = some p
theorem Pb.ext {pb : Nat} {p : Value} {W : RS → World} (h : Pb pb p W) (x0 : Ext) : Pb pb p (fun s => Go.Proofs.Ytafcdabiplcjiaa.ext (W s) x0) where
  lt s := by simp only [size_ext]; have := h.lt s; omega
  cell s := by have : LtW pb (W s) := ⟨h.lt s⟩; rw [ext_cell]; exact h.cell s
theorem Pb.alloc {pb : Nat} {p : Value} {W : RS → World} (h : Pb pb p W) (o : Obj) : Pb pb p (fun s => (W s).alloc o) where
  lt s := by simp only [alloc_size]; have := h.lt s; omega
  cell s := by have : LtW pb (W s) := ⟨h.lt s⟩; rw [alloc_cell]; exact h.cell s
theorem Pb.new {T : TypeId} {rb : Nat} {bv : Value} {b : List Nat} {W : RS → World} (h : RdW T rb bv b W) (s : RS) (p : Value) (t : TypeId) : Pb (W s).heap.size p (fun s => (W s).alloc (.cells #[p] t)) where
  lt s1 := by simp only [alloc_size]; have := h.size s s1; omega
  cell s1 := by rw [h.size s s1]; go_simp
theorem decode_jump1 {rb : Nat} {bv : Value} {b : List Nat} {W : RS → World} {pb : Nat} (h : RdW 93 rb bv b W) (hp : Pb pb (.pointer (some ⟨rb, 0, none⟩)) W) (s : RS) (hs : s.at' ≤ b.length) :
    Calls Try.prog 130 #[.pointer (some ⟨pb, 0, none⟩)] (W s) (Rdn W (.int .i64 (rdNum b 0 23 s).1) (rdNum b 0 23 s).2) := by
  have hc := hp.cell s
  have Hc : Hid (Calls Try.prog 73 #[.pointer (some ⟨rb, 0, none⟩), .int .i64 0, .int .i64 23] (W s) (Rdn W (.int .i64 (rdNum b 0 23 s).1) (rdNum b 0 23 s).2)) := Lib.hid (decode_num_int h s hs 0 23 (by omega) (by omega))
  generalize rdNum b 0 23 s = q at Hc ⊢
  obtain ⟨u, s1⟩ := q
  go_enter Try.func130, Try.ntmps130
  go_wp2_with (first
    | (go_at_call 73; ((with_reducible refine (Hc.out).mono ?_); rintro e w1 ⟨rfl, x0, rfl⟩; (try dsimp only []))))
  go_ret
  exact ⟨rfl, _, rfl⟩
/-- A jump is read. -/
def rdJu (b : List Nat) (s : RS) : Ju × RS :=
  if (rdNum b 1 5 s).1 = 1 then (⟨1, ⟨0, 0, ⟨0, false, 0⟩⟩, 0, (rdNum b 0 23 (rdNum b 1 5 s).2).1, 0, [], ⟨0, false, 0⟩⟩, (rdNum b 0 23 (rdNum b 1 5 s).2).2)
  else if (rdNum b 1 5 s).1 = 2 then
    (⟨2, (rdOpd b (rdNum b 1 5 s).2).1, 0, (rdNum b 0 23 (rdOpd b (rdNum b 1 5 s).2).2).1, (rdNum b 0 23 (rdNum b 0 23 (rdOpd b (rdNum b 1 5 s).2).2).2).1, [], ⟨0, false, 0⟩⟩, (rdNum b 0 23 (rdNum b 0 23 (rdOpd b (rdNum b 1 5 s).2).2).2).2)
  else if (rdNum b 1 5 s).1 = 4 then
    let f := rdNum b 0 7 (rdNum b 1 5 s).2
    let l := rdL (rdOpd b) (rdNum b 0 8 f.2).1 (rdNum b 0 8 f.2).2
    let d := rdPl b l.2
    let x := rdNum b 0 23 d.2
    (⟨4, ⟨0, 0, ⟨0, false, 0⟩⟩, f.1, x.1, 0, l.1, d.1⟩, x.2)
  else (⟨(rdNum b 1 5 s).1, ⟨0, 0, ⟨0, false, 0⟩⟩, 0, 0, 0, [], ⟨0, false, 0⟩⟩, (rdNum b 1 5 s).2)
theorem rdJu_at {b : List Nat} {s : RS} (hb : ∀ x ∈ b, x < 256) (hs : s.at' ≤ b.length) : (rdJu b s).2.at' ≤ b.length := by
  have h0 := rdNum_at (lo := 1) (hi := 5) hb hs
  unfold rdJu
  (repeat' split)
  · exact rdNum_at hb h0
  · exact rdNum_at hb (rdNum_at hb (rdOpd_at hb h0))
  · exact rdNum_at hb (rdPl_at hb (rdL_at (fun s hs => rdOpd_at hb hs) _ _ (rdNum_at hb (rdNum_at hb h0))))
  · exact h0
def RdnJ (W : RS → World) (s : RS) (q : Ju × RS) (e : Ending) (w' : World) : Prop :=
  ∃ v y, e = .returned (q.1.v v) ∧ w' = ext (W q.2) y ∧ Own (fun _ => False) (W s).heap.size 45 w' v q.1.args
theorem postJ_of {P : Program} {fn : Func} {a : Act} {w : World} {W : RS → World} {s : RS} {q : Ju × RS} {v' : Value}
    (hr : (results fn a.tmps).run P w = .ok v' w) (hd : a.defers = []) (g : Grow (W q.2) w) (v : Value) (hv : v' = q.1.v v) (ho : Own (fun _ => False) (W s).heap.size 45 w v q.1.args) : bodyPost P fn (RdnJ W s q) .ret a w := by
  obtain ⟨y, hy⟩ := ext_of_grow g
  exact bodyPost_ret hr hd ⟨v, y, by rw [hv], hy, ho⟩
theorem Own.shift {α : Type} [Rp α] {A B : World} {x : Ext} {base : Nat} {e : TypeId} {v : Value} {xs : List α} (hz : A.heap.size = B.heap.size)
    (ho : Own (fun _ => False) base e (ext A x) v xs) (hb : A.heap.size ≤ base) : Own (fun _ => False) base e (ext B x) v xs :=
  ho.keep (AgrS.ext0 hz (by rintro k (hk | hk); exact hk.elim; omega) x).agr (by simp only [size_ext]; omega)
set_option maxRecDepth 100000 in
set_option maxHeartbeats 8000000 in
theorem decode_jump {rb : Nat} {bv : Value} {b : List Nat} {W : RS → World} (h : RdW 93 rb bv b W) (s : RS) (hs : s.at' ≤ b.length) :
    Calls Try.prog 110 #[.pointer (some ⟨rb, 0, none⟩)] (W s) (RdnJ W s (rdJu b s)) := by
  haveI hltw : ∀ s, LtW rb (W s) := fun s => ⟨h.lt s⟩
  haveI hsz : ∀ s0 s1, EqW (W s1).heap.size (W s0) := fun s0 s1 => h.szW s1 s0
  have Hz : Hid (∀ s1, (W s1).heap.size = (W s).heap.size) := Lib.hid (fun s1 => h.size s1 s)
  have hb : ∀ x ∈ b, x < 256 := by have := (h.sl s).drop_byte 0; rwa [List.drop_zero] at this
  have Hp := Pb.new h s (.pointer (some ⟨rb, 0, none⟩)) 91
  obtain ⟨q0, Hq0⟩ : ∃ q, Hid (q = rdNum b 1 5 s) := ⟨_, Lib.hid rfl⟩
  have Hc0 : Hid (∀ W2, RdW 93 rb bv b W2 → Calls Try.prog 126 #[.pointer (some ⟨rb, 0, none⟩), .int .u8 1, .int .u8 5] (W2 s) (Rdn W2 (.int .u8 q0.1) q0.2)) := Lib.hid (fun W2 h2 => by rw [Hq0.out]; exact decode_num_u8 h2 s hs 1 5 (by omega) (by omega))
  have hz0 : q0.2.at' ≤ b.length := by rw [Hq0.out]; exact rdNum_at hb hs
  have hq0 : 1 ≤ q0.1 ∧ q0.1 ≤ 5 := by rw [Hq0.out]; exact rdNum_le (by omega)
  have hk : q0.1 = 1 ∨ q0.1 = 2 ∨ q0.1 = 3 ∨ q0.1 = 4 ∨ q0.1 = 5 := by omega
  clear hq0
  rcases hk with hk | hk | hk | hk | hk
  · obtain ⟨q1, Hq1⟩ : ∃ q, Hid (q = rdNum b 0 23 q0.2) := ⟨_, Lib.hid rfl⟩
    have Hc1 : Hid (∀ W2, RdW 93 rb bv b W2 → Pb (W s).heap.size (.pointer (some ⟨rb, 0, none⟩)) W2 → Calls Try.prog 130 #[.pointer (some ⟨(W s).heap.size, 0, none⟩)] (W2 q0.2) (Rdn W2 (.int .i64 q1.1) q1.2)) := Lib.hid (fun W2 h2 hp2 => by rw [Hq1.out]; exact decode_jump1 h2 hp2 q0.2 hz0)
    have hz1 : q1.2.at' ≤ b.length := by rw [Hq1.out]; exact rdNum_at hb hz0
    have Hr : Hid (rdJu b s = (⟨1, ⟨0, 0, ⟨0, false, 0⟩⟩, 0, q1.1, 0, [], ⟨0, false, 0⟩⟩, q1.2)) := Lib.hid (by unfold rdJu; simp only [← Hq0.out]; (try rw [if_neg (by rw [hk]; decide)]); (try rw [if_neg (by rw [hk]; decide)]); (try rw [if_neg (by rw [hk]; decide)]); (try rw [if_neg (by rw [hk]; decide)]); (try rw [if_pos hk]); (try simp only [← Hq1.out]); (first | done | rfl | (rw [hk]; rfl)))
    rw [Hr.out]
    clear Hr hb hz0 hz1
    clear Hq1 Hq0
    obtain ⟨u0, s0⟩ := q0
    obtain ⟨u1, s1⟩ := q1
    simp only at hk
    subst hk
    go_enter Try.func110, Try.ntmps110
    go_wp2_with (first
      | (go_at_call 126; ((with_reducible refine (Hc0.out _ ((h.alloc _).alloc _)).mono ?_); rintro e w1 ⟨rfl, x0, rfl⟩; (try dsimp only [])))
      | (go_at_call 130; ((with_reducible refine (Hc1.out _ ((((h.alloc _).alloc _).ext _).alloc _) (((Hp.alloc _).ext _).alloc _)).mono ?_); rintro e w1 ⟨rfl, x1, rfl⟩; (try dsimp only []))))
    (try simp only [Exit.inBlock, Exit.then])
    exact postJ_of (by simp only [results, Try.results110]; go_simp <;> rfl) rfl (by (repeat (first | (with_reducible exact Grow.refl _) | assumption | refine Grow.ext ?_ _ | refine Grow.alloc ?_ _ | refine Grow.drew ?_ | refine Grow.setCell ?_ (by first | (simp; done) | (simp; omega)) _ | refine Grow.trans ?_ (by assumption)))) (.slice none 0 0) rfl (Own.nil _ _ _ _)
  · obtain ⟨q1, Hq1⟩ : ∃ q, Hid (q = rdOpd b q0.2) := ⟨_, Lib.hid rfl⟩
    have Hc1 : Hid (∀ W2, RdW 93 rb bv b W2 → Calls Try.prog 129 #[.pointer (some ⟨rb, 0, none⟩)] (W2 q0.2) (Rdn W2 q1.1.v q1.2)) := Lib.hid (fun W2 h2 => by rw [Hq1.out]; exact decode_operand h2 q0.2 hz0)
    have hz1 : q1.2.at' ≤ b.length := by rw [Hq1.out]; exact rdOpd_at hb hz0
    obtain ⟨q2, Hq2⟩ : ∃ q, Hid (q = rdNum b 0 23 q1.2) := ⟨_, Lib.hid rfl⟩
    have Hc2 : Hid (∀ W2, RdW 93 rb bv b W2 → Pb (W s).heap.size (.pointer (some ⟨rb, 0, none⟩)) W2 → Calls Try.prog 130 #[.pointer (some ⟨(W s).heap.size, 0, none⟩)] (W2 q1.2) (Rdn W2 (.int .i64 q2.1) q2.2)) := Lib.hid (fun W2 h2 hp2 => by rw [Hq2.out]; exact decode_jump1 h2 hp2 q1.2 hz1)
    have hz2 : q2.2.at' ≤ b.length := by rw [Hq2.out]; exact rdNum_at hb hz1
    obtain ⟨q3, Hq3⟩ : ∃ q, Hid (q = rdNum b 0 23 q2.2) := ⟨_, Lib.hid rfl⟩
    have Hc3 : Hid (∀ W2, RdW 93 rb bv b W2 → Pb (W s).heap.size (.pointer (some ⟨rb, 0, none⟩)) W2 → Calls Try.prog 130 #[.pointer (some ⟨(W s).heap.size, 0, none⟩)] (W2 q2.2) (Rdn W2 (.int .i64 q3.1) q3.2)) := Lib.hid (fun W2 h2 hp2 => by rw [Hq3.out]; exact decode_jump1 h2 hp2 q2.2 hz2)
    have hz3 : q3.2.at' ≤ b.length := by rw [Hq3.out]; exact rdNum_at hb hz2
    have Hr : Hid (rdJu b s = (⟨2, q1.1, 0, q2.1, q3.1, [], ⟨0, false, 0⟩⟩, q3.2)) := Lib.hid (by unfold rdJu; simp only [← Hq0.out]; (try rw [if_neg (by rw [hk]; decide)]); (try rw [if_neg (by rw [hk]; decide)]); (try rw [if_neg (by rw [hk]; decide)]); (try rw [if_neg (by rw [hk]; decide)]); (try rw [if_pos hk]); (try simp only [← Hq1.out]); (try simp only [← Hq2.out]); (try simp only [← Hq3.out]); (first | done | rfl | (rw [hk]; rfl)))
    rw [Hr.out]
    clear Hr hb hz0 hz1 hz2 hz3
    clear Hq3 Hq2 Hq1 Hq0
    obtain ⟨u0, s0⟩ := q0
    obtain ⟨⟨k1, n1, ⟨l1, d1, f1⟩⟩, s1⟩ := q1
    obtain ⟨u2, s2⟩ := q2
    obtain ⟨u3, s3⟩ := q3
    simp only at hk
    subst hk
    go_enter Try.func110, Try.ntmps110
    go_wp2_with (first
      | (go_at_call 126; ((with_reducible refine (Hc0.out _ ((h.alloc _).alloc _)).mono ?_); rintro e w1 ⟨rfl, x0, rfl⟩; (try dsimp only [])))
      | (go_at_call 129; ((with_reducible refine (Hc1.out _ ((((h.alloc _).alloc _).ext _).alloc _)).mono ?_); rintro e w1 ⟨rfl, x1, rfl⟩; (try dsimp only [])))
      | (go_at_call 130; ((with_reducible refine (Hc2.out _ (((((h.alloc _).alloc _).ext _).alloc _).ext _) ((((Hp.alloc _).ext _).alloc _).ext _)).mono ?_); rintro e w1 ⟨rfl, x2, rfl⟩; (try dsimp only [])))
      | (go_at_call 130; ((with_reducible refine (Hc3.out _ ((((((h.alloc _).alloc _).ext _).alloc _).ext _).ext _) (((((Hp.alloc _).ext _).alloc _).ext _).ext _)).mono ?_); rintro e w1 ⟨rfl, x3, rfl⟩; (try dsimp only []))))
    (try simp only [Exit.inBlock, Exit.then])
    exact postJ_of (by simp only [results, Try.results110]; go_simp <;> rfl) rfl (by (repeat (first | (with_reducible exact Grow.refl _) | assumption | refine Grow.ext ?_ _ | refine Grow.alloc ?_ _ | refine Grow.drew ?_ | refine Grow.setCell ?_ (by first | (simp; done) | (simp; omega)) _ | refine Grow.trans ?_ (by assumption)))) (.slice none 0 0) rfl (Own.nil _ _ _ _)
  · have Hr : Hid (rdJu b s = (⟨3, ⟨0, 0, ⟨0, false, 0⟩⟩, 0, 0, 0, [], ⟨0, false, 0⟩⟩, q0.2)) := Lib.hid (by unfold rdJu; simp only [← Hq0.out]; (try rw [if_neg (by rw [hk]; decide)]); (try rw [if_neg (by rw [hk]; decide)]); (try rw [if_neg (by rw [hk]; decide)]); (try rw [if_neg (by rw [hk]; decide)]); (try rw [if_pos hk]); (first | done | rfl | (rw [hk]; rfl)))
    rw [Hr.out]
    clear Hr hb hz0
    clear Hq0
    obtain ⟨u0, s0⟩ := q0
    simp only at hk
    subst hk
    go_enter Try.func110, Try.ntmps110
    go_wp2_with (first
      | (go_at_call 126; ((with_reducible refine (Hc0.out _ ((h.alloc _).alloc _)).mono ?_); rintro e w1 ⟨rfl, x0, rfl⟩; (try dsimp only []))))
    (try simp only [Exit.inBlock, Exit.then])
    exact postJ_of (by simp only [results, Try.results110]; go_simp <;> rfl) rfl (by (repeat (first | (with_reducible exact Grow.refl _) | assumption | refine Grow.ext ?_ _ | refine Grow.alloc ?_ _ | refine Grow.drew ?_ | refine Grow.setCell ?_ (by first | (simp; done) | (simp; omega)) _ | refine Grow.trans ?_ (by assumption)))) (.slice none 0 0) rfl (Own.nil _ _ _ _)
  · obtain ⟨q1, Hq1⟩ : ∃ q, Hid (q = rdNum b 0 7 q0.2) := ⟨_, Lib.hid rfl⟩
    have Hc1 : Hid (∀ W2, RdW 93 rb bv b W2 → Calls Try.prog 73 #[.pointer (some ⟨rb, 0, none⟩), .int .i64 0, .int .i64 7] (W2 q0.2) (Rdn W2 (.int .i64 q1.1) q1.2)) := Lib.hid (fun W2 h2 => by rw [Hq1.out]; exact decode_num_int h2 q0.2 hz0 0 7 (by omega) (by omega))
    have hz1 : q1.2.at' ≤ b.length := by rw [Hq1.out]; exact rdNum_at hb hz0
    obtain ⟨q2, Hq2⟩ : ∃ q, Hid (q = rdL (rdOpd b) (rdNum b 0 8 q1.2).1 (rdNum b 0 8 q1.2).2) := ⟨_, Lib.hid rfl⟩
    have Hc2 : Hid (∀ W2, RdW 93 rb bv b W2 → Calls Try.prog 131 #[.pointer (some ⟨rb, 0, none⟩), .int .i64 0, .int .i64 8, .func (.func 129) #[.pointer (some ⟨rb, 0, none⟩)] #[]] (W2 q1.2) (RdnL W2 45 q1.2 q2)) := Lib.hid (fun W2 h2 => by rw [Hq2.out]; exact decode_list_Opd h2 q1.2 hz1 0 8 (by omega) (by omega))
    have hz2 : q2.2.at' ≤ b.length := by rw [Hq2.out]; exact rdL_at (fun s hs => rdOpd_at hb hs) _ _ (rdNum_at hb hz1)
    obtain ⟨q3, Hq3⟩ : ∃ q, Hid (q = rdPl b q2.2) := ⟨_, Lib.hid rfl⟩
    have Hc3 : Hid (∀ W2, RdW 93 rb bv b W2 → Calls Try.prog 127 #[.pointer (some ⟨rb, 0, none⟩)] (W2 q2.2) (Rdn W2 q3.1.v q3.2)) := Lib.hid (fun W2 h2 => by rw [Hq3.out]; exact decode_place h2 q2.2 hz2)
    have hz3 : q3.2.at' ≤ b.length := by rw [Hq3.out]; exact rdPl_at hb hz2
    obtain ⟨q4, Hq4⟩ : ∃ q, Hid (q = rdNum b 0 23 q3.2) := ⟨_, Lib.hid rfl⟩
    have Hc4 : Hid (∀ W2, RdW 93 rb bv b W2 → Pb (W s).heap.size (.pointer (some ⟨rb, 0, none⟩)) W2 → Calls Try.prog 130 #[.pointer (some ⟨(W s).heap.size, 0, none⟩)] (W2 q3.2) (Rdn W2 (.int .i64 q4.1) q4.2)) := Lib.hid (fun W2 h2 hp2 => by rw [Hq4.out]; exact decode_jump1 h2 hp2 q3.2 hz3)
    have hz4 : q4.2.at' ≤ b.length := by rw [Hq4.out]; exact rdNum_at hb hz3
    have Hr : Hid (rdJu b s = (⟨4, ⟨0, 0, ⟨0, false, 0⟩⟩, q1.1, q4.1, 0, q2.1, q3.1⟩, q4.2)) := Lib.hid (by unfold rdJu; simp only [← Hq0.out]; (try rw [if_neg (by rw [hk]; decide)]); (try rw [if_neg (by rw [hk]; decide)]); (try rw [if_neg (by rw [hk]; decide)]); (try rw [if_neg (by rw [hk]; decide)]); (try rw [if_pos hk]); (try simp only [← Hq1.out]); (try simp only [← Hq2.out]); (try simp only [← Hq3.out]); (try simp only [← Hq4.out]); (first | done | rfl | (rw [hk]; rfl)))
    rw [Hr.out]
    clear Hr hb hz0 hz1 hz2 hz3 hz4
    clear Hq4 Hq3 Hq2 Hq1 Hq0
    obtain ⟨u0, s0⟩ := q0
    obtain ⟨u1, s1⟩ := q1
    obtain ⟨l2, s2⟩ := q2
    obtain ⟨⟨l3, d3, f3⟩, s3⟩ := q3
    obtain ⟨u4, s4⟩ := q4
    simp only at hk
    subst hk
    go_enter Try.func110, Try.ntmps110
    go_wp2_with (first
      | (go_at_call 126; ((with_reducible refine (Hc0.out _ ((h.alloc _).alloc _)).mono ?_); rintro e w1 ⟨rfl, x0, rfl⟩; (try dsimp only [])))
      | (go_at_call 73; ((with_reducible refine (Hc1.out _ ((((h.alloc _).alloc _).ext _).alloc _)).mono ?_); rintro e w1 ⟨rfl, x1, rfl⟩; (try dsimp only [])))
      | (go_at_call 131; ((with_reducible refine (Hc2.out _ (((((h.alloc _).alloc _).ext _).alloc _).ext _)).mono ?_); rintro e w1 ⟨_, x2, rfl, rfl, ho⟩; (try dsimp only []); (try dsimp only [] at ho); obtain ⟨va, vn, vc, rfl, Hvn, hvn, ho⟩ := ho.open))
      | (go_at_call 127; ((with_reducible refine (Hc3.out _ ((((((h.alloc _).alloc _).ext _).alloc _).ext _).ext _)).mono ?_); rintro e w1 ⟨rfl, x3, rfl⟩; (try dsimp only [])))
      | (go_at_call 130; ((with_reducible refine (Hc4.out _ (((((((h.alloc _).alloc _).ext _).alloc _).ext _).ext _).ext _) ((((((Hp.alloc _).ext _).alloc _).ext _).ext _).ext _)).mono ?_); rintro e w1 ⟨rfl, x4, rfl⟩; (try dsimp only []))))
    (try simp only [Exit.inBlock, Exit.then])
    refine postJ_of (by simp only [results, Try.results110]; go_simp <;> rfl) rfl (by (repeat (first | (with_reducible exact Grow.refl _) | assumption | refine Grow.ext ?_ _ | refine Grow.alloc ?_ _ | refine Grow.drew ?_ | refine Grow.setCell ?_ (by first | (simp; done) | (simp; omega)) _ | refine Grow.trans ?_ (by assumption)))) (.slice va vn vc) rfl ?_
    refine Own.mono ?_ (grow_ext _ x4)
    refine Own.mono ?_ (grow_ext _ x3)
    exact (Own.shift (by simp only [size_ext, alloc_size, Hz.out]) ho (Nat.le_of_eq (by simp only [size_ext, alloc_size, Hz.out]))).low (by simp only [size_ext, alloc_size, Hz.out]; omega)
  · have Hr : Hid (rdJu b s = (⟨5, ⟨0, 0, ⟨0, false, 0⟩⟩, 0, 0, 0, [], ⟨0, false, 0⟩⟩, q0.2)) := Lib.hid (by unfold rdJu; simp only [← Hq0.out]; (try rw [if_neg (by rw [hk]; decide)]); (try rw [if_neg (by rw [hk]; decide)]); (try rw [if_neg (by rw [hk]; decide)]); (try rw [if_neg (by rw [hk]; decide)]); (try rw [if_pos hk]); (first | done | rfl | (rw [hk]; rfl)))
    rw [Hr.out]
    clear Hr hb hz0
    clear Hq0
    obtain ⟨u0, s0⟩ := q0
    simp only at hk
    subst hk
    go_enter Try.func110, Try.ntmps110
    go_wp2_with (first
      | (go_at_call 126; ((with_reducible refine (Hc0.out _ ((h.alloc _).alloc _)).mono ?_); rintro e w1 ⟨rfl, x0, rfl⟩; (try dsimp only []))))
    (try simp only [Exit.inBlock, Exit.then])
    exact postJ_of (by simp only [results, Try.results110]; go_simp <;> rfl) rfl (by (repeat (first | (with_reducible exact Grow.refl _) | assumption | refine Grow.ext ?_ _ | refine Grow.alloc ?_ _ | refine Grow.drew ?_ | refine Grow.setCell ?_ (by first | (simp; done) | (simp; omega)) _ | refine Grow.trans ?_ (by assumption)))) (.slice none 0 0) rfl (Own.nil _ _ _ _)
theorem rdJu_wf {b : List Nat} {s : RS} (hb : ∀ x ∈ b, x < 256) : (rdJu b s).1.wf := by
  have z64 : I64 0 := by unfold I64; omega
  unfold rdJu
  (repeat' split)
  · exact ⟨by unfold U8; dsimp only; omega, opd0_wf, z64, rdI64 (by omega) (by omega), z64, pl0_wf⟩
  · exact ⟨by unfold U8; dsimp only; omega, rdOpd_wf hb, z64, rdI64 (by omega) (by omega), rdI64 (by omega) (by omega), pl0_wf⟩
  · exact ⟨by unfold U8; dsimp only; omega, opd0_wf, rdI64 (by omega) (by omega), rdI64 (by omega) (by omega), z64, rdPl_wf _ _⟩
  · exact ⟨rdU8 (by omega) (by omega), opd0_wf, z64, z64, z64, pl0_wf⟩
/-- A block is read. -/
def rdBk (b : List Nat) (s : RS) : Bk × RS :=
  (⟨(rdL (rdSt b) (rdNum b 0 24 s).1 (rdNum b 0 24 s).2).1, (rdJu b (rdL (rdSt b) (rdNum b 0 24 s).1 (rdNum b 0 24 s).2).2).1⟩, (rdJu b (rdL (rdSt b) (rdNum b 0 24 s).1 (rdNum b 0 24 s).2).2).2)
theorem rdBk_at {b : List Nat} {s : RS} (hb : ∀ x ∈ b, x < 256) (hs : s.at' ≤ b.length) : (rdBk b s).2.at' ≤ b.length :=
  rdJu_at hb (rdL_at (fun s hs => rdSt_at hb hs) _ _ (rdNum_at hb hs))
theorem rdBk_wf {b : List Nat} {s : RS} (hb : ∀ x ∈ b, x < 256) : (rdBk b s).1.wf := ⟨rdJu_wf hb⟩
def RdnB (W : RS → World) (s : RS) (q : Bk × RS) (e : Ending) (w' : World) : Prop :=
  ∃ v1 v2 y, e = .returned (q.1.v v1 v2) ∧ w' = ext (W q.2) y ∧ Sl (fun k => (W s).heap.size ≤ k) w' v1 q.1.stmts ∧ Sl (fun k => (W s).heap.size ≤ k) w' v2 q.1.jump.args
theorem postB_of {P : Program} {fn : Func} {a : Act} {w : World} {W : RS → World} {s : RS} {q : Bk × RS} {v' : Value}
    (hr : (results fn a.tmps).run P w = .ok v' w) (hd : a.defers = []) (g : Grow (W q.2) w) (v1 v2 : Value) (hv : v' = q.1.v v1 v2) (h1 : Sl (fun k => (W s).heap.size ≤ k) w v1 q.1.stmts) (h2 : Sl (fun k => (W s).heap.size ≤ k) w v2 q.1.jump.args) : bodyPost P fn (RdnB W s q) .ret a w := by
  obtain ⟨y, hy⟩ := ext_of_grow g
  exact bodyPost_ret hr hd ⟨v1, v2, y, by rw [hv], hy, h1, h2⟩
set_option maxRecDepth 100000 in
set_option maxHeartbeats 8000000 in
theorem decode_block {rb : Nat} {bv : Value} {b : List Nat} {W : RS → World} (h : RdW 93 rb bv b W) (s : RS) (hs : s.at' ≤ b.length) :
    Calls Try.prog 78 #[.pointer (some ⟨rb, 0, none⟩)] (W s) (RdnB W s (rdBk b s)) := by
  haveI hltw : ∀ s, LtW rb (W s) := fun s => ⟨h.lt s⟩
  haveI hsz : ∀ s0 s1, EqW (W s1).heap.size (W s0) := fun s0 s1 => h.szW s1 s0
  have Hz : Hid (∀ s1, (W s1).heap.size = (W s).heap.size) := Lib.hid (fun s1 => h.size s1 s)
  have hb : ∀ x ∈ b, x < 256 := by have := (h.sl s).drop_byte 0; rwa [List.drop_zero] at this
  obtain ⟨q0, Hq0⟩ : ∃ q, Hid (q = rdL (rdSt b) (rdNum b 0 24 s).1 (rdNum b 0 24 s).2) := ⟨_, Lib.hid rfl⟩
  have Hc0 : Hid (∀ W2, RdW 93 rb bv b W2 → Calls Try.prog 108 #[.pointer (some ⟨rb, 0, none⟩), .int .i64 0, .int .i64 24, .func (.func 109) #[.pointer (some ⟨rb, 0, none⟩)] #[]] (W2 s) (RdnL W2 54 s q0)) := Lib.hid (fun W2 h2 => by rw [Hq0.out]; exact decode_list_St h2 s hs 0 24 (by omega) (by omega))
  have hz0 : q0.2.at' ≤ b.length := by rw [Hq0.out]; exact rdL_at (fun s hs => rdSt_at hb hs) _ _ (rdNum_at hb hs)
  obtain ⟨q1, Hq1⟩ : ∃ q, Hid (q = rdJu b q0.2) := ⟨_, Lib.hid rfl⟩
  have Hc1 : Hid (∀ W2, RdW 93 rb bv b W2 → Calls Try.prog 110 #[.pointer (some ⟨rb, 0, none⟩)] (W2 q0.2) (RdnJ W2 q0.2 q1)) := Lib.hid (fun W2 h2 => by rw [Hq1.out]; exact decode_jump h2 q0.2 hz0)
  have Hr : Hid (rdBk b s = (⟨q0.1, q1.1⟩, q1.2)) := Lib.hid (by unfold rdBk; rw [← Hq0.out, ← Hq1.out])
  rw [Hr.out]
  clear Hr hb hz0 Hq1 Hq0
  obtain ⟨l, s0⟩ := q0
  obtain ⟨⟨jk, ⟨ak, an, ⟨al, ad, af⟩⟩, fn, nx, el, ar, ⟨dl, dd, df⟩⟩, s1⟩ := q1
  go_enter Try.func78, Try.ntmps78
  go_wp2_with (first
    | (go_at_call 108; ((with_reducible refine (Hc0.out _ ((h.alloc _).alloc _)).mono ?_); rintro e w1 ⟨_, x0, rfl, rfl, ho⟩; (try dsimp only []); (try dsimp only [] at ho); obtain ⟨va, vn, vc, rfl, Hvn, hvn, ho⟩ := ho.open))
    | (go_at_call 110; ((with_reducible refine (Hc1.out _ (((h.alloc _).alloc _).ext _)).mono ?_); rintro e w1 ⟨_, x1, rfl, rfl, hj⟩; (try dsimp only []); (try dsimp only [] at hj); obtain ⟨ja, jn, jc, rfl, Hjn, hjn, hj⟩ := hj.open)))
  (try simp only [Exit.inBlock, Exit.then])
  refine postB_of (by simp only [results, Try.results78]; go_simp <;> rfl) rfl (by (repeat (first | (with_reducible exact Grow.refl _) | assumption | refine Grow.ext ?_ _ | refine Grow.alloc ?_ _ | refine Grow.drew ?_ | refine Grow.setCell ?_ (by first | (simp; done) | (simp; omega)) _ | refine Grow.trans ?_ (by assumption)))) (.slice va vn vc) (.slice ja jn jc) rfl ?_ ?_
  · refine Sl.mono ?_ (grow_ext _ x1)
    exact (Own.shift (by simp only [size_ext, alloc_size, Hz.out]) ho (Nat.le_of_eq (by simp only [size_ext, alloc_size, Hz.out]))).sl.wide (fun k _ hk => by rcases hk with hk | hk; exact hk.elim; simp only [size_ext, alloc_size, Hz.out] at hk; omega)
  · exact (Own.shift (by simp only [size_ext, alloc_size, Hz.out]) hj (Nat.le_of_eq (by simp only [size_ext, alloc_size, Hz.out]))).sl.wide (fun k _ hk => by rcases hk with hk | hk; exact hk.elim; simp only [size_ext, alloc_size, Hz.out] at hk; omega)
set_option maxRecDepth 100000 in
set_option maxHeartbeats 4000000 in
theorem decode_list_Bk {rb : Nat} {bv : Value} {b : List Nat} {W : RS → World} (h : RdW 93 rb bv b W) (s : RS) (hs : s.at' ≤ b.length) (lo hi : Nat) (hlo : lo ≤ hi) (hhi : hi < 1000) :
    Calls Try.prog 77 #[.pointer (some ⟨rb, 0, none⟩), .int .i64 lo, .int .i64 hi, .func (.func 78) #[.pointer (some ⟨rb, 0, none⟩)] #[]] (W s)
      (RdnL W 57 s (rdL (rdBk b) (rdNum b lo hi s).1 (rdNum b lo hi s).2)) := by
  haveI hltw : ∀ s, LtW rb (W s) := fun s => ⟨h.lt s⟩
  haveI hsz : ∀ s0 s1, EqW (W s1).heap.size (W s0) := fun s0 s1 => h.szW s1 s0
  have Hz : ∀ s1, (W s1).heap.size = (W s).heap.size := fun s1 => h.size s1 s
  have hc2 : ∀ s, (W s).cell? ⟨rb, 2, none⟩ = some (.int .i64 s.e) := fun s => by simp [World.cell?, h.box s]
  have hb : ∀ x ∈ b, x < 256 := by have := (h.sl s).drop_byte 0; rwa [List.drop_zero] at this
  obtain ⟨q0, Hq0⟩ : ∃ q, Hid (q = rdNum b lo hi s) := ⟨_, Lib.hid rfl⟩
  have Hc0 : Hid (Calls Try.prog 73 #[.pointer (some ⟨rb, 0, none⟩), .int .i64 lo, .int .i64 hi] (W s) (Rdn W (.int .i64 q0.1) q0.2)) := Lib.hid (by rw [Hq0.out]; exact decode_num_int h s hs lo hi (by omega) (by omega))
  have hz0 : q0.2.at' ≤ b.length := by rw [Hq0.out]; exact rdNum_at hb hs
  have hq0 : q0.1 ≤ hi := by rw [Hq0.out]; exact (rdNum_le hlo).2
  rw [← Hq0.out]
  clear Hq0
  obtain ⟨n, s0⟩ := q0
  simp only at hz0 hq0
  dsimp only
  go_enter Try.func77, Try.ntmps77
  go_wp2_with fail
  go_step3
  go_wp2_with (first
    | (go_at_call 73; ((with_reducible refine (Hc0.out).mono ?_); rintro e w1 ⟨rfl, x0, rfl⟩; (try dsimp only []))))
  go_step3
  go_wp2_with fail
  go_loopw [9] (fun tv wr => ∃ (xs : List Bk) (s' : RS) (x : Ext), wr = ext (W s') x ∧ s'.at' ≤ b.length ∧ Own (fun _ => False) (W s).heap.size 57 wr tv xs ∧ xs.length ≤ n ∧ Hid (rdL (rdBk b) n s0 = (xs ++ (rdL (rdBk b) (n - xs.length) s').1, (rdL (rdBk b) (n - xs.length) s').2))) (fun tv _ => n - lenV tv)
  case atStart => exact ⟨[], s0, x0, rfl, hz0, Own.nil _ _ _ _, Nat.zero_le _, Lib.hid (by simp)⟩
  case round =>
    obtain ⟨xs, s', x, rfl, hz, hown, hxn, Hr⟩ := hrel
    obtain ⟨a, m, cap, rfl, Hm, hm, hown⟩ := hown.open
    have hmn : m ≤ n := by rw [Hm.out]; exact hxn
    rw [← Hm.out] at Hr
    by_cases hlt : m < n
    · obtain ⟨q1, Hq1⟩ : ∃ q, Hid (q = rdBk b s') := ⟨_, Lib.hid rfl⟩
      have Hc1 : Hid (∀ W2, RdW 93 rb bv b W2 → Calls Try.prog 78 #[.pointer (some ⟨rb, 0, none⟩)] (W2 s') (RdnB W2 s' q1)) := Lib.hid (fun W2 h2 => by rw [Hq1.out]; exact decode_block h2 s' hz)
      have hz1 : q1.2.at' ≤ b.length := by rw [Hq1.out]; exact rdBk_at hb hz
      have hwy : q1.1.wf := by rw [Hq1.out]; exact rdBk_wf hb
      have Hr1 : Hid (rdL (rdBk b) (n - m) s' = if q1.2.e ≠ 0 then ([q1.1], q1.2) else (q1.1 :: (rdL (rdBk b) (n - (m + 1)) q1.2).1, (rdL (rdBk b) (n - (m + 1)) q1.2).2)) := Lib.hid (by
        obtain ⟨k, hk⟩ : ∃ k, n - m = k + 1 := ⟨n - m - 1, by omega⟩
        have hk2 : n - (m + 1) = k := by omega
        rw [hk, hk2, rdL, ← Hq1.out])
      have hxl : xs.length < 1000 := by rw [← Hm.out]; omega
      obtain ⟨y, s2⟩ := q1
      simp only at hz1 hwy
      by_cases he : s2.e = 0
      · have Hs : Hid (rdL (rdBk b) n s0 = ((xs ++ [y]) ++ (rdL (rdBk b) (n - (m + 1)) s2).1, (rdL (rdBk b) (n - (m + 1)) s2).2)) := Lib.hid (by rw [Hr.out, Hr1.out, if_neg (by simpa using he)]; simp)
        have he' : (s2.e != 0) = false := by simp [he]
        clear Hr Hr1 Hq1 he
        go_wp2_with (first
          | (go_at_call 78; ((with_reducible refine (Hc1.out _ (h.ext _)).mono ?_); rintro e w1 ⟨_, _, x1, rfl, rfl, h1, h2⟩; (try dsimp only []); (try dsimp only [] at h1 h2); obtain ⟨sa, sn, sc, rfl, _, _, _, _, h1⟩ := h1.open; obtain ⟨ja, jn, jc, rfl, _, _, _, _, h2⟩ := h2.open))
          | (at_builtin; go_must (refine wpList_app1 (α := Bk) slTv_Bk rfl rfl rfl (hown.state0 h s2 (Nat.le_of_eq (Hz s'))) (by (repeat (first | (with_reducible exact Grow.refl _) | assumption | refine Grow.ext ?_ _ | refine Grow.alloc ?_ _ | refine Grow.drew ?_ | refine Grow.setCell ?_ (by first | (simp; done) | (simp; omega)) _ | refine Grow.trans ?_ (by assumption)))) (Nat.le_of_eq (Hz s2)) (by simp; have := Hz s2; omega) rfl (y := y) (Gy := fun k => (W s').heap.size + x.k ≤ k ∧ k < (W s').heap.size + x.k + x1.k) ⟨sa, sn, sc, ja, jn, jc, rfl, hwy, (h1.wide (fun k hk hF => ⟨by simp only [size_ext] at hF; exact hF, by have := Hz s2; have := Hz s'; simp only [size_ext] at hk; omega⟩)).mono (by (repeat (first | (with_reducible exact Grow.refl _) | assumption | refine Grow.ext ?_ _ | refine Grow.alloc ?_ _ | refine Grow.drew ?_ | refine Grow.setCell ?_ (by first | (simp; done) | (simp; omega)) _ | refine Grow.trans ?_ (by assumption)))), (h2.wide (fun k hk hF => ⟨by simp only [size_ext] at hF; exact hF, by have := Hz s2; have := Hz s'; simp only [size_ext] at hk; omega⟩)).mono (by (repeat (first | (with_reducible exact Grow.refl _) | assumption | refine Grow.ext ?_ _ | refine Grow.alloc ?_ _ | refine Grow.drew ?_ | refine Grow.setCell ?_ (by first | (simp; done) | (simp; omega)) _ | refine Grow.trans ?_ (by assumption))))⟩ (fun k hk => ⟨by have := Hz s2; have := Hz s'; simp only [size_ext, alloc_size]; omega, Or.inr (by have := Hz s'; omega), fun e => by have := hown.row_lt k e; simp only [size_ext] at this; omega⟩) (by (repeat (refine CellsAt.cons (by go_simp) ?_)); exact CellsAt.nil _ _ _) (by simp [Value.oneCell']) (by omega) (by omega) ?_); intro tv' x' hown' hsz' hagr))
        go_roundw
        case rel => exact ⟨xs ++ [y], s2, x', rfl, hz1, hown', by rw [List.length_append]; have := Hm.out; simp only [List.length_cons, List.length_nil]; omega, Lib.hid (by rw [List.length_append, ← Hm.out]; exact Hs.out)⟩
        case measure => obtain ⟨a', m', cap', rfl, Hm', hm', hown'⟩ := hown'.open; have := Hm'.out; rw [List.length_append, ← Hm.out] at this; simp [lenV] at this ⊢; omega
      · have Hs : Hid (rdL (rdBk b) n s0 = (xs ++ [y], s2)) := Lib.hid (by rw [Hr.out, Hr1.out, if_pos (by simpa using he)])
        have he' : (s2.e != 0) = true := by simp [he]
        clear Hr Hr1 Hq1 he
        go_wp2_with (first
          | (go_at_call 78; ((with_reducible refine (Hc1.out _ (h.ext _)).mono ?_); rintro e w1 ⟨_, _, x1, rfl, rfl, h1, h2⟩; (try dsimp only []); (try dsimp only [] at h1 h2); obtain ⟨sa, sn, sc, rfl, _, _, _, _, h1⟩ := h1.open; obtain ⟨ja, jn, jc, rfl, _, _, _, _, h2⟩ := h2.open))
          | (at_builtin; go_must (refine wpList_app1 (α := Bk) slTv_Bk rfl rfl rfl (hown.state0 h s2 (Nat.le_of_eq (Hz s'))) (by (repeat (first | (with_reducible exact Grow.refl _) | assumption | refine Grow.ext ?_ _ | refine Grow.alloc ?_ _ | refine Grow.drew ?_ | refine Grow.setCell ?_ (by first | (simp; done) | (simp; omega)) _ | refine Grow.trans ?_ (by assumption)))) (Nat.le_of_eq (Hz s2)) (by simp; have := Hz s2; omega) rfl (y := y) (Gy := fun k => (W s').heap.size + x.k ≤ k ∧ k < (W s').heap.size + x.k + x1.k) ⟨sa, sn, sc, ja, jn, jc, rfl, hwy, (h1.wide (fun k hk hF => ⟨by simp only [size_ext] at hF; exact hF, by have := Hz s2; have := Hz s'; simp only [size_ext] at hk; omega⟩)).mono (by (repeat (first | (with_reducible exact Grow.refl _) | assumption | refine Grow.ext ?_ _ | refine Grow.alloc ?_ _ | refine Grow.drew ?_ | refine Grow.setCell ?_ (by first | (simp; done) | (simp; omega)) _ | refine Grow.trans ?_ (by assumption)))), (h2.wide (fun k hk hF => ⟨by simp only [size_ext] at hF; exact hF, by have := Hz s2; have := Hz s'; simp only [size_ext] at hk; omega⟩)).mono (by (repeat (first | (with_reducible exact Grow.refl _) | assumption | refine Grow.ext ?_ _ | refine Grow.alloc ?_ _ | refine Grow.drew ?_ | refine Grow.setCell ?_ (by first | (simp; done) | (simp; omega)) _ | refine Grow.trans ?_ (by assumption))))⟩ (fun k hk => ⟨by have := Hz s2; have := Hz s'; simp only [size_ext, alloc_size]; omega, Or.inr (by have := Hz s'; omega), fun e => by have := hown.row_lt k e; simp only [size_ext] at this; omega⟩) (by (repeat (refine CellsAt.cons (by go_simp) ?_)); exact CellsAt.nil _ _ _) (by simp [Value.oneCell']) (by omega) (by omega) ?_); intro tv' x' hown' hsz' hagr))
        (try rw [Exit.noGoto_ret])
        go_ret
        exact ⟨_, x', rfl, by rw [Hs.out], by rw [Hs.out]; exact hown'⟩
    · have Hs : Hid (rdL (rdBk b) n s0 = (xs, s')) := Lib.hid (by rw [Hr.out, show n - m = 0 from by omega, rdL]; simp)
      clear Hr
      go_wp2_with fail
      (try rw [Exit.noGoto_ret])
      go_ret
      exact ⟨_, x, rfl, by rw [Hs.out], by rw [Hs.out]; exact hown⟩
end Go.Proofs.Ytafcdabiplcjiaa
