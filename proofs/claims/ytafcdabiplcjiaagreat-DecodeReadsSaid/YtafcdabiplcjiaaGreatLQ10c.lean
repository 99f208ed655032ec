/- Layer 10: the reference's reader: jumps. Printed by gen10s.py. -/
import Derived.Test.YtafcdabiplcjiaaGreatLQ01
namespace Go.Proofs.YtafcdabiplcjiaaGreat
open Go.RowKit
set_option linter.unusedSimpArgs false
set_option linter.unusedVariables false

theorem rqSg_i64 {b : List Nat} {s : RS} (hb : ∀ x ∈ b, x < 256) : I64 (rqSg b s).1 := by
  have h := vget_lt (l := b.drop s.at') (fun x hx => hb x (List.mem_of_mem_drop hx))
  unfold rqSg I64
  split
  · dsimp only; omega
  · split
    · dsimp only; omega
    · unfold foldB; dsimp only; split <;> omega
theorem rqOpd_wf {b : List Nat} {s : RS} (hb : ∀ x ∈ b, x < 256) : (rqOpd b s).1.wf := by
  unfold rqOpd
  split
  · exact ⟨by unfold U8; dsimp only; omega, rqSg_i64 hb, pl0_wf⟩
  · exact ⟨rdU8 (by omega) (by omega), by unfold I64; dsimp only; omega, rdPl_wf _ _⟩
theorem rqRv_wf {b : List Nat} {s : RS} (hb : ∀ x ∈ b, x < 256) : (rqRv b s).1.wf := by
  have z8 : U8 0 := by unfold U8; omega
  unfold rqRv
  (repeat' split)
  · exact ⟨by unfold U8; dsimp only; omega, z8, z8, rqOpd_wf hb, opd0_wf, pl0_wf⟩
  · exact ⟨by unfold U8; dsimp only; omega, rdU8 (by omega) (by omega), z8, rqOpd_wf hb, rqOpd_wf hb, pl0_wf⟩
  · exact ⟨by unfold U8; dsimp only; omega, z8, z8, rqOpd_wf hb, rqOpd_wf hb, pl0_wf⟩
  · exact ⟨by unfold U8; dsimp only; omega, z8, rdU8 (by omega) (by omega), opd0_wf, opd0_wf, rdPl_wf _ _⟩
  · exact ⟨rdU8 (by omega) (by omega), z8, z8, opd0_wf, opd0_wf, rdPl_wf _ _⟩
theorem rqSt_wf {b : List Nat} {s : RS} (hb : ∀ x ∈ b, x < 256) : (rqSt b s).1.wf := by
  have z64 : I64 0 := by unfold I64; omega
  unfold rqSt
  (repeat' split)
  · exact ⟨by unfold U8; dsimp only; omega, rdPl_wf _ _, rqRv_wf hb, opd0_wf, z64⟩
  · exact ⟨by unfold U8; dsimp only; omega, pl0_wf, rv0_wf, opd0_wf, rdI64 (by omega) (by omega)⟩
  · exact ⟨rdU8 (by omega) (by omega), pl0_wf, rv0_wf, rqOpd_wf hb, z64⟩
theorem rqL_at {α : Type} {rd : RS → α × RS} {m : Nat} (hrd : ∀ s, s.at' ≤ m → (rd s).2.at' ≤ m) : ∀ (n : Nat) (s : RS), s.at' ≤ m → (rqL rd n s).2.at' ≤ m
  | 0, s, h => h
  | n + 1, s, h => by unfold rqL; exact rqL_at hrd n _ (hrd s h)
theorem RdW.drew {T : TypeId} {rb : Nat} {bv : Value} {b : List Nat} {W : RS → World} (h : RdW T rb bv b W) : RdW T rb bv b (fun s => (W s).drew) where
  size s s' := h.size s s'
  lt s := h.lt s
  box s := h.box s
  setAt s k := by rw [World.setCell_drew, h.setAt]
  setE s e := by rw [World.setCell_drew, h.setE]
  sl s := (h.sl s).mono (Grow.drew (Grow.refl _))
instance : Inhabited RS := ⟨⟨0, 0⟩⟩
/-- A state of the reader, the value in a box, memory. -/
structure QX where
  s : RS
  v : Value
  x : Ext
instance : Inhabited QX := ⟨⟨default, .bool false, default⟩⟩
theorem rqL_step {α : Type} {rd : RS → α × RS} {n k : Nat} {s0 s' : RS} {xs : List α} (hk : k < n) (h : rqL rd n s0 = (xs ++ (rqL rd (n - k) s').1, (rqL rd (n - k) s').2)) :
    rqL rd n s0 = ((xs ++ [(rd s').1]) ++ (rqL rd (n - (k + 1)) (rd s').2).1, (rqL rd (n - (k + 1)) (rd s').2).2) := by
  obtain ⟨m, hm⟩ : ∃ m, n - k = m + 1 := ⟨n - k - 1, by omega⟩
  have hm2 : n - (k + 1) = m := by omega
  rw [h, hm, hm2, rqL]; simp
theorem rqL_end {α : Type} {rd : RS → α × RS} {n : Nat} {s0 s' : RS} {xs : List α} (h : rqL rd n s0 = (xs ++ (rqL rd (n - n) s').1, (rqL rd (n - n) s').2)) : rqL rd n s0 = (xs, s') := by
  rw [h, Nat.sub_self, rqL]; simp
theorem rqJu_at {b : List Nat} {s : RS} (hb : ∀ x ∈ b, x < 256) (hs : s.at' ≤ b.length) : (rqJu b s).2.at' ≤ b.length := by
  have h0 := rdNum_at (lo := 1) (hi := 5) hb hs
  simp only [rqJu, bindR, ite_at, retR]
  (repeat' split)
  · exact rdNum_at hb h0
  · exact rdNum_at hb (rdNum_at hb (rqOpd_at hb h0))
  · exact rdNum_at hb (rdPl_at hb (rqL_at (fun s hs => rqOpd_at hb hs) _ _ (rdNum_at hb (rdNum_at hb h0))))
  · exact h0
set_option maxRecDepth 100000 in
set_option maxHeartbeats 8000000 in
theorem ref10_jump {rb : Nat} {bv : Value} {b : List Nat} {W : RS → World} (h : RdW 90 rb bv b W) (s : RS) (hs : s.at' ≤ b.length) :
    Calls Tryz.prog 70 #[.pointer (some ⟨rb, 0, none⟩)] (W s) (RdnJ W s (rqJu b s)) := by
  haveI hltw : ∀ s, LtW rb (W s) := fun s => ⟨h.lt s⟩
  haveI hsz : ∀ s0 s1, EqW (W s1).heap.size (W s0) := fun s0 s1 => h.szW s1 s0
  have Hz : Hid (∀ s1, (W s1).heap.size = (W s).heap.size) := Lib.hid (fun s1 => h.size s1 s)
  have hb : ∀ x ∈ b, x < 256 := by have := (h.sl s).drop_byte 0; rwa [List.drop_zero] at this
  obtain ⟨q0, Hq0⟩ : ∃ q, Hid (q = rdNum b 1 5 s) := ⟨_, Lib.hid rfl⟩
  have Hc0 : Hid (∀ W2, RdW 90 rb bv b W2 → Calls Tryz.prog 38 #[.pointer (some ⟨rb, 0, none⟩), .int .i64 1, .int .i64 5] (W2 s) (Rdn W2 (.int .i64 q0.1) q0.2)) := Lib.hid (fun W2 h2 => by rw [Hq0.out]; exact ref10_num h2 s hs 1 5 (by omega) (by omega))
  have hz0 : q0.2.at' ≤ b.length := by rw [Hq0.out]; exact rdNum_at hb hs
  have hq0 : 1 ≤ q0.1 ∧ q0.1 ≤ 5 := by rw [Hq0.out]; exact rdNum_le (by omega)
  have hk : q0.1 = 1 ∨ q0.1 = 2 ∨ q0.1 = 3 ∨ q0.1 = 4 ∨ q0.1 = 5 := by omega
  clear hq0
  rcases hk with hk | hk | hk | hk | hk
  · obtain ⟨q1, Hq1⟩ : ∃ q, Hid (q = rdNum b 0 23 q0.2) := ⟨_, Lib.hid rfl⟩
    have Hc1 : Hid (∀ W2, RdW 90 rb bv b W2 → Calls Tryz.prog 38 #[.pointer (some ⟨rb, 0, none⟩), .int .i64 0, .int .i64 23] (W2 q0.2) (Rdn W2 (.int .i64 q1.1) q1.2)) := Lib.hid (fun W2 h2 => by rw [Hq1.out]; exact ref10_num h2 q0.2 hz0 0 23 (by omega) (by omega))
    have hz1 : q1.2.at' ≤ b.length := by rw [Hq1.out]; exact rdNum_at hb hz0
    have hq1 : 0 ≤ q1.1 ∧ q1.1 ≤ 23 := by rw [Hq1.out]; exact rdNum_le (by omega)
    have Hr : Hid (rqJu b s = (⟨1, ⟨0, 0, ⟨0, false, 0⟩⟩, 0, q1.1, 0, [], ⟨0, false, 0⟩⟩, q1.2)) := Lib.hid (by simp only [rqJu, bindR, ite_at, retR]; simp only [← Hq0.out]; (try rw [if_neg (by rw [hk]; decide)]); (try rw [if_neg (by rw [hk]; decide)]); (try rw [if_neg (by rw [hk]; decide)]); (try rw [if_neg (by rw [hk]; decide)]); (try rw [if_pos hk]); (try simp only [← Hq1.out]); (first | done | rfl | (rw [hk]; rfl)))
    rw [Hr.out]
    clear Hr hb hz0 hz1
    clear Hq1 Hq0
    obtain ⟨u0, s0⟩ := q0
    obtain ⟨u1, s1⟩ := q1
    simp only at hq1
    simp only at hk
    subst hk
    go_enter Tryz.func70, Tryz.ntmps70
    go_wp2_with (first
      | (go_at_call 38; ((with_reducible refine (Hc0.out _ ((h.alloc _))).mono ?_); rintro e w1 ⟨rfl, x0, rfl⟩; (try dsimp only [])))
      | (go_at_call 38; ((with_reducible refine (Hc1.out _ ((((h.alloc _)).ext _).alloc _)).mono ?_); rintro e w1 ⟨rfl, x1, rfl⟩; (try dsimp only []))))
    (try simp only [Exit.inBlock, Exit.then])
    exact postJ_of (by simp only [results, Tryz.results70]; go_simp <;> rfl) rfl (by (repeat (first | (with_reducible exact Grow.refl _) | assumption | refine Grow.ext ?_ _ | refine Grow.alloc ?_ _ | refine Grow.drew ?_ | refine Grow.setCell ?_ (by first | (simp; done) | (simp; omega)) _ | refine Grow.trans ?_ (by assumption)))) (.slice none 0 0) rfl (Own.nil _ _ _ _)
  · obtain ⟨q1, Hq1⟩ : ∃ q, Hid (q = rqOpd b q0.2) := ⟨_, Lib.hid rfl⟩
    have Hc1 : Hid (∀ W2, RdW 90 rb bv b W2 → Calls Tryz.prog 103 #[.pointer (some ⟨rb, 0, none⟩)] (W2 q0.2) (Rdn W2 q1.1.v q1.2)) := Lib.hid (fun W2 h2 => by rw [Hq1.out]; exact ref10_operand h2 q0.2 hz0)
    have hz1 : q1.2.at' ≤ b.length := by rw [Hq1.out]; exact rqOpd_at hb hz0
    obtain ⟨q2, Hq2⟩ : ∃ q, Hid (q = rdNum b 0 23 q1.2) := ⟨_, Lib.hid rfl⟩
    have Hc2 : Hid (∀ W2, RdW 90 rb bv b W2 → Calls Tryz.prog 38 #[.pointer (some ⟨rb, 0, none⟩), .int .i64 0, .int .i64 23] (W2 q1.2) (Rdn W2 (.int .i64 q2.1) q2.2)) := Lib.hid (fun W2 h2 => by rw [Hq2.out]; exact ref10_num h2 q1.2 hz1 0 23 (by omega) (by omega))
    have hz2 : q2.2.at' ≤ b.length := by rw [Hq2.out]; exact rdNum_at hb hz1
    have hq2 : 0 ≤ q2.1 ∧ q2.1 ≤ 23 := by rw [Hq2.out]; exact rdNum_le (by omega)
    obtain ⟨q3, Hq3⟩ : ∃ q, Hid (q = rdNum b 0 23 q2.2) := ⟨_, Lib.hid rfl⟩
    have Hc3 : Hid (∀ W2, RdW 90 rb bv b W2 → Calls Tryz.prog 38 #[.pointer (some ⟨rb, 0, none⟩), .int .i64 0, .int .i64 23] (W2 q2.2) (Rdn W2 (.int .i64 q3.1) q3.2)) := Lib.hid (fun W2 h2 => by rw [Hq3.out]; exact ref10_num h2 q2.2 hz2 0 23 (by omega) (by omega))
    have hz3 : q3.2.at' ≤ b.length := by rw [Hq3.out]; exact rdNum_at hb hz2
    have hq3 : 0 ≤ q3.1 ∧ q3.1 ≤ 23 := by rw [Hq3.out]; exact rdNum_le (by omega)
    have Hr : Hid (rqJu b s = (⟨2, q1.1, 0, q2.1, q3.1, [], ⟨0, false, 0⟩⟩, q3.2)) := Lib.hid (by simp only [rqJu, bindR, ite_at, retR]; simp only [← Hq0.out]; (try rw [if_neg (by rw [hk]; decide)]); (try rw [if_neg (by rw [hk]; decide)]); (try rw [if_neg (by rw [hk]; decide)]); (try rw [if_neg (by rw [hk]; decide)]); (try rw [if_pos hk]); (try simp only [← Hq1.out]); (try simp only [← Hq2.out]); (try simp only [← Hq3.out]); (first | done | rfl | (rw [hk]; rfl)))
    rw [Hr.out]
    clear Hr hb hz0 hz1 hz2 hz3
    clear Hq3 Hq2 Hq1 Hq0
    obtain ⟨u0, s0⟩ := q0
    obtain ⟨⟨k1, n1, ⟨l1, d1, f1⟩⟩, s1⟩ := q1
    obtain ⟨u2, s2⟩ := q2
    obtain ⟨u3, s3⟩ := q3
    simp only at hq2
    simp only at hq3
    simp only at hk
    subst hk
    go_enter Tryz.func70, Tryz.ntmps70
    go_wp2_with (first
      | (go_at_call 38; ((with_reducible refine (Hc0.out _ ((h.alloc _))).mono ?_); rintro e w1 ⟨rfl, x0, rfl⟩; (try dsimp only [])))
      | (go_at_call 103; ((with_reducible refine (Hc1.out _ ((((h.alloc _)).ext _).alloc _)).mono ?_); rintro e w1 ⟨rfl, x1, rfl⟩; (try dsimp only [])))
      | (go_at_call 38; ((with_reducible refine (Hc2.out _ (((((h.alloc _)).ext _).alloc _).ext _)).mono ?_); rintro e w1 ⟨rfl, x2, rfl⟩; (try dsimp only [])))
      | (go_at_call 38; ((with_reducible refine (Hc3.out _ ((((((h.alloc _)).ext _).alloc _).ext _).ext _)).mono ?_); rintro e w1 ⟨rfl, x3, rfl⟩; (try dsimp only []))))
    (try simp only [Exit.inBlock, Exit.then])
    exact postJ_of (by simp only [results, Tryz.results70]; go_simp <;> rfl) rfl (by (repeat (first | (with_reducible exact Grow.refl _) | assumption | refine Grow.ext ?_ _ | refine Grow.alloc ?_ _ | refine Grow.drew ?_ | refine Grow.setCell ?_ (by first | (simp; done) | (simp; omega)) _ | refine Grow.trans ?_ (by assumption)))) (.slice none 0 0) rfl (Own.nil _ _ _ _)
  · have Hr : Hid (rqJu b s = (⟨3, ⟨0, 0, ⟨0, false, 0⟩⟩, 0, 0, 0, [], ⟨0, false, 0⟩⟩, q0.2)) := Lib.hid (by simp only [rqJu, bindR, ite_at, retR]; simp only [← Hq0.out]; (try rw [if_neg (by rw [hk]; decide)]); (try rw [if_neg (by rw [hk]; decide)]); (try rw [if_neg (by rw [hk]; decide)]); (try rw [if_neg (by rw [hk]; decide)]); (try rw [if_pos hk]); (first | done | rfl | (rw [hk]; rfl)))
    rw [Hr.out]
    clear Hr hb hz0
    clear Hq0
    obtain ⟨u0, s0⟩ := q0
    simp only at hk
    subst hk
    go_enter Tryz.func70, Tryz.ntmps70
    go_wp2_with (first
      | (go_at_call 38; ((with_reducible refine (Hc0.out _ ((h.alloc _))).mono ?_); rintro e w1 ⟨rfl, x0, rfl⟩; (try dsimp only []))))
    (try simp only [Exit.inBlock, Exit.then])
    exact postJ_of (by simp only [results, Tryz.results70]; go_simp <;> rfl) rfl (by (repeat (first | (with_reducible exact Grow.refl _) | assumption | refine Grow.ext ?_ _ | refine Grow.alloc ?_ _ | refine Grow.drew ?_ | refine Grow.setCell ?_ (by first | (simp; done) | (simp; omega)) _ | refine Grow.trans ?_ (by assumption)))) (.slice none 0 0) rfl (Own.nil _ _ _ _)
  · obtain ⟨q1, Hq1⟩ : ∃ q, Hid (q = rdNum b 0 7 q0.2) := ⟨_, Lib.hid rfl⟩
    have Hc1 : Hid (∀ W2, RdW 90 rb bv b W2 → Calls Tryz.prog 38 #[.pointer (some ⟨rb, 0, none⟩), .int .i64 0, .int .i64 7] (W2 q0.2) (Rdn W2 (.int .i64 q1.1) q1.2)) := Lib.hid (fun W2 h2 => by rw [Hq1.out]; exact ref10_num h2 q0.2 hz0 0 7 (by omega) (by omega))
    have hz1 : q1.2.at' ≤ b.length := by rw [Hq1.out]; exact rdNum_at hb hz0
    have hq1 : 0 ≤ q1.1 ∧ q1.1 ≤ 7 := by rw [Hq1.out]; exact rdNum_le (by omega)
    obtain ⟨q2, Hq2⟩ : ∃ q, Hid (q = rdNum b 0 8 q1.2) := ⟨_, Lib.hid rfl⟩
    have Hc2 : Hid (∀ W2, RdW 90 rb bv b W2 → Calls Tryz.prog 38 #[.pointer (some ⟨rb, 0, none⟩), .int .i64 0, .int .i64 8] (W2 q1.2) (Rdn W2 (.int .i64 q2.1) q2.2)) := Lib.hid (fun W2 h2 => by rw [Hq2.out]; exact ref10_num h2 q1.2 hz1 0 8 (by omega) (by omega))
    have hz2 : q2.2.at' ≤ b.length := by rw [Hq2.out]; exact rdNum_at hb hz1
    have hq2 : 0 ≤ q2.1 ∧ q2.1 ≤ 8 := by rw [Hq2.out]; exact rdNum_le (by omega)
    obtain ⟨q3, Hq3⟩ : ∃ q, Hid (q = rqL (rqOpd b) q2.1 q2.2) := ⟨_, Lib.hid rfl⟩
    have hz3 : q3.2.at' ≤ b.length := by rw [Hq3.out]; exact rqL_at (fun s hs => rqOpd_at hb hs) _ _ hz2
    obtain ⟨q4, Hq4⟩ : ∃ q, Hid (q = rdPl b q3.2) := ⟨_, Lib.hid rfl⟩
    have Hc4 : Hid (∀ W2, RdW 90 rb bv b W2 → Calls Tryz.prog 101 #[.pointer (some ⟨rb, 0, none⟩)] (W2 q3.2) (Rdn W2 q4.1.v q4.2)) := Lib.hid (fun W2 h2 => by rw [Hq4.out]; exact ref10_place h2 q3.2 hz3)
    have hz4 : q4.2.at' ≤ b.length := by rw [Hq4.out]; exact rdPl_at hb hz3
    obtain ⟨q5, Hq5⟩ : ∃ q, Hid (q = rdNum b 0 23 q4.2) := ⟨_, Lib.hid rfl⟩
    have Hc5 : Hid (∀ W2, RdW 90 rb bv b W2 → Calls Tryz.prog 38 #[.pointer (some ⟨rb, 0, none⟩), .int .i64 0, .int .i64 23] (W2 q4.2) (Rdn W2 (.int .i64 q5.1) q5.2)) := Lib.hid (fun W2 h2 => by rw [Hq5.out]; exact ref10_num h2 q4.2 hz4 0 23 (by omega) (by omega))
    have hz5 : q5.2.at' ≤ b.length := by rw [Hq5.out]; exact rdNum_at hb hz4
    have hq5 : 0 ≤ q5.1 ∧ q5.1 ≤ 23 := by rw [Hq5.out]; exact rdNum_le (by omega)
    have Hr : Hid (rqJu b s = (⟨4, ⟨0, 0, ⟨0, false, 0⟩⟩, q1.1, q5.1, 0, q3.1, q4.1⟩, q5.2)) := Lib.hid (by simp only [rqJu, bindR, ite_at, retR]; simp only [← Hq0.out]; (try rw [if_neg (by rw [hk]; decide)]); (try rw [if_neg (by rw [hk]; decide)]); (try rw [if_neg (by rw [hk]; decide)]); (try rw [if_neg (by rw [hk]; decide)]); (try rw [if_pos hk]); (try simp only [← Hq1.out]); (try simp only [← Hq2.out]); (try simp only [← Hq3.out]); (try simp only [← Hq4.out]); (try simp only [← Hq5.out]); (first | done | rfl | (rw [hk]; rfl)))
    rw [Hr.out]
    clear Hr hz3 hz4 hz5
    clear Hq5 Hq4 Hq2 Hq1 Hq0
    obtain ⟨u0, s0⟩ := q0
    obtain ⟨u1, s1⟩ := q1
    obtain ⟨u2, s2⟩ := q2
    obtain ⟨l3, s3⟩ := q3
    obtain ⟨⟨l4, d4, f4⟩, s4⟩ := q4
    obtain ⟨u5, s5⟩ := q5
    simp only at hk hq1 hq2 hq5 hz2 Hq3
    subst hk
    clear hz0 hz1
    go_enter Tryz.func70, Tryz.ntmps70
    go_wp2_with (first
      | (go_at_call 38; ((with_reducible refine (Hc0.out _ ((h.alloc _))).mono ?_); rintro e w1 ⟨rfl, x0, rfl⟩; (try dsimp only [])))
      | (go_at_call 38; ((with_reducible refine (Hc1.out _ ((((h.alloc _)).ext _).alloc _)).mono ?_); rintro e w1 ⟨rfl, x1, rfl⟩; (try dsimp only [])))
      | (go_at_call 38; ((with_reducible refine (Hc2.out _ (((((h.alloc _)).ext _).alloc _).ext _)).mono ?_); rintro e w1 ⟨rfl, x2, rfl⟩; (try dsimp only []))))
    have hst : ∀ w', Grow ((ext ((W s2).alloc (.cells #[.int .u8 0, .int .u8 0, .int .i64 0, .int .i64 0, .bool false, .int .u8 0, .int .i64 0, .int .i64 0, .int .i64 0, .slice none 0 0, .int .i64 0, .bool false, .int .u8 0] 76)) x0).alloc (.cells #[.int .u8 4, .int .u8 0, .int .i64 0, .int .i64 0, .bool false, .int .u8 0, .int .i64 u1, .int .i64 0, .int .i64 0, (.slice none 0 0), .int .i64 0, .bool false, .int .u8 0] 76)) w' → ∃ x, w' = ext ((ext ((W s2).alloc (.cells #[.int .u8 0, .int .u8 0, .int .i64 0, .int .i64 0, .bool false, .int .u8 0, .int .i64 0, .int .i64 0, .int .i64 0, .slice none 0 0, .int .i64 0, .bool false, .int .u8 0] 76)) x0).alloc (.cells #[.int .u8 4, .int .u8 0, .int .i64 0, .int .i64 0, .bool false, .int .u8 0, .int .i64 u1, .int .i64 0, .int .i64 0, (.slice none 0 0), .int .i64 0, .bool false, .int .u8 0] 76)) x := fun w' g => ext_of_grow g
    go_loopw [5] (fun iv wr => ∃ (k : Nat) (xs : List Opd) (tv : Value) (s' : RS) (x : Ext), iv = .int .i64 k ∧ k ≤ u2 ∧ wr = ext ((ext ((W s').alloc (.cells #[.int .u8 0, .int .u8 0, .int .i64 0, .int .i64 0, .bool false, .int .u8 0, .int .i64 0, .int .i64 0, .int .i64 0, .slice none 0 0, .int .i64 0, .bool false, .int .u8 0] 76)) x0).alloc (.cells #[.int .u8 4, .int .u8 0, .int .i64 0, .int .i64 0, .bool false, .int .u8 0, .int .i64 u1, .int .i64 0, .int .i64 0, tv, .int .i64 0, .bool false, .int .u8 0] 76)) x ∧ s'.at' ≤ b.length ∧ Own (fun _ => False) ((W s).heap.size + 1 + x0.k + 1) 73 wr tv xs ∧ Hid (xs.length = k) ∧ Hid (rqL (rqOpd b) u2 s2 = (xs ++ (rqL (rqOpd b) (u2 - k) s').1, (rqL (rqOpd b) (u2 - k) s').2))) (fun iv _ => u2 - (intOf iv).toNat)
    case atStart => exact ⟨0, [], .slice none 0 0, s2, _, rfl, Nat.zero_le _, (hst _ (by (repeat (first | (with_reducible exact Grow.refl _) | assumption | refine Grow.ext ?_ _ | refine Grow.alloc ?_ _ | refine Grow.drew ?_ | refine Grow.setCell ?_ (by first | (simp; done) | (simp; omega)) _ | refine Grow.trans ?_ (by assumption))))).choose_spec, hz2, Own.nil _ _ _ _, rfl, Lib.hid (by simp)⟩
    clear hst
    case round =>
      obtain ⟨k, xs, tv, s', x, rfl, hkn, rfl, hz, hown, Hl, Hr⟩ := hrel
      obtain ⟨a, m, cap, rfl, Hm, hm, hown⟩ := hown.open
      by_cases hlt : k < u2
      · obtain ⟨q6, Hq6⟩ : ∃ q, Hid (q = rqOpd b s') := ⟨_, Lib.hid rfl⟩
        have Hc6 : Hid (∀ W2, RdW 90 rb bv b W2 → Calls Tryz.prog 103 #[.pointer (some ⟨rb, 0, none⟩)] (W2 s') (Rdn W2 q6.1.v q6.2)) := Lib.hid (fun W2 h2 => by rw [Hq6.out]; exact ref10_operand h2 s' hz)
        have hz6 : q6.2.at' ≤ b.length := by rw [Hq6.out]; exact rqOpd_at hb hz
        have hwy : q6.1.wf := by rw [Hq6.out]; exact rqOpd_wf hb
        have Hs := Lib.hid (rqL_step hlt Hr.out)
        rw [← Hq6.out] at Hs
        have hxl : xs.length < 1000 := by rw [Hl.out]; omega
        obtain ⟨y, s6⟩ := q6
        simp only at hz6 hwy Hs
        clear Hr Hq6 Hq3 Hc4 Hc5 Hc0 Hc1 Hc2 hb
        have hC : ∀ s v w', Grow ((ext ((W s).alloc (.cells #[.int .u8 0, .int .u8 0, .int .i64 0, .int .i64 0, .bool false, .int .u8 0, .int .i64 0, .int .i64 0, .int .i64 0, .slice none 0 0, .int .i64 0, .bool false, .int .u8 0] 76)) x0).alloc (.cells #[.int .u8 4, .int .u8 0, .int .i64 0, .int .i64 0, .bool false, .int .u8 0, .int .i64 u1, .int .i64 0, .int .i64 0, v, .int .i64 0, .bool false, .int .u8 0] 76)) w' → ∃ q : QX, w' = ext ((ext ((W q.s).alloc (.cells #[.int .u8 0, .int .u8 0, .int .i64 0, .int .i64 0, .bool false, .int .u8 0, .int .i64 0, .int .i64 0, .int .i64 0, .slice none 0 0, .int .i64 0, .bool false, .int .u8 0] 76)) x0).alloc (.cells #[.int .u8 4, .int .u8 0, .int .i64 0, .int .i64 0, .bool false, .int .u8 0, .int .i64 u1, .int .i64 0, .int .i64 0, q.v, .int .i64 0, .bool false, .int .u8 0] 76)) q.x := fun s v w' g => by obtain ⟨x, hx⟩ := ext_of_grow g; exact ⟨⟨s, v, x⟩, hx⟩
        go_wp2_with fail
        refine wp_region_J (fun w' => ∃ q : QX, w' = ext ((ext ((W q.s).alloc (.cells #[.int .u8 0, .int .u8 0, .int .i64 0, .int .i64 0, .bool false, .int .u8 0, .int .i64 0, .int .i64 0, .int .i64 0, .slice none 0 0, .int .i64 0, .bool false, .int .u8 0] 76)) x0).alloc (.cells #[.int .u8 4, .int .u8 0, .int .i64 0, .int .i64 0, .bool false, .int .u8 0, .int .i64 u1, .int .i64 0, .int .i64 0, q.v, .int .i64 0, .bool false, .int .u8 0] 76)) q.x) 8 (by kernel_rfl) (by rfl) ?_
        ((refine J_quiet 0 rfl (by decide +kernel) (by first | exact Or.inl rfl | exact Or.inr rfl) (hC _ _ _ (by (repeat (first | (with_reducible exact Grow.refl _) | assumption | refine Grow.ext ?_ _ | refine Grow.alloc ?_ _ | refine Grow.drew ?_ | refine Grow.setCell ?_ (by first | (simp; done) | (simp; omega)) _ | refine Grow.trans ?_ (by assumption))))) ?_; (first | go_big_quiet_step (fail) | (refine wpQuiet_step (fun K hK => ?_); go_simp; split <;> (refine hK _ ?_; clear hK K))); refine wpQuiet_nil ?_); (refine J_quiet 2 rfl (by decide +kernel) (by first | exact Or.inl rfl | exact Or.inr rfl) (hC _ _ _ (by (repeat (first | (with_reducible exact Grow.refl _) | assumption | refine Grow.ext ?_ _ | refine Grow.alloc ?_ _ | refine Grow.drew ?_ | refine Grow.setCell ?_ (by first | (simp; done) | (simp; omega)) _ | refine Grow.trans ?_ (by assumption))))) ?_; (first | go_big_quiet_step (fail) | (refine wpQuiet_step (fun K hK => ?_); go_simp; split <;> (refine hK _ ?_; clear hK K))); refine wpQuiet_nil ?_); (repeat (any_goals (first | (refine J_quiet 6 rfl (by decide +kernel) (by first | exact Or.inl rfl | exact Or.inr rfl) (hC _ _ _ (by (repeat (first | (with_reducible exact Grow.refl _) | assumption | refine Grow.ext ?_ _ | refine Grow.alloc ?_ _ | refine Grow.drew ?_ | refine Grow.setCell ?_ (by first | (simp; done) | (simp; omega)) _ | refine Grow.trans ?_ (by assumption))))) ?_; (first | go_big_quiet_step (fail) | (refine wpQuiet_step (fun K hK => ?_); go_simp; split <;> (refine hK _ ?_; clear hK K))); refine wpQuiet_nil ?_) | (refine J_any [1,3] (by decide +kernel) ?_; (refine ⟨?_, ?_⟩ <;> (refine ⟨_, rfl, fun K hK => ?_⟩; go_wp2_with (first | (go_at_call 103; ((with_reducible refine (Hc6.out _ (((((h.alloc _).ext _).alloc _).ext _).drew)).mono ?_); rintro e w1 ⟨rfl, x6, rfl⟩; (try dsimp only []))) | (at_builtin; go_must (refine wpList_app1 (α := Opd) slTv_Opd rfl rfl rfl (hown.state0 (((h.alloc _).ext _).alloc _) s6 (by simp only [alloc_size, size_ext, drew_size, Hz.out]; omega)) (by (repeat (first | (with_reducible exact Grow.refl _) | assumption | refine Grow.ext ?_ _ | refine Grow.alloc ?_ _ | refine Grow.drew ?_ | refine Grow.setCell ?_ (by first | (simp; done) | (simp; omega)) _ | refine Grow.trans ?_ (by assumption)))) (by simp only [alloc_size, size_ext, drew_size, Hz.out]; omega) (by simp only [alloc_size, size_ext, drew_size, Hz.out]; omega) rfl (y := y) (Gy := fun _ => False) ⟨rfl, hwy⟩ (fun _ h => h.elim) (by (repeat (refine CellsAt.cons (by go_simp) ?_)); exact CellsAt.nil _ _ _) (by simp [Value.oneCell']) (by omega) (by omega) ?_); intro tv' x' hown' hsz' hagr; obtain ⟨ta, tn, tc, rfl, Htn, htn, hown'⟩ := hown'.open)); refine hK _ _ (hC _ _ _ (by (repeat (first | (with_reducible exact Grow.refl _) | assumption | refine Grow.ext ?_ _ | refine Grow.alloc ?_ _ | refine Grow.drew ?_ | refine Grow.setCell ?_ (by first | (simp; done) | (simp; omega)) _ | refine Grow.trans ?_ (by assumption))))) ?_; clear hK K))) | (refine J_any [1,4] (by decide +kernel) ?_; (refine ⟨?_, ?_⟩ <;> (refine ⟨_, rfl, fun K hK => ?_⟩; go_wp2_with (first | (go_at_call 103; ((with_reducible refine (Hc6.out _ (((((h.alloc _).ext _).alloc _).ext _).drew)).mono ?_); rintro e w1 ⟨rfl, x6, rfl⟩; (try dsimp only []))) | (at_builtin; go_must (refine wpList_app1 (α := Opd) slTv_Opd rfl rfl rfl (hown.state0 (((h.alloc _).ext _).alloc _) s6 (by simp only [alloc_size, size_ext, drew_size, Hz.out]; omega)) (by (repeat (first | (with_reducible exact Grow.refl _) | assumption | refine Grow.ext ?_ _ | refine Grow.alloc ?_ _ | refine Grow.drew ?_ | refine Grow.setCell ?_ (by first | (simp; done) | (simp; omega)) _ | refine Grow.trans ?_ (by assumption)))) (by simp only [alloc_size, size_ext, drew_size, Hz.out]; omega) (by simp only [alloc_size, size_ext, drew_size, Hz.out]; omega) rfl (y := y) (Gy := fun _ => False) ⟨rfl, hwy⟩ (fun _ h => h.elim) (by (repeat (refine CellsAt.cons (by go_simp) ?_)); exact CellsAt.nil _ _ _) (by simp [Value.oneCell']) (by omega) (by omega) ?_); intro tv' x' hown' hsz' hagr; obtain ⟨ta, tn, tc, rfl, Htn, htn, hown'⟩ := hown'.open)); refine hK _ _ (hC _ _ _ (by (repeat (first | (with_reducible exact Grow.refl _) | assumption | refine Grow.ext ?_ _ | refine Grow.alloc ?_ _ | refine Grow.drew ?_ | refine Grow.setCell ?_ (by first | (simp; done) | (simp; omega)) _ | refine Grow.trans ?_ (by assumption))))) ?_; clear hK K))) | (refine J_any [1] (by decide +kernel) ?_; (refine ⟨_, rfl, fun K hK => ?_⟩; go_wp2_with (first | (go_at_call 103; ((with_reducible refine (Hc6.out _ (((((h.alloc _).ext _).alloc _).ext _).drew)).mono ?_); rintro e w1 ⟨rfl, x6, rfl⟩; (try dsimp only []))) | (at_builtin; go_must (refine wpList_app1 (α := Opd) slTv_Opd rfl rfl rfl (hown.state0 (((h.alloc _).ext _).alloc _) s6 (by simp only [alloc_size, size_ext, drew_size, Hz.out]; omega)) (by (repeat (first | (with_reducible exact Grow.refl _) | assumption | refine Grow.ext ?_ _ | refine Grow.alloc ?_ _ | refine Grow.drew ?_ | refine Grow.setCell ?_ (by first | (simp; done) | (simp; omega)) _ | refine Grow.trans ?_ (by assumption)))) (by simp only [alloc_size, size_ext, drew_size, Hz.out]; omega) (by simp only [alloc_size, size_ext, drew_size, Hz.out]; omega) rfl (y := y) (Gy := fun _ => False) ⟨rfl, hwy⟩ (fun _ h => h.elim) (by (repeat (refine CellsAt.cons (by go_simp) ?_)); exact CellsAt.nil _ _ _) (by simp [Value.oneCell']) (by omega) (by omega) ?_); intro tv' x' hown' hsz' hagr; obtain ⟨ta, tn, tc, rfl, Htn, htn, hown'⟩ := hown'.open)); refine hK _ _ (hC _ _ _ (by (repeat (first | (with_reducible exact Grow.refl _) | assumption | refine Grow.ext ?_ _ | refine Grow.alloc ?_ _ | refine Grow.drew ?_ | refine Grow.setCell ?_ (by first | (simp; done) | (simp; omega)) _ | refine Grow.trans ?_ (by assumption))))) ?_; clear hK K)) | (refine J_any [3] (by decide +kernel) ?_; (refine ⟨_, rfl, fun K hK => ?_⟩; go_wp2_with (first | (go_at_call 103; ((with_reducible refine (Hc6.out _ (((((h.alloc _).ext _).alloc _).ext _).drew)).mono ?_); rintro e w1 ⟨rfl, x6, rfl⟩; (try dsimp only []))) | (at_builtin; go_must (refine wpList_app1 (α := Opd) slTv_Opd rfl rfl rfl (hown.state0 (((h.alloc _).ext _).alloc _) s6 (by simp only [alloc_size, size_ext, drew_size, Hz.out]; omega)) (by (repeat (first | (with_reducible exact Grow.refl _) | assumption | refine Grow.ext ?_ _ | refine Grow.alloc ?_ _ | refine Grow.drew ?_ | refine Grow.setCell ?_ (by first | (simp; done) | (simp; omega)) _ | refine Grow.trans ?_ (by assumption)))) (by simp only [alloc_size, size_ext, drew_size, Hz.out]; omega) (by simp only [alloc_size, size_ext, drew_size, Hz.out]; omega) rfl (y := y) (Gy := fun _ => False) ⟨rfl, hwy⟩ (fun _ h => h.elim) (by (repeat (refine CellsAt.cons (by go_simp) ?_)); exact CellsAt.nil _ _ _) (by simp [Value.oneCell']) (by omega) (by omega) ?_); intro tv' x' hown' hsz' hagr; obtain ⟨ta, tn, tc, rfl, Htn, htn, hown'⟩ := hown'.open)); refine hK _ _ (hC _ _ _ (by (repeat (first | (with_reducible exact Grow.refl _) | assumption | refine Grow.ext ?_ _ | refine Grow.alloc ?_ _ | refine Grow.drew ?_ | refine Grow.setCell ?_ (by first | (simp; done) | (simp; omega)) _ | refine Grow.trans ?_ (by assumption))))) ?_; clear hK K)) | (refine J_any [4] (by decide +kernel) ?_; (refine ⟨_, rfl, fun K hK => ?_⟩; go_wp2_with (first | (go_at_call 103; ((with_reducible refine (Hc6.out _ (((((h.alloc _).ext _).alloc _).ext _).drew)).mono ?_); rintro e w1 ⟨rfl, x6, rfl⟩; (try dsimp only []))) | (at_builtin; go_must (refine wpList_app1 (α := Opd) slTv_Opd rfl rfl rfl (hown.state0 (((h.alloc _).ext _).alloc _) s6 (by simp only [alloc_size, size_ext, drew_size, Hz.out]; omega)) (by (repeat (first | (with_reducible exact Grow.refl _) | assumption | refine Grow.ext ?_ _ | refine Grow.alloc ?_ _ | refine Grow.drew ?_ | refine Grow.setCell ?_ (by first | (simp; done) | (simp; omega)) _ | refine Grow.trans ?_ (by assumption)))) (by simp only [alloc_size, size_ext, drew_size, Hz.out]; omega) (by simp only [alloc_size, size_ext, drew_size, Hz.out]; omega) rfl (y := y) (Gy := fun _ => False) ⟨rfl, hwy⟩ (fun _ h => h.elim) (by (repeat (refine CellsAt.cons (by go_simp) ?_)); exact CellsAt.nil _ _ _) (by simp [Value.oneCell']) (by omega) (by omega) ?_); intro tv' x' hown' hsz' hagr; obtain ⟨ta, tn, tc, rfl, Htn, htn, hown'⟩ := hown'.open)); refine hK _ _ (hC _ _ _ (by (repeat (first | (with_reducible exact Grow.refl _) | assumption | refine Grow.ext ?_ _ | refine Grow.alloc ?_ _ | refine Grow.drew ?_ | refine Grow.setCell ?_ (by first | (simp; done) | (simp; omega)) _ | refine Grow.trans ?_ (by assumption))))) ?_; clear hK K)) | (refine J_any [5] (by decide +kernel) ?_; (refine ⟨_, rfl, fun K hK => ?_⟩; go_wp2_with (first | (go_at_call 103; ((with_reducible refine (Hc6.out _ (((((h.alloc _).ext _).alloc _).ext _).drew)).mono ?_); rintro e w1 ⟨rfl, x6, rfl⟩; (try dsimp only []))) | (at_builtin; go_must (refine wpList_app1 (α := Opd) slTv_Opd rfl rfl rfl (hown.state0 (((h.alloc _).ext _).alloc _) s6 (by simp only [alloc_size, size_ext, drew_size, Hz.out]; omega)) (by (repeat (first | (with_reducible exact Grow.refl _) | assumption | refine Grow.ext ?_ _ | refine Grow.alloc ?_ _ | refine Grow.drew ?_ | refine Grow.setCell ?_ (by first | (simp; done) | (simp; omega)) _ | refine Grow.trans ?_ (by assumption)))) (by simp only [alloc_size, size_ext, drew_size, Hz.out]; omega) (by simp only [alloc_size, size_ext, drew_size, Hz.out]; omega) rfl (y := y) (Gy := fun _ => False) ⟨rfl, hwy⟩ (fun _ h => h.elim) (by (repeat (refine CellsAt.cons (by go_simp) ?_)); exact CellsAt.nil _ _ _) (by simp [Value.oneCell']) (by omega) (by omega) ?_); intro tv' x' hown' hsz' hagr; obtain ⟨ta, tn, tc, rfl, Htn, htn, hown'⟩ := hown'.open)); refine hK _ _ (hC _ _ _ (by (repeat (first | (with_reducible exact Grow.refl _) | assumption | refine Grow.ext ?_ _ | refine Grow.alloc ?_ _ | refine Grow.drew ?_ | refine Grow.setCell ?_ (by first | (simp; done) | (simp; omega)) _ | refine Grow.trans ?_ (by assumption))))) ?_; clear hK K)) | (refine J_any [7] (by decide +kernel) ?_; (refine ⟨_, rfl, fun K hK => ?_⟩; go_wp2_with (first | (go_at_call 103; ((with_reducible refine (Hc6.out _ (((((h.alloc _).ext _).alloc _).ext _).drew)).mono ?_); rintro e w1 ⟨rfl, x6, rfl⟩; (try dsimp only []))) | (at_builtin; go_must (refine wpList_app1 (α := Opd) slTv_Opd rfl rfl rfl (hown.state0 (((h.alloc _).ext _).alloc _) s6 (by simp only [alloc_size, size_ext, drew_size, Hz.out]; omega)) (by (repeat (first | (with_reducible exact Grow.refl _) | assumption | refine Grow.ext ?_ _ | refine Grow.alloc ?_ _ | refine Grow.drew ?_ | refine Grow.setCell ?_ (by first | (simp; done) | (simp; omega)) _ | refine Grow.trans ?_ (by assumption)))) (by simp only [alloc_size, size_ext, drew_size, Hz.out]; omega) (by simp only [alloc_size, size_ext, drew_size, Hz.out]; omega) rfl (y := y) (Gy := fun _ => False) ⟨rfl, hwy⟩ (fun _ h => h.elim) (by (repeat (refine CellsAt.cons (by go_simp) ?_)); exact CellsAt.nil _ _ _) (by simp [Value.oneCell']) (by omega) (by omega) ?_); intro tv' x' hown' hsz' hagr; obtain ⟨ta, tn, tc, rfl, Htn, htn, hown'⟩ := hown'.open)); refine hK _ _ (hC _ _ _ (by (repeat (first | (with_reducible exact Grow.refl _) | assumption | refine Grow.ext ?_ _ | refine Grow.alloc ?_ _ | refine Grow.drew ?_ | refine Grow.setCell ?_ (by first | (simp; done) | (simp; omega)) _ | refine Grow.trans ?_ (by assumption))))) ?_; clear hK K))))))
        all_goals (refine J_end (by decide +kernel) ?_)
        all_goals
          go_wp2_with fail
          go_roundw
          case rel => exact ⟨k + 1, xs ++ [y], .slice ta tn tc, s6, x', by go_num, by omega, rfl, hz6, hown'.turn (by simp only [size_ext, alloc_size, drew_size, Hz.out]; omega), Lib.hid (by rw [List.length_append, Hl.out]; rfl), Hs⟩
          case measure => simp [intOf]; omega
      · obtain rfl : k = u2 := by omega
        have He := rqL_end Hr.out
        obtain ⟨rfl, rfl⟩ : l3 = xs ∧ s3 = s' := by have := Hq3.out; rw [He] at this; injection this with h1 h2; exact ⟨h1, h2⟩
        clear Hr Hq3 hb
        go_wp2_with (first
          | (go_at_call 101; ((with_reducible refine (Hc4.out _ ((((h.alloc _).ext _).alloc _).ext _)).mono ?_); rintro e w1 ⟨rfl, x4, rfl⟩; (try dsimp only [])))
          | (go_at_call 38; ((with_reducible refine (Hc5.out _ (((((h.alloc _).ext _).alloc _).ext _).ext _)).mono ?_); rintro e w1 ⟨rfl, x5, rfl⟩; (try dsimp only []))))
        (try simp only [Exit.inBlock, Exit.then])
        refine postJ_of (by simp only [results, Tryz.results70]; go_simp <;> rfl) rfl (by (repeat (first | (with_reducible exact Grow.refl _) | assumption | refine Grow.ext ?_ _ | refine Grow.alloc ?_ _ | refine Grow.drew ?_ | refine Grow.setCell ?_ (by first | (simp; done) | (simp; omega)) _ | refine Grow.trans ?_ (by assumption)))) (.slice a m cap) rfl ?_
        refine Own.mono ?_ (grow_ext _ x5)
        refine Own.mono ?_ (grow_ext _ x4)
        exact (Own.shift (by simp only [size_ext, alloc_size, drew_size, Hz.out]) hown (Nat.le_of_eq (by simp only [size_ext, alloc_size, drew_size, Hz.out]))).low (by omega)
  · have Hr : Hid (rqJu b s = (⟨5, ⟨0, 0, ⟨0, false, 0⟩⟩, 0, 0, 0, [], ⟨0, false, 0⟩⟩, q0.2)) := Lib.hid (by simp only [rqJu, bindR, ite_at, retR]; simp only [← Hq0.out]; (try rw [if_neg (by rw [hk]; decide)]); (try rw [if_neg (by rw [hk]; decide)]); (try rw [if_neg (by rw [hk]; decide)]); (try rw [if_neg (by rw [hk]; decide)]); (try rw [if_pos hk]); (first | done | rfl | (rw [hk]; rfl)))
    rw [Hr.out]
    clear Hr hb hz0
    clear Hq0
    obtain ⟨u0, s0⟩ := q0
    simp only at hk
    subst hk
    go_enter Tryz.func70, Tryz.ntmps70
    go_wp2_with (first
      | (go_at_call 38; ((with_reducible refine (Hc0.out _ ((h.alloc _))).mono ?_); rintro e w1 ⟨rfl, x0, rfl⟩; (try dsimp only []))))
    (try simp only [Exit.inBlock, Exit.then])
    exact postJ_of (by simp only [results, Tryz.results70]; go_simp <;> rfl) rfl (by (repeat (first | (with_reducible exact Grow.refl _) | assumption | refine Grow.ext ?_ _ | refine Grow.alloc ?_ _ | refine Grow.drew ?_ | refine Grow.setCell ?_ (by first | (simp; done) | (simp; omega)) _ | refine Grow.trans ?_ (by assumption)))) (.slice none 0 0) rfl (Own.nil _ _ _ _)
end Go.Proofs.YtafcdabiplcjiaaGreat