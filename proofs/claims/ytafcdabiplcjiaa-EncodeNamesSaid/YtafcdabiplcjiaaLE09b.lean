/- Layer 9: the law of the names: all kinds of statements. -/
import Derived.Test.YtafcdabiplcjiaaLE09
namespace Go.Proofs.Ytafcdabiplcjiaa
open Go.RowKit
set_option linter.unusedSimpArgs false
set_option linter.unusedVariables false

abbrev kO : Opd := ⟨0, 0, ⟨0, false, 0⟩⟩
abbrev kP : Pl := ⟨0, false, 0⟩
abbrev kR : Rv := ⟨0, 0, 0, kO, kO, kP⟩
abbrev kX : Opd := ⟨2, 0, ⟨2, false, 0⟩⟩
abbrev kQ : Pl := ⟨1, true, 2⟩
abbrev kF : Opd := ⟨1, -5, kP⟩
abbrev kA : Pl := ⟨15, false, 0⟩
def S8 : List St := [⟨1, kQ, ⟨1, 0, 0, kX, kO, kP⟩, kO, 0⟩, ⟨1, kA, ⟨2, 3, 0, kX, kF, kP⟩, kO, 0⟩, ⟨1, kA, ⟨3, 0, 0, kF, kX, kP⟩, kO, 0⟩, ⟨1, kA, ⟨4, 0, 2, kO, kO, kQ⟩, kO, 0⟩, ⟨1, kA, ⟨5, 0, 0, kO, kO, kQ⟩, kO, 0⟩, ⟨2, kP, kR, kF, 0⟩, ⟨3, kP, kR, kO, 9⟩, ⟨4, kP, kR, kX, 0⟩]
def T8 : List Str := [⟨[1, 11, 1, 2, 12]⟩, ⟨[1, 90, 2, 3, 2, 12, 1, 9]⟩, ⟨[1, 90, 3, 1, 9, 2, 12]⟩, ⟨[1, 90, 4, 2, 11]⟩, ⟨[1, 90, 5, 11]⟩, ⟨[2, 1, 9]⟩, ⟨[3, 9]⟩, ⟨[4, 2, 12]⟩]
theorem S8_wf : ∀ x ∈ S8, x.wf := by
  intro x hx
  simp only [S8, List.mem_cons, List.not_mem_nil, or_false] at hx
  rcases hx with rfl | rfl | rfl | rfl | rfl | rfl | rfl | rfl
  all_goals
    refine ⟨?_, ⟨?_, ?_⟩, ⟨?_, ?_, ?_, ⟨?_, ?_, ⟨?_, ?_⟩⟩, ⟨?_, ?_, ⟨?_, ?_⟩⟩, ⟨?_, ?_⟩⟩, ⟨?_, ?_, ⟨?_, ?_⟩⟩, ?_⟩ <;> first | (unfold U8; dsimp only; omega) | (unfold I64; dsimp only; omega)
theorem T8_ok : ∀ s ∈ T8, (∀ x ∈ s.b, x < 256) ∧ s.b.length ≤ 20 := by decide +kernel
theorem kinds_ok : ∀ k : Fin 8, fnL (wrF ((S8.drop k).take 1) ju3) = [1, 1, 16] ++ zeros16 ++ [1] ++ ([1] ++ (T8[k.val]'(by have := k.isLt; simp [T8])).b ++ [3]) ∧ fnR (wrF ((S8.drop k).take 1) ju3) = 0 := by decide +kernel
theorem kinds_last : fnL (wrF ((S8.drop 6).take 2) ju3) = [1, 1, 16] ++ zeros16 ++ [1] ++ [2, 3, 9, 4, 2, 12, 3] ∧ fnR (wrF ((S8.drop 6).take 2) ju3) = 0 := by decide +kernel
theorem ju3_wf : ju3.wf := by
  refine ⟨?_, ⟨?_, ?_, ⟨?_, ?_⟩⟩, ?_, ?_, ?_, ⟨?_, ?_⟩⟩ <;> first | (unfold U8; dsimp only; omega) | (unfold I64; dsimp only; omega)
theorem sl_S8 {w : World} {g : Nat} {e : TypeId} (hg : w.heap[g]? = some (.cells ((S8.map St.c).flatten.toArray) e)) : Sl (fun _ => True) w (.slice (some ⟨g, 0, none⟩) 8 8) S8 := by
  have h := Rows8.sl (α := St) (xs := S8) (cap := 8) (F := fun _ => True) (Rows8.flat (α := St) (xs := S8) (F := fun _ => True) (w := w) (S8.map St.c) (by simp) (fun i h h' => by simp only [List.getElem_map]; exact ⟨rfl, S8_wf _ (List.getElem_mem h)⟩) rfl) hg (Agr.refl _ _) (by decide) (by omega)
  exact h.wide (fun _ _ _ => trivial)
def P8 : Array (Nat × Value) := #[(0, .agg S8[0].c.toArray), (1, .agg S8[1].c.toArray), (2, .agg S8[2].c.toArray), (3, .agg S8[3].c.toArray), (4, .agg S8[4].c.toArray), (5, .agg S8[5].c.toArray), (6, .agg S8[6].c.toArray), (7, .agg S8[7].c.toArray)]
theorem run_S8 (w : World) : (Instr.buildSlice 55 8 P8).run Try.prog w = .ok (.slice (some ⟨w.heap.size, 0, none⟩) 8 8) (w.alloc (.cells ((S8.map St.c).flatten.toArray) 54)) := by kernel_rfl
theorem wpList_S8 {ops : Array Oper} {rest : List Oper} {o : Oper} {a : Act} {w : World} {Q : Exit → Act → World → Prop} {parts : Array (Nat × Operand)} (hgd : o.guard = none)
    (ho : o.op = .buildSlice 55 8 parts) (hp : parts.map (fun (i, x) => (i, a.eval x)) = P8)
    (h : wpList Try.prog ops Q rest (a.put o.dst (.slice (some ⟨w.heap.size, 0, none⟩) 8 8)) (w.alloc (.cells ((S8.map St.c).flatten.toArray) 54))) : wpList Try.prog ops Q (o :: rest) a w := by
  refine wpList_plain hgd fun _ hK => ?_
  unfold Oper.wp execOp
  simp only [ho, hp, run_S8, Sem.run_bind, Sem.run_pure, Result.andThen_ok]
  exact hK _ _ h
set_option maxRecDepth 100000 in
set_option maxHeartbeats 8000000 in
theorem law09_kinds (w : World) : Calls Try.prog 22 #[] w (Ret w (.bool true)) := by
  have hst : ∀ w', Grow (w.alloc (.cells #[.int .u8 3, .int .u8 0, .int .i64 0, .int .i64 0, .bool false, .int .u8 0, .int .i64 0, .int .i64 0, .int .i64 0, .slice none 0 0, .int .i64 0, .bool false, .int .u8 0] 49)) w' → ∃ x, w' = ext (w.alloc (.cells #[.int .u8 3, .int .u8 0, .int .i64 0, .int .i64 0, .bool false, .int .u8 0, .int .i64 0, .int .i64 0, .int .i64 0, .slice none 0 0, .int .i64 0, .bool false, .int .u8 0] 49)) x := fun w' g => ext_of_grow g
  go_enter Try.func22, Try.ntmps22
  go_wp2_with (first | (with_reducible refine wpList_S8 rfl rfl (by kernel_rfl) ?_))
  go_loopw [8] (fun iv wr => ∃ (k : Nat) (x : Ext), iv = .int .i64 k ∧ k ≤ 8 ∧ wr = ext (w.alloc (.cells #[.int .u8 3, .int .u8 0, .int .i64 0, .int .i64 0, .bool false, .int .u8 0, .int .i64 0, .int .i64 0, .int .i64 0, .slice none 0 0, .int .i64 0, .bool false, .int .u8 0] 49)) x ∧ Sl (fun _ => True) wr (.slice (some ⟨w.heap.size + 1 + 1 + 1 + 1 + 1, 0, none⟩) 8 8) S8 ∧ Sl (fun _ => True) wr (.slice (some ⟨w.heap.size + 1 + 1 + 1 + 1 + 1 + 1, 0, none⟩) 8 8) T8) (fun iv _ => 8 - (intOf iv).toNat)
  case atStart =>
    refine ⟨0, _, rfl, Nat.zero_le _, (hst _ (by (repeat (first | (with_reducible exact Grow.refl _) | assumption | refine Grow.ext ?_ _ | refine Grow.alloc ?_ _ | refine Grow.drew ?_ | refine Grow.setCell ?_ (by first | (simp; done) | (simp; omega)) _ | refine Grow.trans ?_ (by assumption))))).choose_spec, ?_, ?_⟩
    · exact sl_S8 (e := 54) (by first | (simp only [hp_at, hp_alloc]; done) | (simp only [hp_at, hp_alloc]; kernel_rfl))
    · exact (own_lit (e := 9) (base := w.heap.size) (n := 8) (xs := T8) rfl (by simp only [hp_at, hp_alloc]; kernel_rfl) (by omega) (fun s hs => ⟨(T8_ok s hs).1, by have := (T8_ok s hs).2; omega⟩) (by decide)).sl.wide (fun _ _ _ => trivial)
  case round =>
    obtain ⟨k, x, rfl, hk, rfl, hss, hts⟩ := hrel
    by_cases hlt : k < 8
    · obtain ⟨bt, ot, t, he, Ht, hlb, hok, hct⟩ := hts.str k hlt
      simp only [Option.some.injEq, Addr.mk.injEq, and_true] at he
      obtain ⟨rfl, rfl⟩ := he
      rw [Nat.zero_add] at hct
      have hsub := hss.sub k 1 (by omega)
      rw [Nat.zero_add, sz_st] at hsub
      have htb := T8_ok t (List.mem_of_getElem? Ht.out)
      obtain ⟨s1, hs1⟩ : ∃ s, strB t.b = s := ⟨_, rfl⟩
      obtain ⟨s2, hs2⟩ : ∃ s, strB ([1] ++ t.b) = s := ⟨_, rfl⟩
      obtain ⟨s3, hs3⟩ : ∃ s, strB ([1] ++ t.b ++ [3]) = s := ⟨_, rfl⟩
      have e1 : (ByteArray.mk #[1]) ++ s1 = s2 := by rw [← hs1, ← hs2, strB_app]; congr 1
      have e2 : s2 ++ (ByteArray.mk #[3]) = s3 := by rw [← hs2, ← hs3, strB_app _ [3]]; congr 1
      have n1 : s1.size ≤ 20 := by rw [← hs1]; have := htb.2; simp [strB, ByteArray.size]; omega
      have n2 : s2.size ≤ 21 := by rw [← hs2]; have := htb.2; simp [strB, ByteArray.size]; omega
      have m1 : (ByteArray.mk #[1]).size = 1 := rfl
      have m3 : (ByteArray.mk #[3]).size = 1 := rfl
      have HW : Hid (∀ (w' : World) (h : Sl (fun _ => True) w' (.slice (some ⟨w.heap.size + 1 + 1 + 1 + 1 + 1, k * 26, none⟩) 1 (8 - k)) ((S8.drop k).take 1)), Calls Try.prog 19 #[.slice (some ⟨w.heap.size + 1 + 1 + 1 + 1 + 1, k * 26, none⟩) 1 (8 - k), .agg #[.int .u8 3, .int .u8 0, .int .i64 0, .int .i64 0, .bool false, .int .u8 0, .int .i64 0, .int .i64 0, .int .i64 0, .slice none 0 0, .int .i64 0, .bool false, .int .u8 0], .string s3] w' (Ret w' (.bool true))) := Lib.hid (fun w' h => by
        have hkk := kinds_ok ⟨k, hlt⟩
        have et : T8[k]'(by simp [T8]; omega) = t := by have := Ht.out; rw [List.getElem?_eq_getElem (by simp [T8]; omega)] at this; exact Option.some.inj this
        dsimp only at hkk
        rw [et] at hkk
        rw [← hs3]
        exact law09_written ((S8.drop k).take 1) _ ju3 (.slice none 0 0) ([1] ++ t.b ++ [3]) w' h (Sl.nil (fun _ => True) _) ju3_wf (by have := htb.2; simp; omega) hkk.1 hkk.2)
      rw [hs1] at hct
      have hk8 : (8 = k) = False := by simp; omega
      have hk9 : decide (8 ≤ k) = false := by simp; omega
      clear hs1 hs2 hs3
      go_wp2_with fail
      (refine wp_region_ext (by kernel_rfl) (by kernel_rfl) ?_; (repeat (any_goals (first | go_big_quiet_step (first | (go_at_call 19; refine ext_call (HW.out _ (hsub.mono (by (repeat (first | (with_reducible exact Grow.refl _) | assumption | refine Grow.ext ?_ _ | refine Grow.alloc ?_ _ | refine Grow.drew ?_ | refine Grow.setCell ?_ (by first | (simp; done) | (simp; omega)) _ | refine Grow.trans ?_ (by assumption)))))))) | (refine wpQuiet_step (fun K hK => ?_); go_simp; split <;> (refine hK _ ?_; clear hK K))))); all_goals (refine wpQuiet_nil ?_; intro w3 hb3; obtain ⟨x3, rfl⟩ := ext_of_grow hb3; clear hb3))
      go_wp2_with fail
      go_roundw
      case rel => exact ⟨k + 1, _, by go_num, by omega, (hst _ (by (repeat (first | (with_reducible exact Grow.refl _) | assumption | refine Grow.ext ?_ _ | refine Grow.alloc ?_ _ | refine Grow.drew ?_ | refine Grow.setCell ?_ (by first | (simp; done) | (simp; omega)) _ | refine Grow.trans ?_ (by assumption))))).choose_spec, hss.mono (by (repeat (first | (with_reducible exact Grow.refl _) | assumption | refine Grow.ext ?_ _ | refine Grow.alloc ?_ _ | refine Grow.drew ?_ | refine Grow.setCell ?_ (by first | (simp; done) | (simp; omega)) _ | refine Grow.trans ?_ (by assumption)))), hts.mono (by (repeat (first | (with_reducible exact Grow.refl _) | assumption | refine Grow.ext ?_ _ | refine Grow.alloc ?_ _ | refine Grow.drew ?_ | refine Grow.setCell ?_ (by first | (simp; done) | (simp; omega)) _ | refine Grow.trans ?_ (by assumption))))⟩
      case measure => simp [intOf]; omega
    · obtain rfl : k = 8 := by omega
      obtain ⟨_, _, t6, he6, Ht6, _, _, hc6⟩ := hts.str 6 (by omega)
      simp only [Option.some.injEq, Addr.mk.injEq, and_true] at he6
      obtain ⟨rfl, rfl⟩ := he6
      obtain rfl : t6 = ⟨[3, 9]⟩ := by have := Ht6.out; simp [T8] at this; exact this.symm
      obtain ⟨_, _, t7, he7, Ht7, _, _, hc7⟩ := hts.str 7 (by omega)
      simp only [Option.some.injEq, Addr.mk.injEq, and_true] at he7
      obtain ⟨rfl, rfl⟩ := he7
      obtain rfl : t7 = ⟨[4, 2, 12]⟩ := by have := Ht7.out; simp [T8] at this; exact this.symm
      rw [Nat.zero_add] at hc6 hc7
      dsimp only at hc6 hc7
      obtain ⟨s6, hs6⟩ : ∃ s, strB [3, 9] = s := ⟨_, rfl⟩
      obtain ⟨s7, hs7⟩ : ∃ s, strB [4, 2, 12] = s := ⟨_, rfl⟩
      obtain ⟨u1, hu1⟩ : ∃ s, strB ([2] ++ [3, 9]) = s := ⟨_, rfl⟩
      obtain ⟨u2, hu2⟩ : ∃ s, strB ([2] ++ [3, 9] ++ [4, 2, 12]) = s := ⟨_, rfl⟩
      obtain ⟨u3, hu3⟩ : ∃ s, strB ([2] ++ [3, 9] ++ [4, 2, 12] ++ [3]) = s := ⟨_, rfl⟩
      have e1 : (ByteArray.mk #[2]) ++ s6 = u1 := by rw [← hs6, ← hu1, strB_app]; congr 1
      have e2 : u1 ++ s7 = u2 := by rw [← hs7, ← hu1, ← hu2, strB_app _ [4, 2, 12]]
      have e3 : u2 ++ (ByteArray.mk #[3]) = u3 := by rw [← hu2, ← hu3, strB_app _ [3]]; congr 1
      have n6 : s6.size = 2 := by rw [← hs6]; kernel_rfl
      have n7 : s7.size = 3 := by rw [← hs7]; kernel_rfl
      have nu1 : u1.size = 3 := by rw [← hu1]; kernel_rfl
      have nu2 : u2.size = 6 := by rw [← hu2]; kernel_rfl
      have m2 : (ByteArray.mk #[2]).size = 1 := rfl
      have m3 : (ByteArray.mk #[3]).size = 1 := rfl
      have hsub : Sl (fun _ => True) (ext (w.alloc (.cells #[.int .u8 3, .int .u8 0, .int .i64 0, .int .i64 0, .bool false, .int .u8 0, .int .i64 0, .int .i64 0, .int .i64 0, .slice none 0 0, .int .i64 0, .bool false, .int .u8 0] 49)) x) (.slice (some ⟨w.heap.size + 1 + 1 + 1 + 1 + 1, 156, none⟩) 2 2) ((S8.drop 6).take 2) := hss.sub 6 2 (by omega)
      have HW : Hid (∀ (w' : World) (h : Sl (fun _ => True) w' (.slice (some ⟨w.heap.size + 1 + 1 + 1 + 1 + 1, 156, none⟩) 2 2) ((S8.drop 6).take 2)), Calls Try.prog 19 #[.slice (some ⟨w.heap.size + 1 + 1 + 1 + 1 + 1, 156, none⟩) 2 2, .agg #[.int .u8 3, .int .u8 0, .int .i64 0, .int .i64 0, .bool false, .int .u8 0, .int .i64 0, .int .i64 0, .int .i64 0, .slice none 0 0, .int .i64 0, .bool false, .int .u8 0], .string u3] w' (Ret w' (.bool true))) := Lib.hid (fun w' h => by
        rw [← hu3]
        exact law09_written ((S8.drop 6).take 2) _ ju3 (.slice none 0 0) [2, 3, 9, 4, 2, 12, 3] w' h (Sl.nil (fun _ => True) _) ju3_wf (by simp) kinds_last.1 kinds_last.2)
      rw [hs6] at hc6
      rw [hs7] at hc7
      clear hs6 hs7 hu1 hu2 hu3
      go_wp2_with fail
      (refine wp_region_ext (by kernel_rfl) (by kernel_rfl) ?_; (repeat (any_goals (first | go_big_quiet_step (first | (go_at_call 19; refine ext_call (HW.out _ (hsub.mono (by (repeat (first | (with_reducible exact Grow.refl _) | assumption | refine Grow.ext ?_ _ | refine Grow.alloc ?_ _ | refine Grow.drew ?_ | refine Grow.setCell ?_ (by first | (simp; done) | (simp; omega)) _ | refine Grow.trans ?_ (by assumption)))))))) | (refine wpQuiet_step (fun K hK => ?_); go_simp; split <;> (refine hK _ ?_; clear hK K))))); all_goals (refine wpQuiet_nil ?_; intro w4 hb4; obtain ⟨x4, rfl⟩ := ext_of_grow hb4; clear hb4))
      go_wp2_with fail
      go_ret
      exact Ret.bool rfl (by (repeat (first | (with_reducible exact Grow.refl _) | assumption | refine Grow.ext ?_ _ | refine Grow.alloc ?_ _ | refine Grow.drew ?_ | refine Grow.setCell ?_ (by first | (simp; done) | (simp; omega)) _ | refine Grow.trans ?_ (by assumption))))
end Go.Proofs.Ytafcdabiplcjiaa
