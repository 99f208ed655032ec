/- Layers 2, 3 and 13: the references, and the types of places. -/
import Derived.Test.YthackfblfkpddaaL02
namespace Go.Proofs.Ythackfblfkpddaa
open Go.RowKit
set_option linter.unusedSimpArgs false
set_option linter.unusedVariables false

def tyWith (n : Int) : Ty := if n < 2 then ⟨n + 1, 0⟩ else ⟨n / 2 + 2, n % 2 + 1⟩

set_option maxHeartbeats 400000 in
theorem ref02_With (n : Int) (w : World) (h0 : 0 ≤ n) (h1 : n < 8) :
    Calls Try.prog 108 #[.int .i64 n] w (Ret w (tyWith n).v) := by
  go_enter Try.func108, Try.ntmps108
  go_wp2
  all_goals ((try simp only [Exit.inBlock, Exit.then]); refine post_of (by simp only [results, Try.results108]; go_simp; rfl) rfl (by (repeat (first | (with_reducible exact Grow.refl _) | assumption | refine Grow.ext ?_ _ | refine Grow.alloc ?_ _ | refine Grow.drew ?_ | refine Grow.setCell ?_ (by first | (simp; done) | (simp; omega)) _ | refine Grow.trans ?_ (by assumption)))) ?_)
  all_goals grind [tyWith]

def tyNum (t : Ty) : Int := if t = ⟨1, 0⟩ then 0 else if t = ⟨2, 0⟩ then 1 else if t = ⟨3, 1⟩ then 2 else if t = ⟨3, 2⟩ then 3 else if t = ⟨4, 1⟩ then 4 else if t = ⟨4, 2⟩ then 5 else if t = ⟨5, 1⟩ then 6 else if t = ⟨5, 2⟩ then 7 else -1
theorem tyNum_with {k : Nat} {t : Ty} (h : k < 8) (e : tyWith k = t) : tyNum t = k := by
  subst e
  obtain rfl | rfl | rfl | rfl | rfl | rfl | rfl | rfl : k = 0 ∨ k = 1 ∨ k = 2 ∨ k = 3 ∨ k = 4 ∨ k = 5 ∨ k = 6 ∨ k = 7 := by omega
  all_goals rfl
theorem tyNum_none {t : Ty} (h : ∀ j : Nat, j < 8 → tyWith j ≠ t) : tyNum t = -1 := by
  have h0 := h 0 (by omega); have h1 := h 1 (by omega); have h2 := h 2 (by omega); have h3 := h 3 (by omega)
  have h4 := h 4 (by omega); have h5 := h 5 (by omega); have h6 := h 6 (by omega); have h7 := h 7 (by omega)
  simp only [tyNum]
  rw [if_neg (fun e => h0 e.symm), if_neg (fun e => h1 e.symm), if_neg (fun e => h2 e.symm), if_neg (fun e => h3 e.symm), if_neg (fun e => h4 e.symm), if_neg (fun e => h5 e.symm), if_neg (fun e => h6 e.symm), if_neg (fun e => h7 e.symm)]
theorem tyNum_iff (t : Ty) : tyNum t < 0 ↔ ¬ TyOk t := by
  obtain ⟨a, b⟩ := t
  simp only [tyNum, TyOk, Ty.mk.injEq]
  constructor
  · intro h; (repeat' split at h) <;> omega
  · intro h; rw [if_neg (by omega), if_neg (by omega), if_neg (by omega), if_neg (by omega), if_neg (by omega), if_neg (by omega), if_neg (by omega), if_neg (by omega)]; omega

set_option maxHeartbeats 400000 in
theorem ref02_Number (t : Ty) (w : World) :
    Calls Try.prog 100 #[t.v] w (Ret w (.int .i64 (tyNum t))) := by
  go_enter Try.func100, Try.ntmps100
  go_wp2
  go_loopw [3] (fun i wr => ∃ k : Nat, k ≤ 8 ∧ i = .int .i64 k ∧ Grow (w.alloc (Obj.cells #[Value.int IntKind.u8 t.kind, Value.int IntKind.u8 t.to] 23)) wr ∧ Hid (∀ j : Nat, j < k → tyWith j ≠ t)) (fun i _ => 8 - (intOf i).toNat)
  case atStart => exact ⟨0, Nat.zero_le _, rfl, (by (repeat (first | (with_reducible exact Grow.refl _) | assumption | refine Grow.ext ?_ _ | refine Grow.alloc ?_ _ | refine Grow.drew ?_ | refine Grow.setCell ?_ (by first | (simp; done) | (simp; omega)) _ | refine Grow.trans ?_ (by assumption)))), fun j hj => by omega⟩
  case round =>
    obtain ⟨k, hk, rfl, hb1, ht⟩ := hrel
    (obtain ⟨x1, rfl⟩ := ext_of_grow hb1; clear hb1)
    by_cases hlt : k < 8
    · by_cases he1 : (tyWith k).kind = t.kind
      · by_cases he2 : (tyWith k).to = t.to
        · have Hs : Hid (tyNum t = k) := tyNum_with hlt (by cases h : tyWith k; cases t; simp_all)
          go_wp2_with fail
          (refine wp_region_ext (by kernel_rfl) (by kernel_rfl) ?_; (repeat (any_goals (first | go_big_quiet_step (first | (go_at_call 108; refine ext_call (ref02_With _ _ (by omega) (by omega)))) | (refine wpQuiet_step (fun K hK => ?_); go_simp; split <;> (refine hK _ ?_; clear hK K))))); all_goals (refine wpQuiet_nil ?_; intro w2 hb2; obtain ⟨x2, rfl⟩ := ext_of_grow hb2; clear hb2))
          go_wp2_with fail
          go_ret
          exact Ret.int (by rw [Hs.out]) (by (repeat (first | (with_reducible exact Grow.refl _) | assumption | refine Grow.ext ?_ _ | refine Grow.alloc ?_ _ | refine Grow.drew ?_ | refine Grow.setCell ?_ (by first | (simp; done) | (simp; omega)) _ | refine Grow.trans ?_ (by assumption))))
        · have Hs : Hid (tyWith k ≠ t) := fun e => he2 (by rw [e])
          go_wp2_with fail
          (refine wp_region_ext (by kernel_rfl) (by kernel_rfl) ?_; (repeat (any_goals (first | go_big_quiet_step (first | (go_at_call 108; refine ext_call (ref02_With _ _ (by omega) (by omega)))) | (refine wpQuiet_step (fun K hK => ?_); go_simp; split <;> (refine hK _ ?_; clear hK K))))); all_goals (refine wpQuiet_nil ?_; intro w2 hb2; obtain ⟨x2, rfl⟩ := ext_of_grow hb2; clear hb2))
          go_wp2_with fail
          go_roundw
          case rel => exact ⟨k + 1, by omega, by go_num, (by (repeat (first | (with_reducible exact Grow.refl _) | assumption | refine Grow.ext ?_ _ | refine Grow.alloc ?_ _ | refine Grow.drew ?_ | refine Grow.setCell ?_ (by first | (simp; done) | (simp; omega)) _ | refine Grow.trans ?_ (by assumption)))), fun j hj => by by_cases e : j = k; subst e; exact Hs; exact ht j (by omega)⟩
          case measure => simp [intOf]; omega
      · have Hs : Hid (tyWith k ≠ t) := fun e => he1 (by rw [e])
        go_wp2_with fail
        (refine wp_region_ext (by kernel_rfl) (by kernel_rfl) ?_; (repeat (any_goals (first | go_big_quiet_step (first | (go_at_call 108; refine ext_call (ref02_With _ _ (by omega) (by omega)))) | (refine wpQuiet_step (fun K hK => ?_); go_simp; split <;> (refine hK _ ?_; clear hK K))))); all_goals (refine wpQuiet_nil ?_; intro w2 hb2; obtain ⟨x2, rfl⟩ := ext_of_grow hb2; clear hb2))
        go_wp2_with fail
        go_roundw
        case rel => exact ⟨k + 1, by omega, by go_num, (by (repeat (first | (with_reducible exact Grow.refl _) | assumption | refine Grow.ext ?_ _ | refine Grow.alloc ?_ _ | refine Grow.drew ?_ | refine Grow.setCell ?_ (by first | (simp; done) | (simp; omega)) _ | refine Grow.trans ?_ (by assumption)))), fun j hj => by by_cases e : j = k; subst e; exact Hs; exact ht j (by omega)⟩
        case measure => simp [intOf]; omega
    · obtain rfl : k = 8 := by omega
      go_wp2_with fail
      go_ret
      exact Ret.int (by rw [tyNum_none ht.out]) (by (repeat (first | (with_reducible exact Grow.refl _) | assumption | refine Grow.ext ?_ _ | refine Grow.alloc ?_ _ | refine Grow.drew ?_ | refine Grow.setCell ?_ (by first | (simp; done) | (simp; omega)) _ | refine Grow.trans ?_ (by assumption))))

set_option maxHeartbeats 400000 in
theorem ref02_Check (t : Ty) (w : World) :
    Calls Try.prog 82 #[t.v] w (Ret w (.int .i64 (tyErr t))) := by
  go_enter Try.func82, Try.ntmps82
  go_wp2_with (first | (go_at_call 100; ((with_reducible refine (ref02_Number t _).mono ?_); rintro e w1 ⟨rfl, hb1⟩; obtain ⟨x1, rfl⟩ := ext_of_grow hb1; clear hb1)))
  all_goals go_ret
  all_goals (refine Ret.int ?_ (by (repeat (first | (with_reducible exact Grow.refl _) | assumption | refine Grow.ext ?_ _ | refine Grow.alloc ?_ _ | refine Grow.drew ?_ | refine Grow.setCell ?_ (by first | (simp; done) | (simp; omega)) _ | refine Grow.trans ?_ (by assumption)))))
  all_goals (have h1 := tyNum_iff t; grind [tyErr])

set_option maxHeartbeats 400000 in
theorem ref02_Pointer (t : Ty) (w : World) :
    Calls Try.prog 83 #[t.v] w (Ret w (.bool (decide (3 ≤ t.kind)))) := by
  go_enter Try.func83, Try.ntmps83
  go_wp2
  all_goals go_ret
  all_goals (refine Ret.bool ?_ (by (repeat (first | (with_reducible exact Grow.refl _) | assumption | refine Grow.ext ?_ _ | refine Grow.alloc ?_ _ | refine Grow.drew ?_ | refine Grow.setCell ?_ (by first | (simp; done) | (simp; omega)) _ | refine Grow.trans ?_ (by assumption)))))
  all_goals grind

set_option maxHeartbeats 400000 in
theorem ref03_Check (p : Pl) (w : World) :
    Calls Try.prog 109 #[p.v] w (Ret w (.int .i64 (plErr p))) := by
  go_enter Try.func109, Try.ntmps109
  go_wp2
  all_goals (go_ret; refine Ret.int ?_ (by (repeat (first | (with_reducible exact Grow.refl _) | assumption | refine Grow.ext ?_ _ | refine Grow.alloc ?_ _ | refine Grow.drew ?_ | refine Grow.setCell ?_ (by first | (simp; done) | (simp; omega)) _ | refine Grow.trans ?_ (by assumption)))))
  all_goals (unfold plErr PlOk; grind)

def locErr (ts : List Ty) : Int := if LocOk ts then 0 else 8

end Go.Proofs.Ythackfblfkpddaa
