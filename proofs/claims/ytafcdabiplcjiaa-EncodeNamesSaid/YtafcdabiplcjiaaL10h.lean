/- Layer 10: shape.Of. Layer 10: the reader's types and functions. Printed by gen10i.py. -/
import Derived.Test.YtafcdabiplcjiaaL10e
import Derived.Test.YtafcdabiplcjiaaL08b
import Derived.Test.YtafcdabiplcjiaaL13
namespace Go.Proofs.Ytafcdabiplcjiaa
open Go.RowKit
set_option linter.unusedSimpArgs false
set_option linter.unusedVariables false

theorem code_inj : ∀ u : Nat, u < 8 → ∀ k : Nat, k < 6 → ∀ t : Nat, t < 3 → codeOf ⟨(k : Int), (t : Int)⟩ = ((u : Int), 0) → tyWith (u : Int) = ⟨(k : Int), (t : Int)⟩ := by decide +kernel
theorem code_ex : ∀ u : Nat, u < 8 → ∃ k : Nat, k < 6 ∧ ∃ t : Nat, t < 3 ∧ codeOf ⟨(k : Int), (t : Int)⟩ = ((u : Int), 0) := by decide +kernel
set_option maxRecDepth 100000 in
set_option maxHeartbeats 4000000 in
theorem shape_Of (u : Nat) (hu : u < 8) (w : World) :
    Calls Try.prog 76 #[.int .i64 u] w (Ret w (.tuple #[(tyWith u).v, .int .i64 0])) := by
  have Hin := Lib.hid (code_inj u hu)
  have Hex := Lib.hid (code_ex u hu)
  go_enter Try.func76, Try.ntmps76
  go_wp2_with fail
  go_loopw [9] (fun kv wr => ∃ (k : Nat) (x : Ext), k ≤ 6 ∧ kv = .int .u8 k ∧ wr = ext (w.alloc (.cells #[.int .u8 0, .int .u8 0] 65)) x ∧ Hid (∀ k' : Nat, k' < k → ∀ t' : Nat, t' < 3 → codeOf ⟨(k' : Int), (t' : Int)⟩ ≠ ((u : Int), 0))) (fun kv _ => 6 - (intOf kv).toNat)
  case atStart => exact ⟨0, _, by omega, rfl, (ext_self _).symm, Lib.hid (fun k' h => by omega)⟩
  case round =>
    obtain ⟨k, x, hk, rfl, rfl, Hk⟩ := hrel
    by_cases hlt : k < 6
    · have hd : decide ((k : Int) < 6) = true := by simp; omega
      go_wp2_with fail
      go_loopw [12] (fun tv wr => ∃ (t : Nat) (x : Ext), t ≤ 3 ∧ tv = .int .u8 t ∧ wr = ext (w.alloc (.cells #[.int .u8 0, .int .u8 0] 65)) x ∧ Hid (∀ t' : Nat, t' < t → codeOf ⟨(k : Int), (t' : Int)⟩ ≠ ((u : Int), 0))) (fun tv _ => 3 - (intOf tv).toNat)
      case atStart => exact ⟨0, x, by omega, rfl, rfl, Lib.hid (fun _ h => by omega)⟩
      case round =>
        obtain ⟨t, y, ht, rfl, rfl, Ht⟩ := hrel
        by_cases htl : t < 3
        · obtain ⟨c1, hc1⟩ : ∃ c, (codeOf ⟨(k : Int), (t : Int)⟩).1 = c := ⟨_, rfl⟩
          obtain ⟨c2, hc2⟩ : ∃ c, (codeOf ⟨(k : Int), (t : Int)⟩).2 = c := ⟨_, rfl⟩
          have Hc : Hid (∀ w, Calls Try.prog 25 #[.agg #[.int .u8 k, .int .u8 t]] w (Ret w (.tuple #[.int .i64 c1, .int .i64 c2]))) := Lib.hid (fun w => by
            have := shape_Code ⟨(k : Int), (t : Int)⟩ w ⟨by unfold U8; dsimp only; omega, by unfold U8; dsimp only; omega⟩
            rw [hc1, hc2] at this; exact this)
          have Hcc : Hid (codeOf ⟨(k : Int), (t : Int)⟩ = (c1, c2)) := Lib.hid (by rw [← hc1, ← hc2])
          clear hc1 hc2
          by_cases h2 : c2 = 0
          · by_cases h1 : c1 = u
            · subst h1 h2
              have HT := Lib.hid (Hin.out k hlt t htl Hcc.out)
              go_wp2_with (first | (go_at_call 25; ((with_reducible refine (Hc.out _).mono ?_); rintro e w1 ⟨rfl, hb1⟩; obtain ⟨x1, rfl⟩ := ext_of_grow hb1; clear hb1)))
              ((try simp only [Exit.inBlock, Exit.then]); refine post_of (by simp only [results, Try.results76]; go_simp; rfl) rfl (by (repeat (first | (with_reducible exact Grow.refl _) | assumption | refine Grow.ext ?_ _ | refine Grow.alloc ?_ _ | refine Grow.drew ?_ | refine Grow.setCell ?_ (by first | (simp; done) | (simp; omega)) _ | refine Grow.trans ?_ (by assumption)))) ?_)
              rw [HT.out]
            · have Hne : Hid (codeOf ⟨(k : Int), (t : Int)⟩ ≠ ((u : Int), 0)) := Lib.hid (by rw [Hcc.out]; intro e; injection e with e1 e2; exact h1 e1)
              have h1' : (c1 == (u : Int)) = false := by simp [h1]
              subst h2
              clear h1
              go_wp2_with (first | (go_at_call 25; ((with_reducible refine (Hc.out _).mono ?_); rintro e w1 ⟨rfl, hb1⟩; obtain ⟨x1, rfl⟩ := ext_of_grow hb1; clear hb1)))
              go_roundw
              case rel =>
                obtain ⟨y2, hy2⟩ := ext_of_grow (W := w.alloc (.cells #[.int .u8 0, .int .u8 0] 65)) (w := ext ((ext (w.alloc (.cells #[.int .u8 0, .int .u8 0] 65)) y).alloc (.cells #[.int .u8 k, .int .u8 t] 65)) x1) (by (repeat (first | (with_reducible exact Grow.refl _) | assumption | refine Grow.ext ?_ _ | refine Grow.alloc ?_ _ | refine Grow.drew ?_ | refine Grow.setCell ?_ (by first | (simp; done) | (simp; omega)) _ | refine Grow.trans ?_ (by assumption))))
                exact ⟨t + 1, y2, by omega, by go_num, hy2, Lib.hid (fun t' h' => by by_cases e : t' = t; (subst e; exact Hne.out); exact Ht.out t' (by omega))⟩
              case measure => simp [intOf]; omega
          · have Hne : Hid (codeOf ⟨(k : Int), (t : Int)⟩ ≠ ((u : Int), 0)) := Lib.hid (by rw [Hcc.out]; intro e; injection e with e1 e2; exact h2 e2)
            have h2' : (c2 == 0) = false := by simp [h2]
            clear h2
            go_wp2_with (first | (go_at_call 25; ((with_reducible refine (Hc.out _).mono ?_); rintro e w1 ⟨rfl, hb1⟩; obtain ⟨x1, rfl⟩ := ext_of_grow hb1; clear hb1)))
            go_roundw
            case rel =>
              obtain ⟨y2, hy2⟩ := ext_of_grow (W := w.alloc (.cells #[.int .u8 0, .int .u8 0] 65)) (w := ext ((ext (w.alloc (.cells #[.int .u8 0, .int .u8 0] 65)) y).alloc (.cells #[.int .u8 k, .int .u8 t] 65)) x1) (by (repeat (first | (with_reducible exact Grow.refl _) | assumption | refine Grow.ext ?_ _ | refine Grow.alloc ?_ _ | refine Grow.drew ?_ | refine Grow.setCell ?_ (by first | (simp; done) | (simp; omega)) _ | refine Grow.trans ?_ (by assumption))))
              exact ⟨t + 1, y2, by omega, by go_num, hy2, Lib.hid (fun t' h' => by by_cases e : t' = t; (subst e; exact Hne.out); exact Ht.out t' (by omega))⟩
            case measure => simp [intOf]; omega
        · obtain rfl : t = 3 := by omega
          go_wp2_with fail
          go_roundw
          case rel => exact ⟨k + 1, y, by omega, by go_num, rfl, Lib.hid (fun k' h' t' ht' => by by_cases e : k' = k; (subst e; exact Ht.out t' ht'); exact Hk.out k' (by omega) t' ht')⟩
          case measure => simp [intOf]; omega
    · exfalso
      obtain ⟨k', h1, t', h2, h3⟩ := Hex.out
      exact Hk.out k' (by omega) t' h2 h3
/-- A type is read. -/
def rdTy (b : List Nat) (s : RS) : Ty × RS := (tyWith ((rdNum b 0 7 s).1 : Nat), (rdNum b 0 7 s).2)
theorem rdTy_at {b : List Nat} {s : RS} (hb : ∀ x ∈ b, x < 256) (hs : s.at' ≤ b.length) : (rdTy b s).2.at' ≤ b.length := rdNum_at hb hs
theorem rdTy_wf {b : List Nat} {s : RS} (hb : ∀ x ∈ b, x < 256) : (rdTy b s).1.wf := by
  have h := rdNum_le (b := b) (s := s) (lo := 0) (hi := 7) (by omega)
  unfold rdTy tyWith
  dsimp only
  split
  · exact ⟨by unfold U8; dsimp only; omega, by unfold U8; dsimp only; omega⟩
  · exact ⟨by unfold U8; dsimp only; omega, by unfold U8; dsimp only; omega⟩
set_option maxHeartbeats 4000000 in
theorem decode_ty {rb : Nat} {bv : Value} {b : List Nat} {W : RS → World} {pb : Nat} (h : RdW 93 rb bv b W) (hp : Pb pb (.pointer (some ⟨rb, 0, none⟩)) W) (s : RS) (hs : s.at' ≤ b.length) :
    Calls Try.prog 75 #[.pointer (some ⟨pb, 0, none⟩)] (W s) (Rdn W (rdTy b s).1.v (rdTy b s).2) := by
  haveI hltw : ∀ s, LtW rb (W s) := fun s => ⟨h.lt s⟩
  haveI hltp : ∀ s, LtW pb (W s) := fun s => ⟨hp.lt s⟩
  haveI hsz : ∀ s0 s1, EqW (W s1).heap.size (W s0) := fun s0 s1 => h.szW s1 s0
  have hc := hp.cell s
  obtain ⟨q, Hq⟩ : ∃ q, Hid (q = rdNum b 0 7 s) := ⟨_, Lib.hid rfl⟩
  have hq := (rdNum_le (b := b) (lo := 0) (hi := 7) (s := s) (by omega)).2
  have Hc : Hid (∀ W2, RdW 93 rb bv b W2 → Calls Try.prog 73 #[.pointer (some ⟨rb, 0, none⟩), .int .i64 0, .int .i64 7] (W2 s) (Rdn W2 (.int .i64 q.1) q.2)) := Lib.hid (fun W2 h2 => by rw [Hq.out]; exact decode_num_int h2 s hs 0 7 (by omega) (by omega))
  rw [← Hq.out] at hq
  obtain ⟨t, Ht⟩ : ∃ t, Hid (t = tyWith (q.1 : Int)) := ⟨_, Lib.hid rfl⟩
  have Ho : Hid (∀ w, Calls Try.prog 76 #[.int .i64 q.1] w (Ret w (.tuple #[t.v, .int .i64 0]))) := Lib.hid (fun w => by rw [Ht.out]; exact shape_Of q.1 (by omega) w)
  have Hr : Hid (rdTy b s = (t, q.2)) := Lib.hid (by rw [Ht.out, Hq.out]; rfl)
  rw [Hr.out]
  clear Hr Ht Hq
  obtain ⟨u, s1⟩ := q
  obtain ⟨tk, tt⟩ := t
  go_enter Try.func75, Try.ntmps75
  go_wp2_with (first
    | (go_at_call 73; ((with_reducible refine (Hc.out _ (h.alloc _)).mono ?_); rintro e w1 ⟨rfl, x0, rfl⟩; (try dsimp only [])))
    | (go_at_call 76; ((with_reducible refine (Ho.out _).mono ?_); rintro e w1 ⟨rfl, hb1⟩; obtain ⟨x1, rfl⟩ := ext_of_grow hb1; clear hb1)))
  (try simp only [Exit.inBlock, Exit.then])
  refine postR_of (by simp only [results, Try.results75]; go_simp <;> rfl) rfl (by (repeat (first | (with_reducible exact Grow.refl _) | assumption | refine Grow.ext ?_ _ | refine Grow.alloc ?_ _ | refine Grow.drew ?_ | refine Grow.setCell ?_ (by first | (simp; done) | (simp; omega)) _ | refine Grow.trans ?_ (by assumption)))) ?_
  rfl
set_option maxRecDepth 100000 in
set_option maxHeartbeats 4000000 in
theorem decode_list_Ty {rb : Nat} {bv : Value} {b : List Nat} {W : RS → World} {pb : Nat} (h : RdW 93 rb bv b W) (hp : Pb pb (.pointer (some ⟨rb, 0, none⟩)) W) (s : RS) (hs : s.at' ≤ b.length) (lo hi : Nat) (hlo : lo ≤ hi) (hhi : hi < 1000) :
    Calls Try.prog 74 #[.pointer (some ⟨rb, 0, none⟩), .int .i64 lo, .int .i64 hi, .func (.func 75) #[] #[.pointer (some ⟨pb, 0, none⟩)]] (W s)
      (RdnL W 65 s (rdL (rdTy b) (rdNum b lo hi s).1 (rdNum b lo hi s).2)) := by
  haveI hltw : ∀ s, LtW rb (W s) := fun s => ⟨h.lt s⟩
  haveI hsz : ∀ s0 s1, EqW (W s1).heap.size (W s0) := fun s0 s1 => h.szW s1 s0
  have Hz : ∀ s1, (W s1).heap.size = (W s).heap.size := fun s1 => h.size s1 s
  have hc2 : ∀ s, (W s).cell? ⟨rb, 2, none⟩ = some (.int .i64 s.e) := fun s => by simp [World.cell?, h.box s]
  have hb : ∀ x ∈ b, x < 256 := by have := (h.sl s).drop_byte 0; rwa [List.drop_zero] at this
  obtain ⟨q0, Hq0⟩ : ∃ q, Hid (q = rdNum b lo hi s) := ⟨_, Lib.hid rfl⟩
  have Hc0 : Hid (Calls Try.prog 73 #[.pointer (some ⟨rb, 0, none⟩), .int .i64 lo, .int .i64 hi] (W s) (Rdn W (.int .i64 q0.1) q0.2)) := Lib.hid (by rw [Hq0.out]; exact decode_num_int h s hs lo hi (by omega) (by omega))
  have hz0 : q0.2.at' ≤ b.length := by rw [Hq0.out]; exact rdNum_at hb hs
  have hq0 : q0.1 ≤ hi := by rw [Hq0.out]; exact (rdNum_le hlo).2
  rw [← Hq0.out]
  clear Hq0
  obtain ⟨n, s0⟩ := q0
  simp only at hz0 hq0
  dsimp only
  go_enter Try.func74, Try.ntmps74
  go_wp2_with fail
  go_step3
  go_wp2_with (first
    | (go_at_call 73; ((with_reducible refine (Hc0.out).mono ?_); rintro e w1 ⟨rfl, x0, rfl⟩; (try dsimp only []))))
  go_step3
  go_wp2_with fail
  go_loopw [9] (fun tv wr => ∃ (xs : List Ty) (s' : RS) (x : Ext), wr = ext (W s') x ∧ s'.at' ≤ b.length ∧ Own (fun _ => False) (W s).heap.size 65 wr tv xs ∧ xs.length ≤ n ∧ Hid (rdL (rdTy b) n s0 = (xs ++ (rdL (rdTy b) (n - xs.length) s').1, (rdL (rdTy b) (n - xs.length) s').2))) (fun tv _ => n - lenV tv)
  case atStart => exact ⟨[], s0, x0, rfl, hz0, Own.nil _ _ _ _, Nat.zero_le _, Lib.hid (by simp)⟩
  case round =>
    obtain ⟨xs, s', x, rfl, hz, hown, hxn, Hr⟩ := hrel
    obtain ⟨a, m, cap, rfl, Hm, hm, hown⟩ := hown.open
    have hmn : m ≤ n := by rw [Hm.out]; exact hxn
    rw [← Hm.out] at Hr
    by_cases hlt : m < n
    · obtain ⟨q1, Hq1⟩ : ∃ q, Hid (q = rdTy b s') := ⟨_, Lib.hid rfl⟩
      have Hc1 : Hid (∀ W2, RdW 93 rb bv b W2 → Pb pb (.pointer (some ⟨rb, 0, none⟩)) W2 → Calls Try.prog 75 #[.pointer (some ⟨pb, 0, none⟩)] (W2 s') (Rdn W2 q1.1.v q1.2)) := Lib.hid (fun W2 h2 hp2 => by rw [Hq1.out]; exact decode_ty h2 hp2 s' hz)
      have hz1 : q1.2.at' ≤ b.length := by rw [Hq1.out]; exact rdTy_at hb hz
      have hwy : q1.1.wf := by rw [Hq1.out]; exact rdTy_wf hb
      have Hr1 : Hid (rdL (rdTy b) (n - m) s' = if q1.2.e ≠ 0 then ([q1.1], q1.2) else (q1.1 :: (rdL (rdTy b) (n - (m + 1)) q1.2).1, (rdL (rdTy b) (n - (m + 1)) q1.2).2)) := Lib.hid (by
        obtain ⟨k, hk⟩ : ∃ k, n - m = k + 1 := ⟨n - m - 1, by omega⟩
        have hk2 : n - (m + 1) = k := by omega
        rw [hk, hk2, rdL, ← Hq1.out])
      have hxl : xs.length < 1000 := by rw [← Hm.out]; omega
      obtain ⟨y, s2⟩ := q1
      simp only at hz1 hwy
      by_cases he : s2.e = 0
      · have Hs : Hid (rdL (rdTy b) n s0 = ((xs ++ [y]) ++ (rdL (rdTy b) (n - (m + 1)) s2).1, (rdL (rdTy b) (n - (m + 1)) s2).2)) := Lib.hid (by rw [Hr.out, Hr1.out, if_neg (by simpa using he)]; simp)
        have he' : (s2.e != 0) = false := by simp [he]
        clear Hr Hr1 Hq1 he
        go_wp2_with (first
          | (go_at_call 75; ((with_reducible refine (Hc1.out _ (h.ext _) (hp.ext _)).mono ?_); rintro e w1 ⟨rfl, x1, rfl⟩; (try dsimp only [])))
          | (at_builtin; go_must (refine wpList_app1 (α := Ty) slTv_Ty rfl rfl rfl (hown.state0 h s2 (Nat.le_of_eq (Hz s'))) (by (repeat (first | (with_reducible exact Grow.refl _) | assumption | refine Grow.ext ?_ _ | refine Grow.alloc ?_ _ | refine Grow.drew ?_ | refine Grow.setCell ?_ (by first | (simp; done) | (simp; omega)) _ | refine Grow.trans ?_ (by assumption)))) (Nat.le_of_eq (Hz s2)) (by simp; have := Hz s2; omega) rfl (y := y) (Gy := fun _ => False) ⟨rfl, hwy⟩ (fun _ h => h.elim) (by (repeat (refine CellsAt.cons (by go_simp) ?_)); exact CellsAt.nil _ _ _) (by simp [Value.oneCell']) (by omega) (by omega) ?_); intro tv' x' hown' hsz' hagr))
        go_roundw
        case rel => exact ⟨xs ++ [y], s2, x', rfl, hz1, hown', by rw [List.length_append]; have := Hm.out; simp only [List.length_cons, List.length_nil]; omega, Lib.hid (by rw [List.length_append, ← Hm.out]; exact Hs.out)⟩
        case measure => obtain ⟨a', m', cap', rfl, Hm', hm', hown'⟩ := hown'.open; have := Hm'.out; rw [List.length_append, ← Hm.out] at this; simp [lenV] at this ⊢; omega
      · have Hs : Hid (rdL (rdTy b) n s0 = (xs ++ [y], s2)) := Lib.hid (by rw [Hr.out, Hr1.out, if_pos (by simpa using he)])
        have he' : (s2.e != 0) = true := by simp [he]
        clear Hr Hr1 Hq1 he
        go_wp2_with (first
          | (go_at_call 75; ((with_reducible refine (Hc1.out _ (h.ext _) (hp.ext _)).mono ?_); rintro e w1 ⟨rfl, x1, rfl⟩; (try dsimp only [])))
          | (at_builtin; go_must (refine wpList_app1 (α := Ty) slTv_Ty rfl rfl rfl (hown.state0 h s2 (Nat.le_of_eq (Hz s'))) (by (repeat (first | (with_reducible exact Grow.refl _) | assumption | refine Grow.ext ?_ _ | refine Grow.alloc ?_ _ | refine Grow.drew ?_ | refine Grow.setCell ?_ (by first | (simp; done) | (simp; omega)) _ | refine Grow.trans ?_ (by assumption)))) (Nat.le_of_eq (Hz s2)) (by simp; have := Hz s2; omega) rfl (y := y) (Gy := fun _ => False) ⟨rfl, hwy⟩ (fun _ h => h.elim) (by (repeat (refine CellsAt.cons (by go_simp) ?_)); exact CellsAt.nil _ _ _) (by simp [Value.oneCell']) (by omega) (by omega) ?_); intro tv' x' hown' hsz' hagr))
        (try rw [Exit.noGoto_ret])
        go_ret
        exact ⟨_, x', rfl, by rw [Hs.out], by rw [Hs.out]; exact hown'⟩
    · have Hs : Hid (rdL (rdTy b) n s0 = (xs, s')) := Lib.hid (by rw [Hr.out, show n - m = 0 from by omega, rdL]; simp)
      clear Hr
      go_wp2_with fail
      (try rw [Exit.noGoto_ret])
      go_ret
      exact ⟨_, x, rfl, by rw [Hs.out], by rw [Hs.out]; exact hown⟩

/-- A function is read. -/
def rdFn (b : List Nat) (s : RS) : Fn × RS :=
  let p := rdNum b 0 8 s
  let u := rdNum b 0 1 p.2
  let l := rdL (rdTy b) (rdNum b 1 16 u.2).1 (rdNum b 1 16 u.2).2
  let k := rdL (rdBk b) (rdNum b 1 24 l.2).1 (rdNum b 1 24 l.2).2
  (⟨p.1, decide (u.1 = 1), l.1, k.1⟩, k.2)
theorem rdFn_at {b : List Nat} {s : RS} (hb : ∀ x ∈ b, x < 256) (hs : s.at' ≤ b.length) : (rdFn b s).2.at' ≤ b.length :=
  rdL_at (fun s hs => rdBk_at hb hs) _ _ (rdNum_at hb (rdL_at (fun s hs => rdTy_at hb hs) _ _ (rdNum_at hb (rdNum_at hb (rdNum_at hb hs)))))
theorem rdFn_wf {b : List Nat} {s : RS} (hb : ∀ x ∈ b, x < 256) : (rdFn b s).1.wf := ⟨rdI64 (by omega) (by omega)⟩
def RdnF (W : RS → World) (s : RS) (q : Fn × RS) (e : Ending) (w' : World) : Prop :=
  ∃ v1 v2 y, e = .returned (q.1.v v1 v2) ∧ w' = ext (W q.2) y ∧ Sl (fun k => (W s).heap.size ≤ k) w' v1 q.1.locals ∧ Sl (fun k => (W s).heap.size ≤ k) w' v2 q.1.blocks
theorem postF_of {P : Program} {fn : Func} {a : Act} {w : World} {W : RS → World} {s : RS} {q : Fn × RS} {v' : Value}
    (hr : (results fn a.tmps).run P w = .ok v' w) (hd : a.defers = []) (g : Grow (W q.2) w) (v1 v2 : Value) (hv : v' = q.1.v v1 v2) (h1 : Sl (fun k => (W s).heap.size ≤ k) w v1 q.1.locals) (h2 : Sl (fun k => (W s).heap.size ≤ k) w v2 q.1.blocks) : bodyPost P fn (RdnF W s q) .ret a w := by
  obtain ⟨y, hy⟩ := ext_of_grow g
  exact bodyPost_ret hr hd ⟨v1, v2, y, by rw [hv], hy, h1, h2⟩
set_option maxRecDepth 100000 in
set_option maxHeartbeats 8000000 in
theorem decode_function {rb : Nat} {bv : Value} {b : List Nat} {W : RS → World} (h : RdW 93 rb bv b W) (s : RS) (hs : s.at' ≤ b.length) :
    Calls Try.prog 46 #[.pointer (some ⟨rb, 0, none⟩)] (W s) (RdnF W s (rdFn b s)) := by
  haveI hltw : ∀ s, LtW rb (W s) := fun s => ⟨h.lt s⟩
  haveI hsz : ∀ s0 s1, EqW (W s1).heap.size (W s0) := fun s0 s1 => h.szW s1 s0
  have Hz : Hid (∀ s1, (W s1).heap.size = (W s).heap.size) := Lib.hid (fun s1 => h.size s1 s)
  have hb : ∀ x ∈ b, x < 256 := by have := (h.sl s).drop_byte 0; rwa [List.drop_zero] at this
  have Hp := Pb.new h s (.pointer (some ⟨rb, 0, none⟩)) 91
  obtain ⟨q0, Hq0⟩ : ∃ q, Hid (q = rdNum b 0 8 s) := ⟨_, Lib.hid rfl⟩
  have Hc0 : Hid (∀ W2, RdW 93 rb bv b W2 → Calls Try.prog 73 #[.pointer (some ⟨rb, 0, none⟩), .int .i64 0, .int .i64 8] (W2 s) (Rdn W2 (.int .i64 q0.1) q0.2)) := Lib.hid (fun W2 h2 => by rw [Hq0.out]; exact decode_num_int h2 s hs 0 8 (by omega) (by omega))
  have hz0 : q0.2.at' ≤ b.length := by rw [Hq0.out]; exact rdNum_at hb hs
  obtain ⟨q1, Hq1⟩ : ∃ q, Hid (q = rdNum b 0 1 q0.2) := ⟨_, Lib.hid rfl⟩
  have Hc1 : Hid (∀ W2, RdW 93 rb bv b W2 → Calls Try.prog 73 #[.pointer (some ⟨rb, 0, none⟩), .int .i64 0, .int .i64 1] (W2 q0.2) (Rdn W2 (.int .i64 q1.1) q1.2)) := Lib.hid (fun W2 h2 => by rw [Hq1.out]; exact decode_num_int h2 q0.2 hz0 0 1 (by omega) (by omega))
  have hz1 : q1.2.at' ≤ b.length := by rw [Hq1.out]; exact rdNum_at hb hz0
  have hu : q1.1 = 0 ∨ q1.1 = 1 := by have := (rdNum_le (b := b) (lo := 0) (hi := 1) (s := q0.2) (by omega)).2; rw [← Hq1.out] at this; omega
  obtain ⟨q2, Hq2⟩ : ∃ q, Hid (q = rdL (rdTy b) (rdNum b 1 16 q1.2).1 (rdNum b 1 16 q1.2).2) := ⟨_, Lib.hid rfl⟩
  have Hc2 : Hid (∀ W2, RdW 93 rb bv b W2 → Pb (W s).heap.size (.pointer (some ⟨rb, 0, none⟩)) W2 → Calls Try.prog 74 #[.pointer (some ⟨rb, 0, none⟩), .int .i64 1, .int .i64 16, .func (.func 75) #[] #[.pointer (some ⟨(W s).heap.size, 0, none⟩)]] (W2 q1.2) (RdnL W2 65 q1.2 q2)) := Lib.hid (fun W2 h2 hp2 => by rw [Hq2.out]; exact decode_list_Ty h2 hp2 q1.2 hz1 1 16 (by omega) (by omega))
  have hz2 : q2.2.at' ≤ b.length := by rw [Hq2.out]; exact rdL_at (fun s hs => rdTy_at hb hs) _ _ (rdNum_at hb hz1)
  obtain ⟨q3, Hq3⟩ : ∃ q, Hid (q = rdL (rdBk b) (rdNum b 1 24 q2.2).1 (rdNum b 1 24 q2.2).2) := ⟨_, Lib.hid rfl⟩
  have Hc3 : Hid (∀ W2, RdW 93 rb bv b W2 → Calls Try.prog 77 #[.pointer (some ⟨rb, 0, none⟩), .int .i64 1, .int .i64 24, .func (.func 78) #[.pointer (some ⟨rb, 0, none⟩)] #[]] (W2 q2.2) (RdnL W2 57 q2.2 q3)) := Lib.hid (fun W2 h2 => by rw [Hq3.out]; exact decode_list_Bk h2 q2.2 hz2 1 24 (by omega) (by omega))
  have Hr : Hid (rdFn b s = (⟨q0.1, decide (q1.1 = 1), q2.1, q3.1⟩, q3.2)) := Lib.hid (by unfold rdFn; simp only [← Hq0.out]; simp only [← Hq1.out]; simp only [← Hq2.out]; simp only [← Hq3.out])
  rw [Hr.out]
  clear Hr hb hz0 hz1 hz2 Hq3 Hq2 Hq1 Hq0
  obtain ⟨u0, s0⟩ := q0
  obtain ⟨u1, s1⟩ := q1
  obtain ⟨l2, s2⟩ := q2
  obtain ⟨l3, s3⟩ := q3
  simp only at hu
  rcases hu with rfl | rfl
  all_goals
    go_enter Try.func46, Try.ntmps46
    go_wp2_with (first
      | (go_at_call 73; ((with_reducible refine (Hc0.out _ ((h.alloc _).alloc _)).mono ?_); rintro e w1 ⟨rfl, x0, rfl⟩; (try dsimp only [])))
      | (go_at_call 73; ((with_reducible refine (Hc1.out _ ((((h.alloc _).alloc _).ext _).alloc _)).mono ?_); rintro e w1 ⟨rfl, x1, rfl⟩; (try dsimp only [])))
      | (go_at_call 74; ((with_reducible refine (Hc2.out _ (((((h.alloc _).alloc _).ext _).alloc _).ext _) ((((Hp.alloc _).ext _).alloc _).ext _)).mono ?_); rintro e w1 ⟨_, x2, rfl, rfl, ho⟩; (try dsimp only []); (try dsimp only [] at ho); obtain ⟨va, vn, vc, rfl, Hvn, hvn, ho⟩ := ho.open))
      | (go_at_call 77; ((with_reducible refine (Hc3.out _ ((((((h.alloc _).alloc _).ext _).alloc _).ext _).ext _)).mono ?_); rintro e w1 ⟨_, x3, rfl, rfl, hj⟩; (try dsimp only []); (try dsimp only [] at hj); obtain ⟨ja, jn, jc, rfl, Hjn, hjn, hj⟩ := hj.open)))
    (try simp only [Exit.inBlock, Exit.then])
    refine postF_of (by simp only [results, Try.results46]; go_simp <;> rfl) rfl (by (repeat (first | (with_reducible exact Grow.refl _) | assumption | refine Grow.ext ?_ _ | refine Grow.alloc ?_ _ | refine Grow.drew ?_ | refine Grow.setCell ?_ (by first | (simp; done) | (simp; omega)) _ | refine Grow.trans ?_ (by assumption)))) (.slice va vn vc) (.slice ja jn jc) rfl ?_ ?_
    · refine Sl.mono ?_ (grow_ext _ x3)
      exact (Own.shift (by simp only [size_ext, alloc_size, Hz.out]) ho (Nat.le_of_eq (by simp only [size_ext, alloc_size, Hz.out]))).sl.wide (fun k _ hk => by rcases hk with hk | hk; exact hk.elim; simp only [size_ext, alloc_size, Hz.out] at hk; omega)
    · exact (Own.shift (by simp only [size_ext, alloc_size, Hz.out]) hj (Nat.le_of_eq (by simp only [size_ext, alloc_size, Hz.out]))).sl.wide (fun k _ hk => by rcases hk with hk | hk; exact hk.elim; simp only [size_ext, alloc_size, Hz.out] at hk; omega)
set_option maxRecDepth 100000 in
set_option maxHeartbeats 4000000 in
theorem decode_list_Fn {rb : Nat} {bv : Value} {b : List Nat} {W : RS → World} (h : RdW 93 rb bv b W) (s : RS) (hs : s.at' ≤ b.length) (lo hi : Nat) (hlo : lo ≤ hi) (hhi : hi < 1000) :
    Calls Try.prog 47 #[.pointer (some ⟨rb, 0, none⟩), .int .i64 lo, .int .i64 hi, .func (.func 46) #[.pointer (some ⟨rb, 0, none⟩)] #[]] (W s)
      (RdnL W 25 s (rdL (rdFn b) (rdNum b lo hi s).1 (rdNum b lo hi s).2)) := by
  haveI hltw : ∀ s, LtW rb (W s) := fun s => ⟨h.lt s⟩
  haveI hsz : ∀ s0 s1, EqW (W s1).heap.size (W s0) := fun s0 s1 => h.szW s1 s0
  have Hz : ∀ s1, (W s1).heap.size = (W s).heap.size := fun s1 => h.size s1 s
  have hc2 : ∀ s, (W s).cell? ⟨rb, 2, none⟩ = some (.int .i64 s.e) := fun s => by simp [World.cell?, h.box s]
  have hb : ∀ x ∈ b, x < 256 := by have := (h.sl s).drop_byte 0; rwa [List.drop_zero] at this
  obtain ⟨q0, Hq0⟩ : ∃ q, Hid (q = rdNum b lo hi s) := ⟨_, Lib.hid rfl⟩
  have Hc0 : Hid (Calls Try.prog 73 #[.pointer (some ⟨rb, 0, none⟩), .int .i64 lo, .int .i64 hi] (W s) (Rdn W (.int .i64 q0.1) q0.2)) := Lib.hid (by rw [Hq0.out]; exact decode_num_int h s hs lo hi (by omega) (by omega))
  have hz0 : q0.2.at' ≤ b.length := by rw [Hq0.out]; exact rdNum_at hb hs
  have hq0 : q0.1 ≤ hi := by rw [Hq0.out]; exact (rdNum_le hlo).2
  rw [← Hq0.out]
  clear Hq0
  obtain ⟨n, s0⟩ := q0
  simp only at hz0 hq0
  dsimp only
  go_enter Try.func47, Try.ntmps47
  go_wp2_with fail
  go_step3
  go_wp2_with (first
    | (go_at_call 73; ((with_reducible refine (Hc0.out).mono ?_); rintro e w1 ⟨rfl, x0, rfl⟩; (try dsimp only []))))
  go_step3
  go_wp2_with fail
  go_loopw [9] (fun tv wr => ∃ (xs : List Fn) (s' : RS) (x : Ext), wr = ext (W s') x ∧ s'.at' ≤ b.length ∧ Own (fun _ => False) (W s).heap.size 25 wr tv xs ∧ xs.length ≤ n ∧ Hid (rdL (rdFn b) n s0 = (xs ++ (rdL (rdFn b) (n - xs.length) s').1, (rdL (rdFn b) (n - xs.length) s').2))) (fun tv _ => n - lenV tv)
  case atStart => exact ⟨[], s0, x0, rfl, hz0, Own.nil _ _ _ _, Nat.zero_le _, Lib.hid (by simp)⟩
  case round =>
    obtain ⟨xs, s', x, rfl, hz, hown, hxn, Hr⟩ := hrel
    obtain ⟨a, m, cap, rfl, Hm, hm, hown⟩ := hown.open
    have hmn : m ≤ n := by rw [Hm.out]; exact hxn
    rw [← Hm.out] at Hr
    by_cases hlt : m < n
    · obtain ⟨q1, Hq1⟩ : ∃ q, Hid (q = rdFn b s') := ⟨_, Lib.hid rfl⟩
      have Hc1 : Hid (∀ W2, RdW 93 rb bv b W2 → Calls Try.prog 46 #[.pointer (some ⟨rb, 0, none⟩)] (W2 s') (RdnF W2 s' q1)) := Lib.hid (fun W2 h2 => by rw [Hq1.out]; exact decode_function h2 s' hz)
      have hz1 : q1.2.at' ≤ b.length := by rw [Hq1.out]; exact rdFn_at hb hz
      have hwy : q1.1.wf := by rw [Hq1.out]; exact rdFn_wf hb
      have Hr1 : Hid (rdL (rdFn b) (n - m) s' = if q1.2.e ≠ 0 then ([q1.1], q1.2) else (q1.1 :: (rdL (rdFn b) (n - (m + 1)) q1.2).1, (rdL (rdFn b) (n - (m + 1)) q1.2).2)) := Lib.hid (by
        obtain ⟨k, hk⟩ : ∃ k, n - m = k + 1 := ⟨n - m - 1, by omega⟩
        have hk2 : n - (m + 1) = k := by omega
        rw [hk, hk2, rdL, ← Hq1.out])
      have hxl : xs.length < 1000 := by rw [← Hm.out]; omega
      obtain ⟨y, s2⟩ := q1
      simp only at hz1 hwy
      by_cases he : s2.e = 0
      · have Hs : Hid (rdL (rdFn b) n s0 = ((xs ++ [y]) ++ (rdL (rdFn b) (n - (m + 1)) s2).1, (rdL (rdFn b) (n - (m + 1)) s2).2)) := Lib.hid (by rw [Hr.out, Hr1.out, if_neg (by simpa using he)]; simp)
        have he' : (s2.e != 0) = false := by simp [he]
        clear Hr Hr1 Hq1 he
        go_wp2_with (first
          | (go_at_call 46; ((with_reducible refine (Hc1.out _ (h.ext _)).mono ?_); rintro e w1 ⟨_, _, x1, rfl, rfl, h1, h2⟩; (try dsimp only []); (try dsimp only [] at h1 h2); obtain ⟨sa, sn, sc, rfl, _, _, _, _, h1⟩ := h1.open; obtain ⟨ja, jn, jc, rfl, _, _, _, _, h2⟩ := h2.open))
          | (at_builtin; go_must (refine wpList_app1 (α := Fn) slTv_Fn rfl rfl rfl (hown.state0 h s2 (Nat.le_of_eq (Hz s'))) (by (repeat (first | (with_reducible exact Grow.refl _) | assumption | refine Grow.ext ?_ _ | refine Grow.alloc ?_ _ | refine Grow.drew ?_ | refine Grow.setCell ?_ (by first | (simp; done) | (simp; omega)) _ | refine Grow.trans ?_ (by assumption)))) (Nat.le_of_eq (Hz s2)) (by simp; have := Hz s2; omega) rfl (y := y) (Gy := fun k => (W s').heap.size + x.k ≤ k ∧ k < (W s').heap.size + x.k + x1.k) ⟨sa, sn, sc, ja, jn, jc, rfl, hwy, (h1.wide (fun k hk hF => ⟨by simp only [size_ext] at hF; exact hF, by have := Hz s2; have := Hz s'; simp only [size_ext] at hk; omega⟩)).mono (by (repeat (first | (with_reducible exact Grow.refl _) | assumption | refine Grow.ext ?_ _ | refine Grow.alloc ?_ _ | refine Grow.drew ?_ | refine Grow.setCell ?_ (by first | (simp; done) | (simp; omega)) _ | refine Grow.trans ?_ (by assumption)))), (h2.wide (fun k hk hF => ⟨by simp only [size_ext] at hF; exact hF, by have := Hz s2; have := Hz s'; simp only [size_ext] at hk; omega⟩)).mono (by (repeat (first | (with_reducible exact Grow.refl _) | assumption | refine Grow.ext ?_ _ | refine Grow.alloc ?_ _ | refine Grow.drew ?_ | refine Grow.setCell ?_ (by first | (simp; done) | (simp; omega)) _ | refine Grow.trans ?_ (by assumption))))⟩ (fun k hk => ⟨by have := Hz s2; have := Hz s'; simp only [size_ext, alloc_size]; omega, Or.inr (by have := Hz s'; omega), fun e => by have := hown.row_lt k e; simp only [size_ext] at this; omega⟩) (by (repeat (refine CellsAt.cons (by go_simp) ?_)); exact CellsAt.nil _ _ _) (by simp [Value.oneCell']) (by omega) (by omega) ?_); intro tv' x' hown' hsz' hagr))
        go_roundw
        case rel => exact ⟨xs ++ [y], s2, x', rfl, hz1, hown', by rw [List.length_append]; have := Hm.out; simp only [List.length_cons, List.length_nil]; omega, Lib.hid (by rw [List.length_append, ← Hm.out]; exact Hs.out)⟩
        case measure => obtain ⟨a', m', cap', rfl, Hm', hm', hown'⟩ := hown'.open; have := Hm'.out; rw [List.length_append, ← Hm.out] at this; simp [lenV] at this ⊢; omega
      · have Hs : Hid (rdL (rdFn b) n s0 = (xs ++ [y], s2)) := Lib.hid (by rw [Hr.out, Hr1.out, if_pos (by simpa using he)])
        have he' : (s2.e != 0) = true := by simp [he]
        clear Hr Hr1 Hq1 he
        go_wp2_with (first
          | (go_at_call 46; ((with_reducible refine (Hc1.out _ (h.ext _)).mono ?_); rintro e w1 ⟨_, _, x1, rfl, rfl, h1, h2⟩; (try dsimp only []); (try dsimp only [] at h1 h2); obtain ⟨sa, sn, sc, rfl, _, _, _, _, h1⟩ := h1.open; obtain ⟨ja, jn, jc, rfl, _, _, _, _, h2⟩ := h2.open))
          | (at_builtin; go_must (refine wpList_app1 (α := Fn) slTv_Fn rfl rfl rfl (hown.state0 h s2 (Nat.le_of_eq (Hz s'))) (by (repeat (first | (with_reducible exact Grow.refl _) | assumption | refine Grow.ext ?_ _ | refine Grow.alloc ?_ _ | refine Grow.drew ?_ | refine Grow.setCell ?_ (by first | (simp; done) | (simp; omega)) _ | refine Grow.trans ?_ (by assumption)))) (Nat.le_of_eq (Hz s2)) (by simp; have := Hz s2; omega) rfl (y := y) (Gy := fun k => (W s').heap.size + x.k ≤ k ∧ k < (W s').heap.size + x.k + x1.k) ⟨sa, sn, sc, ja, jn, jc, rfl, hwy, (h1.wide (fun k hk hF => ⟨by simp only [size_ext] at hF; exact hF, by have := Hz s2; have := Hz s'; simp only [size_ext] at hk; omega⟩)).mono (by (repeat (first | (with_reducible exact Grow.refl _) | assumption | refine Grow.ext ?_ _ | refine Grow.alloc ?_ _ | refine Grow.drew ?_ | refine Grow.setCell ?_ (by first | (simp; done) | (simp; omega)) _ | refine Grow.trans ?_ (by assumption)))), (h2.wide (fun k hk hF => ⟨by simp only [size_ext] at hF; exact hF, by have := Hz s2; have := Hz s'; simp only [size_ext] at hk; omega⟩)).mono (by (repeat (first | (with_reducible exact Grow.refl _) | assumption | refine Grow.ext ?_ _ | refine Grow.alloc ?_ _ | refine Grow.drew ?_ | refine Grow.setCell ?_ (by first | (simp; done) | (simp; omega)) _ | refine Grow.trans ?_ (by assumption))))⟩ (fun k hk => ⟨by have := Hz s2; have := Hz s'; simp only [size_ext, alloc_size]; omega, Or.inr (by have := Hz s'; omega), fun e => by have := hown.row_lt k e; simp only [size_ext] at this; omega⟩) (by (repeat (refine CellsAt.cons (by go_simp) ?_)); exact CellsAt.nil _ _ _) (by simp [Value.oneCell']) (by omega) (by omega) ?_); intro tv' x' hown' hsz' hagr))
        (try rw [Exit.noGoto_ret])
        go_ret
        exact ⟨_, x', rfl, by rw [Hs.out], by rw [Hs.out]; exact hown'⟩
    · have Hs : Hid (rdL (rdFn b) n s0 = (xs, s')) := Lib.hid (by rw [Hr.out, show n - m = 0 from by omega, rdL]; simp)
      clear Hr
      go_wp2_with fail
      (try rw [Exit.noGoto_ret])
      go_ret
      exact ⟨_, x, rfl, by rw [Hs.out], by rw [Hs.out]; exact hown⟩
end Go.Proofs.Ytafcdabiplcjiaa
