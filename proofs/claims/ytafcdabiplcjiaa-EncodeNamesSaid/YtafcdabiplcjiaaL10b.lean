/- Layers 1 and 10: signed numbers are read; the reader's box. Layer 10: the reader's methods: numbers, places, operands. Layer 10: the reader's rvalues and statements. Printed by gen10d.py. -/
import Derived.Test.YtafcdabiplcjiaaL10a
import Derived.Test.YtafcdabiplcjiaaL07
import Derived.Test.YtafcdabiplcjiaaL13
import Derived.Deep.DeepMust
namespace Go.Proofs.Ytafcdabiplcjiaa
open Go.RowKit
set_option linter.unusedSimpArgs false
set_option linter.unusedVariables false

def foldB (n : Nat) : Int := if n % 2 = 0 then ((n / 2 : Nat) : Int) else -((n / 2 : Nat) : Int) - 1
theorem foldB_foldS (n : Int) : foldB (foldS n) = n := by
  unfold foldB foldS; (repeat' split) <;> omega
theorem foldS_foldB (n : Nat) : foldS (foldB n) = n := by
  unfold foldB foldS; (repeat' split) <;> omega
theorem vgetL_zero : ∀ (l : List Nat) (i acc : Nat), (vgetL i acc l).2.2 ≠ 0 → (vgetL i acc l).1 = 0 := by
  intro l
  induction l with
  | nil => intro i acc _; simp [vgetL]
  | cons c r ih =>
    intro i acc h
    rw [vgetL] at h ⊢
    split
    · rfl
    · rename_i h1
      rw [if_neg h1] at h
      split
      · rename_i h2; rw [if_pos h2] at h; simp at h
      · rename_i h2; rw [if_neg h2] at h; exact ih _ _ h
theorem vget_lt {l : List Nat} (hb : ∀ x ∈ l, x < 256) : (vget l).1 < 18446744073709551616 := by
  by_cases h : (vget l).2.2 = 0
  · exact (vget_back hb (n := (vget l).1) (k := (vget l).2.1) (by rw [← h])).2.1
  · have := vgetL_zero l 0 0 h
    unfold vget; omega
theorem i64_xor0 (m : Nat) (hm : m < 9223372036854775808) : bits .xor .i64 (m : Int) 0 = (m : Int) := by
  show IntKind.i64.wrap ((BitVec.ofInt 64 (m : Int) ^^^ BitVec.ofInt 64 0).toNat : Int) = _
  have h1 : (BitVec.ofInt 64 (0 : Int)).toNat = 0 := by decide
  have h2 : (BitVec.ofInt 64 (m : Int)).toNat = m := by
    rw [BitVec.ofInt_natCast, BitVec.toNat_ofNat]; exact Nat.mod_eq_of_lt (by omega)
  rw [BitVec.toNat_xor, h1, h2, Nat.xor_zero, IntKind.wrap_i64]; omega
theorem i64_xor1 (m : Nat) (hm : m < 9223372036854775808) : bits .xor .i64 (m : Int) (-1) = -(m : Int) - 1 := by
  rw [← Lib.i64_not m hm]
  show IntKind.i64.wrap ((BitVec.ofInt 64 (m : Int) ^^^ BitVec.ofInt 64 (-1)).toNat : Int) = IntKind.i64.wrap ((BitVec.ofInt 64 (-1) ^^^ BitVec.ofInt 64 (m : Int)).toNat : Int)
  rw [BitVec.xor_comm]
theorem Sl.drop_byte {F : Nat → Prop} {w : World} {v : Value} {b : List Nat} (hs : Sl F w v b) (k : Nat) : ∀ x ∈ b.drop k, x < 256 := by
  intro x hx
  have hx := List.mem_of_mem_drop hx
  obtain ⟨a, cap, rfl, h1, h2, h3, h⟩ := hs
  obtain ⟨i, hi, rfl⟩ := List.getElem_of_mem hx
  obtain ⟨b, off, ha, hF, hlt, cs, ⟨_, hw⟩, hc⟩ := h i hi
  exact hw
set_option maxHeartbeats 2000000 in
theorem number_GetSigned (v : Value) (b : List Nat) (at' : Nat) (w : World) {F : Nat → Prop} (hs : Sl F w v b) (hat : at' ≤ b.length) :
    Calls Try.prog 136 #[v, .int .i64 at'] w (Ret w (.tuple #[.int .i64 (foldB (vget (b.drop at')).1), .int .i64 (getNext at' (vget (b.drop at'))), .int .i64 (vget (b.drop at')).2.2])) := by
  obtain ⟨a, n, cap, rfl, Hn, hm, hcap, hcm, hs⟩ := hs.open
  have hlt := vget_lt (hs.drop_byte at')
  obtain ⟨u, hu⟩ : ∃ u, (vget (b.drop at')).1 = u := ⟨_, rfl⟩
  obtain ⟨nx, hnx⟩ : ∃ nx, getNext at' (vget (b.drop at')) = nx := ⟨_, rfl⟩
  obtain ⟨er, her⟩ : ∃ er, (vget (b.drop at')).2.2 = er := ⟨_, rfl⟩
  have Hc : Hid (∀ w' (q : Sl F w' (.slice a n cap) b), Calls Try.prog 107 #[.slice a n cap, .int .i64 at'] w' (Ret w' (.tuple #[.int .u64 u, .int .i64 nx, .int .i64 er]))) := Lib.hid (fun w' q => by have := number_Get _ b at' w' q hat; rw [hu, hnx, her] at this; exact this)
  rw [hu, hnx, her]
  rw [hu] at hlt
  clear hu hnx her
  have hand := Lib.u64_and1 (u : Int) (by omega) (by omega)
  obtain ⟨m, hm2⟩ : ∃ m, u = 2 * m ∨ u = 2 * m + 1 := ⟨u / 2, by omega⟩
  rcases hm2 with rfl | rfl
  · have hf : foldB (2 * m) = m := by unfold foldB; rw [if_pos (by omega)]; omega
    have h1 : ((2 * m : Nat) : Int) / 2 = m := by omega
    have h2 : bits .and .u64 ((2 * m : Nat) : Int) 1 = 0 := by rw [hand]; omega
    have h2' : bits .and .u64 (2 * (m : Int)) 1 = 0 := by have := h2; push_cast at this; exact this
    have h3 := i64_xor0 m (by omega)
    rw [hf]
    clear hand
    go_enter Try.func136, Try.ntmps136
    go_wp2_with (first | (go_at_call 107; ((with_reducible refine (Hc.out _ (hs.mono (by (repeat (first | (with_reducible exact Grow.refl _) | assumption | refine Grow.ext ?_ _ | refine Grow.alloc ?_ _ | refine Grow.drew ?_ | refine Grow.setCell ?_ (by first | (simp; done) | (simp; omega)) _ | refine Grow.trans ?_ (by assumption)))))).mono ?_); rintro e w1 ⟨rfl, hb1⟩; obtain ⟨x1, rfl⟩ := ext_of_grow hb1; clear hb1)))
    go_ret3
    exact ⟨rfl, (by (repeat (first | (with_reducible exact Grow.refl _) | assumption | refine Grow.ext ?_ _ | refine Grow.alloc ?_ _ | refine Grow.drew ?_ | refine Grow.setCell ?_ (by first | (simp; done) | (simp; omega)) _ | refine Grow.trans ?_ (by assumption))))⟩
  · have hf : foldB (2 * m + 1) = -(m : Int) - 1 := by unfold foldB; rw [if_neg (by omega)]; omega
    have h1 : ((2 * m + 1 : Nat) : Int) / 2 = m := by omega
    have h1' : (2 * (m : Int) + 1) / 2 = m := by omega
    have h2 : bits .and .u64 ((2 * m + 1 : Nat) : Int) 1 = 1 := by rw [hand]; omega
    have h2' : bits .and .u64 (2 * (m : Int) + 1) 1 = 1 := by have := h2; push_cast at this; exact this
    have h3 := i64_xor1 m (by omega)
    rw [hf]
    clear hand
    go_enter Try.func136, Try.ntmps136
    go_wp2_with (first | (go_at_call 107; ((with_reducible refine (Hc.out _ (hs.mono (by (repeat (first | (with_reducible exact Grow.refl _) | assumption | refine Grow.ext ?_ _ | refine Grow.alloc ?_ _ | refine Grow.drew ?_ | refine Grow.setCell ?_ (by first | (simp; done) | (simp; omega)) _ | refine Grow.trans ?_ (by assumption)))))).mono ?_); rintro e w1 ⟨rfl, hb1⟩; obtain ⟨x1, rfl⟩ := ext_of_grow hb1; clear hb1)))
    go_ret3
    exact ⟨rfl, (by (repeat (first | (with_reducible exact Grow.refl _) | assumption | refine Grow.ext ?_ _ | refine Grow.alloc ?_ _ | refine Grow.drew ?_ | refine Grow.setCell ?_ (by first | (simp; done) | (simp; omega)) _ | refine Grow.trans ?_ (by assumption))))⟩
/-- The reader's state. -/
structure RS where
  at' : Nat
  e : Int
/-- The reader in box rb reads b; W s: the world in the state s. -/
structure RdW (T : TypeId) (rb : Nat) (bv : Value) (b : List Nat) (W : RS → World) : Prop where
  size : ∀ s s', (W s).heap.size = (W s').heap.size
  lt : ∀ s, rb < (W s).heap.size
  box : ∀ s, (W s).heap[rb]? = some (.cells #[bv, .int .i64 s.at', .int .i64 s.e] T (0, 0))
  setAt : ∀ s (k : Nat), (W s).setCell ⟨rb, 1, none⟩ (.int .i64 k) = W ⟨k, s.e⟩
  setE : ∀ s e, (W s).setCell ⟨rb, 2, none⟩ (.int .i64 e) = W ⟨s.at', e⟩
  sl : ∀ s, Sl (fun k => k ≠ rb) (W s) bv b
theorem RdW.ext {T : TypeId} {rb : Nat} {bv : Value} {b : List Nat} {W : RS → World} (h : RdW T rb bv b W) (x0 : Ext) : RdW T rb bv b (fun s => Go.Proofs.Ytafcdabiplcjiaa.ext (W s) x0) where
  size s s' := by simp only [size_ext]; rw [h.size s s']
  lt s := by simp only [size_ext]; have := h.lt s; omega
  box s := by rw [(grow_ext (W s) x0).block rb (h.lt s)]; exact h.box s
  setAt s k := by have : LtW rb (W s) := ⟨h.lt s⟩; rw [ext_setCell, h.setAt]
  setE s e := by have : LtW rb (W s) := ⟨h.lt s⟩; rw [ext_setCell, h.setE]
  sl s := (h.sl s).mono (grow_ext _ _)
theorem RdW.alloc {T : TypeId} {rb : Nat} {bv : Value} {b : List Nat} {W : RS → World} (h : RdW T rb bv b W) (o : Obj) : RdW T rb bv b (fun s => (W s).alloc o) where
  size s s' := by simp only [alloc_size]; rw [h.size s s']
  lt s := by simp only [alloc_size]; have := h.lt s; omega
  box s := by rw [(Grow.alloc (Grow.refl (W s)) o).block rb (h.lt s)]; exact h.box s
  setAt s k := by have : LtW rb (W s) := ⟨h.lt s⟩; rw [alloc_setCell, h.setAt]
  setE s e := by have : LtW rb (W s) := ⟨h.lt s⟩; rw [alloc_setCell, h.setE]
  sl s := (h.sl s).mono (Grow.alloc (Grow.refl _) o)
def rdNum (b : List Nat) (lo hi : Nat) (s : RS) : Nat × RS :=
  if s.e ≠ 0 then (lo, s) else if (vget (b.drop s.at')).2.2 ≠ 0 then (lo, ⟨s.at', (vget (b.drop s.at')).2.2⟩)
  else if (vget (b.drop s.at')).1 < lo ∨ hi < (vget (b.drop s.at')).1 then (lo, ⟨s.at', 16⟩) else ((vget (b.drop s.at')).1, ⟨s.at' + (vget (b.drop s.at')).2.1, 0⟩)
/-- What a method of the reader leaves. -/
def Rdn (W : RS → World) (v : Value) (s : RS) (e : Ending) (w' : World) : Prop := e = .returned v ∧ ∃ y, w' = ext (W s) y
set_option maxRecDepth 100000 in
set_option maxHeartbeats 4000000 in
theorem decode_num_int {rb : Nat} {bv : Value} {b : List Nat} {W : RS → World} (h : RdW 93 rb bv b W) (s : RS) (hs : s.at' ≤ b.length) (lo hi : Nat) (hlo : lo < 1000) (hhi : hi < 1000) :
    Calls Try.prog 73 #[.pointer (some ⟨rb, 0, none⟩), .int .i64 lo, .int .i64 hi] (W s) (Rdn W (.int .i64 (rdNum b lo hi s).1) (rdNum b lo hi s).2) := by
  obtain ⟨a, n, cap, rfl, Hn, hm, hcap, hcm, hsl⟩ := (h.sl s).open
  obtain ⟨at', e⟩ := s
  simp only at hs
  haveI hltw : ∀ s, LtW rb (W s) := fun s => ⟨h.lt s⟩
  have hc0 : ∀ s, (W s).cell? ⟨rb, 0, none⟩ = some (.slice a n cap) := fun s => by simp [World.cell?, h.box s]
  have hc1 : ∀ s, (W s).cell? ⟨rb, 1, none⟩ = some (.int .i64 s.at') := fun s => by simp [World.cell?, h.box s]
  have hc2 : ∀ s, (W s).cell? ⟨rb, 2, none⟩ = some (.int .i64 s.e) := fun s => by simp [World.cell?, h.box s]
  have hf1 : ∀ s, (W s).frozen? ⟨rb, 1, none⟩ = false := fun s => by simp [World.frozen?, h.box s]
  have hf2 : ∀ s, (W s).frozen? ⟨rb, 2, none⟩ = false := fun s => by simp [World.frozen?, h.box s]
  have hsA := h.setAt
  have hsE := h.setE
  by_cases he : e = 0
  · subst he
    have hlt := vget_lt (hsl.drop_byte at')
    obtain ⟨u, hu⟩ : ∃ u, (vget (b.drop at')).1 = u := ⟨_, rfl⟩
    obtain ⟨nx, hnx⟩ : ∃ nx, getNext at' (vget (b.drop at')) = nx := ⟨_, rfl⟩
    obtain ⟨er, her⟩ : ∃ er, (vget (b.drop at')).2.2 = er := ⟨_, rfl⟩
    have Hc : Hid (∀ w' (q : Sl (fun k => k ≠ rb) w' (.slice a n cap) b), Calls Try.prog 107 #[.slice a n cap, .int .i64 at'] w' (Ret w' (.tuple #[.int .u64 u, .int .i64 nx, .int .i64 er]))) := Lib.hid (fun w' q => by have := number_Get _ b at' w' q hs; rw [hu, hnx, her] at this; exact this)
    by_cases her0 : er = 0
    · subst her0
      obtain ⟨nk, hnk⟩ : ∃ nk : Nat, nx = nk ∧ nk = at' + (vget (b.drop at')).2.1 := ⟨_, by rw [← hnx]; unfold getNext; rw [if_pos her], rfl⟩
      obtain ⟨rfl, hnk⟩ := hnk
      by_cases hrg : u < lo ∨ hi < u
      · have Hr : Hid (rdNum b lo hi ⟨at', 0⟩ = (lo, ⟨at', 16⟩)) := Lib.hid (by unfold rdNum; rw [if_neg (by simp), if_neg (by simp only; rw [her]; simp), if_pos (by simp only; rw [hu]; exact hrg)])
        rw [hu] at hlt
        clear hu hnx her hnk
        rw [Hr.out]
        rcases hrg with hrg | hrg
        all_goals
          go_enter Try.func73, Try.ntmps73
          go_wp2_with fail
          (refine wp_region_ext (by kernel_rfl) (by kernel_rfl) ?_; (repeat (any_goals (first | go_big_quiet_step (first | (go_at_call 107; refine ext_call (Hc.out _ (hsl.mono (by (repeat (first | (with_reducible exact Grow.refl _) | assumption | refine Grow.ext ?_ _ | refine Grow.alloc ?_ _ | refine Grow.drew ?_ | refine Grow.setCell ?_ (by first | (simp; done) | (simp; omega)) _ | refine Grow.trans ?_ (by assumption)))))))) | (refine wpQuiet_step (fun K hK => ?_); go_simp; split <;> (refine hK _ ?_; clear hK K))))); all_goals (refine wpQuiet_nil ?_; intro w3 hb3; obtain ⟨x3, rfl⟩ := ext_of_grow hb3; clear hb3))
          go_wp2_with fail
          all_goals (go_ret; exact ⟨rfl, _, rfl⟩)
      · have Hr : Hid (rdNum b lo hi ⟨at', 0⟩ = (u, ⟨nk, 0⟩)) := Lib.hid (by unfold rdNum; rw [if_neg (by simp), if_neg (by simp only; rw [her]; simp), if_neg (by simp only; rw [hu]; exact hrg)]; simp only; rw [hu, hnk])
        have hr1 : ¬ u < lo := by omega
        have hr2 : ¬ hi < u := by omega
        rw [hu] at hlt
        clear hu hnx her hnk hrg
        rw [Hr.out]
        go_enter Try.func73, Try.ntmps73
        go_wp2_with fail
        (refine wp_region_ext (by kernel_rfl) (by kernel_rfl) ?_; (repeat (any_goals (first | go_big_quiet_step (first | (go_at_call 107; refine ext_call (Hc.out _ (hsl.mono (by (repeat (first | (with_reducible exact Grow.refl _) | assumption | refine Grow.ext ?_ _ | refine Grow.alloc ?_ _ | refine Grow.drew ?_ | refine Grow.setCell ?_ (by first | (simp; done) | (simp; omega)) _ | refine Grow.trans ?_ (by assumption)))))))) | (refine wpQuiet_step (fun K hK => ?_); go_simp; split <;> (refine hK _ ?_; clear hK K))))); all_goals (refine wpQuiet_nil ?_; intro w3 hb3; obtain ⟨x3, rfl⟩ := ext_of_grow hb3; clear hb3))
        go_wp2_with fail
        go_ret
        exact ⟨rfl, _, rfl⟩
    · have Hr : Hid (rdNum b lo hi ⟨at', 0⟩ = (lo, ⟨at', er⟩)) := Lib.hid (by unfold rdNum; rw [if_neg (by simp), if_pos (by simp only; rw [her]; exact her0)]; simp only; rw [her])
      have her1 : (er == 0) = false := by simp [her0]
      have her2 : (er != 0) = true := by simp [her0]
      rw [hu] at hlt
      clear hu hnx her her0
      rw [Hr.out]
      go_enter Try.func73, Try.ntmps73
      go_wp2_with fail
      (refine wp_region_ext (by kernel_rfl) (by kernel_rfl) ?_; (repeat (any_goals (first | go_big_quiet_step (first | (go_at_call 107; refine ext_call (Hc.out _ (hsl.mono (by (repeat (first | (with_reducible exact Grow.refl _) | assumption | refine Grow.ext ?_ _ | refine Grow.alloc ?_ _ | refine Grow.drew ?_ | refine Grow.setCell ?_ (by first | (simp; done) | (simp; omega)) _ | refine Grow.trans ?_ (by assumption)))))))) | (refine wpQuiet_step (fun K hK => ?_); go_simp; split <;> (refine hK _ ?_; clear hK K))))); all_goals (refine wpQuiet_nil ?_; intro w3 hb3; obtain ⟨x3, rfl⟩ := ext_of_grow hb3; clear hb3))
      go_wp2_with fail
      go_ret
      exact ⟨rfl, _, rfl⟩
  · have Hr : Hid (rdNum b lo hi ⟨at', e⟩ = (lo, ⟨at', e⟩)) := Lib.hid (by unfold rdNum; rw [if_pos he])
    have he1 : (e != 0) = true := by simp [he]
    rw [Hr.out]
    clear he
    go_enter Try.func73, Try.ntmps73
    go_wp2_with fail
    go_ret
    exact ⟨rfl, ⟨(W ⟨at', e⟩).drawn, #[]⟩, (ext_selfw _).symm⟩
set_option maxRecDepth 100000 in
set_option maxHeartbeats 4000000 in
theorem decode_num_u8 {rb : Nat} {bv : Value} {b : List Nat} {W : RS → World} (h : RdW 93 rb bv b W) (s : RS) (hs : s.at' ≤ b.length) (lo hi : Nat) (hlo : lo < 256) (hhi : hi < 256) :
    Calls Try.prog 126 #[.pointer (some ⟨rb, 0, none⟩), .int .u8 lo, .int .u8 hi] (W s) (Rdn W (.int .u8 (rdNum b lo hi s).1) (rdNum b lo hi s).2) := by
  obtain ⟨a, n, cap, rfl, Hn, hm, hcap, hcm, hsl⟩ := (h.sl s).open
  obtain ⟨at', e⟩ := s
  simp only at hs
  haveI hltw : ∀ s, LtW rb (W s) := fun s => ⟨h.lt s⟩
  have hc0 : ∀ s, (W s).cell? ⟨rb, 0, none⟩ = some (.slice a n cap) := fun s => by simp [World.cell?, h.box s]
  have hc1 : ∀ s, (W s).cell? ⟨rb, 1, none⟩ = some (.int .i64 s.at') := fun s => by simp [World.cell?, h.box s]
  have hc2 : ∀ s, (W s).cell? ⟨rb, 2, none⟩ = some (.int .i64 s.e) := fun s => by simp [World.cell?, h.box s]
  have hf1 : ∀ s, (W s).frozen? ⟨rb, 1, none⟩ = false := fun s => by simp [World.frozen?, h.box s]
  have hf2 : ∀ s, (W s).frozen? ⟨rb, 2, none⟩ = false := fun s => by simp [World.frozen?, h.box s]
  have hsA := h.setAt
  have hsE := h.setE
  by_cases he : e = 0
  · subst he
    have hlt := vget_lt (hsl.drop_byte at')
    obtain ⟨u, hu⟩ : ∃ u, (vget (b.drop at')).1 = u := ⟨_, rfl⟩
    obtain ⟨nx, hnx⟩ : ∃ nx, getNext at' (vget (b.drop at')) = nx := ⟨_, rfl⟩
    obtain ⟨er, her⟩ : ∃ er, (vget (b.drop at')).2.2 = er := ⟨_, rfl⟩
    have Hc : Hid (∀ w' (q : Sl (fun k => k ≠ rb) w' (.slice a n cap) b), Calls Try.prog 107 #[.slice a n cap, .int .i64 at'] w' (Ret w' (.tuple #[.int .u64 u, .int .i64 nx, .int .i64 er]))) := Lib.hid (fun w' q => by have := number_Get _ b at' w' q hs; rw [hu, hnx, her] at this; exact this)
    by_cases her0 : er = 0
    · subst her0
      obtain ⟨nk, hnk⟩ : ∃ nk : Nat, nx = nk ∧ nk = at' + (vget (b.drop at')).2.1 := ⟨_, by rw [← hnx]; unfold getNext; rw [if_pos her], rfl⟩
      obtain ⟨rfl, hnk⟩ := hnk
      by_cases hrg : u < lo ∨ hi < u
      · have Hr : Hid (rdNum b lo hi ⟨at', 0⟩ = (lo, ⟨at', 16⟩)) := Lib.hid (by unfold rdNum; rw [if_neg (by simp), if_neg (by simp only; rw [her]; simp), if_pos (by simp only; rw [hu]; exact hrg)])
        rw [hu] at hlt
        clear hu hnx her hnk
        rw [Hr.out]
        rcases hrg with hrg | hrg
        all_goals
          go_enter Try.func126, Try.ntmps126
          go_wp2_with fail
          (refine wp_region_ext (by kernel_rfl) (by kernel_rfl) ?_; (repeat (any_goals (first | go_big_quiet_step (first | (go_at_call 107; refine ext_call (Hc.out _ (hsl.mono (by (repeat (first | (with_reducible exact Grow.refl _) | assumption | refine Grow.ext ?_ _ | refine Grow.alloc ?_ _ | refine Grow.drew ?_ | refine Grow.setCell ?_ (by first | (simp; done) | (simp; omega)) _ | refine Grow.trans ?_ (by assumption)))))))) | (refine wpQuiet_step (fun K hK => ?_); go_simp; split <;> (refine hK _ ?_; clear hK K))))); all_goals (refine wpQuiet_nil ?_; intro w3 hb3; obtain ⟨x3, rfl⟩ := ext_of_grow hb3; clear hb3))
          go_wp2_with fail
          all_goals (go_ret; exact ⟨rfl, _, rfl⟩)
      · have Hr : Hid (rdNum b lo hi ⟨at', 0⟩ = (u, ⟨nk, 0⟩)) := Lib.hid (by unfold rdNum; rw [if_neg (by simp), if_neg (by simp only; rw [her]; simp), if_neg (by simp only; rw [hu]; exact hrg)]; simp only; rw [hu, hnk])
        have hr1 : ¬ u < lo := by omega
        have hr2 : ¬ hi < u := by omega
        rw [hu] at hlt
        clear hu hnx her hnk hrg
        rw [Hr.out]
        go_enter Try.func126, Try.ntmps126
        go_wp2_with fail
        (refine wp_region_ext (by kernel_rfl) (by kernel_rfl) ?_; (repeat (any_goals (first | go_big_quiet_step (first | (go_at_call 107; refine ext_call (Hc.out _ (hsl.mono (by (repeat (first | (with_reducible exact Grow.refl _) | assumption | refine Grow.ext ?_ _ | refine Grow.alloc ?_ _ | refine Grow.drew ?_ | refine Grow.setCell ?_ (by first | (simp; done) | (simp; omega)) _ | refine Grow.trans ?_ (by assumption)))))))) | (refine wpQuiet_step (fun K hK => ?_); go_simp; split <;> (refine hK _ ?_; clear hK K))))); all_goals (refine wpQuiet_nil ?_; intro w3 hb3; obtain ⟨x3, rfl⟩ := ext_of_grow hb3; clear hb3))
        go_wp2_with fail
        go_ret
        exact ⟨rfl, _, rfl⟩
    · have Hr : Hid (rdNum b lo hi ⟨at', 0⟩ = (lo, ⟨at', er⟩)) := Lib.hid (by unfold rdNum; rw [if_neg (by simp), if_pos (by simp only; rw [her]; exact her0)]; simp only; rw [her])
      have her1 : (er == 0) = false := by simp [her0]
      have her2 : (er != 0) = true := by simp [her0]
      rw [hu] at hlt
      clear hu hnx her her0
      rw [Hr.out]
      go_enter Try.func126, Try.ntmps126
      go_wp2_with fail
      (refine wp_region_ext (by kernel_rfl) (by kernel_rfl) ?_; (repeat (any_goals (first | go_big_quiet_step (first | (go_at_call 107; refine ext_call (Hc.out _ (hsl.mono (by (repeat (first | (with_reducible exact Grow.refl _) | assumption | refine Grow.ext ?_ _ | refine Grow.alloc ?_ _ | refine Grow.drew ?_ | refine Grow.setCell ?_ (by first | (simp; done) | (simp; omega)) _ | refine Grow.trans ?_ (by assumption)))))))) | (refine wpQuiet_step (fun K hK => ?_); go_simp; split <;> (refine hK _ ?_; clear hK K))))); all_goals (refine wpQuiet_nil ?_; intro w3 hb3; obtain ⟨x3, rfl⟩ := ext_of_grow hb3; clear hb3))
      go_wp2_with fail
      go_ret
      exact ⟨rfl, _, rfl⟩
  · have Hr : Hid (rdNum b lo hi ⟨at', e⟩ = (lo, ⟨at', e⟩)) := Lib.hid (by unfold rdNum; rw [if_pos he])
    have he1 : (e != 0) = true := by simp [he]
    rw [Hr.out]
    clear he
    go_enter Try.func126, Try.ntmps126
    go_wp2_with fail
    go_ret
    exact ⟨rfl, ⟨(W ⟨at', e⟩).drawn, #[]⟩, (ext_selfw _).symm⟩
theorem RdW.szW {T : TypeId} {rb : Nat} {bv : Value} {b : List Nat} {W : RS → World} (h : RdW T rb bv b W) (s s' : RS) : EqW (W s).heap.size (W s') := ⟨h.size s s'⟩
theorem postR_of {P : Program} {fn : Func} {a : Act} {w : World} {W : RS → World} {s : RS} {v v' : Value}
    (hr : (results fn a.tmps).run P w = .ok v' w) (hd : a.defers = []) (g : Grow (W s) w) (hv : v' = v) : bodyPost P fn (Rdn W v s) .ret a w :=
  bodyPost_ret hr hd ⟨by rw [hv], ext_of_grow g⟩
theorem rdNum_le {b : List Nat} {lo hi : Nat} {s : RS} (h : lo ≤ hi) : lo ≤ (rdNum b lo hi s).1 ∧ (rdNum b lo hi s).1 ≤ hi := by
  unfold rdNum; (repeat' split) <;> simp only <;> omega
theorem rdNum_at {b : List Nat} {lo hi : Nat} {s : RS} (hb : ∀ x ∈ b, x < 256) (hs : s.at' ≤ b.length) : (rdNum b lo hi s).2.at' ≤ b.length := by
  unfold rdNum
  split
  · exact hs
  · split
    · exact hs
    · rename_i h
      split
      · exact hs
      · have hz := vget_back (l := b.drop s.at') (fun x hx => hb x (List.mem_of_mem_drop hx)) (n := (vget (b.drop s.at')).1) (k := (vget (b.drop s.at')).2.1) (Prod.ext rfl (Prod.ext rfl (show (vget (b.drop s.at')).2.2 = 0 by omega)))
        have := hz.2.2.2
        simp only [List.length_drop] at this
        simp only
        omega
/-- A place is read. -/
def rdPl (b : List Nat) (s : RS) : Pl × RS := (⟨((rdNum b 0 95 s).1 / 6 : Nat), decide (3 ≤ (rdNum b 0 95 s).1 % 6), ((rdNum b 0 95 s).1 % 3 : Nat)⟩, (rdNum b 0 95 s).2)
set_option maxHeartbeats 2000000 in
theorem decode_place {rb : Nat} {bv : Value} {b : List Nat} {W : RS → World} (h : RdW 93 rb bv b W) (s : RS) (hs : s.at' ≤ b.length) :
    Calls Try.prog 127 #[.pointer (some ⟨rb, 0, none⟩)] (W s) (Rdn W (rdPl b s).1.v (rdPl b s).2) := by
  haveI hltw : ∀ s, LtW rb (W s) := fun s => ⟨h.lt s⟩
  haveI hsz : ∀ s0 s1, EqW (W s1).heap.size (W s0) := fun s0 s1 => h.szW s1 s0
  obtain ⟨q, Hq⟩ : ∃ q, Hid (q = rdNum b 0 95 s) := ⟨_, Lib.hid rfl⟩
  have Hc : Hid (∀ o, Calls Try.prog 73 #[.pointer (some ⟨rb, 0, none⟩), .int .i64 0, .int .i64 95] ((W s).alloc o) (fun e w' => e = .returned (.int .i64 q.1) ∧ ∃ y, w' = ext ((W q.2).alloc o) y)) := Lib.hid (fun o => by rw [Hq.out]; exact decode_num_int (h.alloc o) s hs 0 95 (by omega) (by omega))
  have hq1 : q.1 ≤ 95 := by rw [Hq.out]; exact (rdNum_le (by omega)).2
  have Hr : Hid (rdPl b s = (⟨(q.1 / 6 : Nat), decide (3 ≤ q.1 % 6), (q.1 % 3 : Nat)⟩, q.2)) := Lib.hid (by rw [Hq.out]; rfl)
  obtain ⟨u, s1⟩ := q
  simp only at hq1
  rw [Hr.out]
  clear Hq
  go_enter Try.func127, Try.ntmps127
  go_wp2_with (first
    | (go_at_call 73; ((with_reducible refine (Hc.out _).mono ?_); rintro e w1 ⟨rfl, x1, rfl⟩)))
  (try simp only [Exit.inBlock, Exit.then])
  refine postR_of (by simp only [results, Try.results127]; go_simp <;> rfl) rfl (by (repeat (first | (with_reducible exact Grow.refl _) | assumption | refine Grow.ext ?_ _ | refine Grow.alloc ?_ _ | refine Grow.drew ?_ | refine Grow.setCell ?_ (by first | (simp; done) | (simp; omega)) _ | refine Grow.trans ?_ (by assumption)))) ?_
  show _ = Value.agg #[_, _, _]
  simp
  omega
/-- A signed number is read. -/
def rdSg (b : List Nat) (s : RS) : Int × RS :=
  if s.e ≠ 0 then (0, s) else if (vget (b.drop s.at')).2.2 ≠ 0 then (0, ⟨0, (vget (b.drop s.at')).2.2⟩) else (foldB (vget (b.drop s.at')).1, ⟨s.at' + (vget (b.drop s.at')).2.1, 0⟩)
theorem rdSg_of {b : List Nat} {k : Nat} {n : Int} {nk : Nat} {er : Int} (h1 : foldB (vget (b.drop k)).1 = n) (h2 : getNext k (vget (b.drop k)) = nk) (h3 : (vget (b.drop k)).2.2 = er) : rdSg b ⟨k, 0⟩ = (n, ⟨nk, er⟩) := by
  unfold rdSg
  rw [if_neg (by simp)]
  simp only
  split
  · rename_i h
    have h4 : (vget (b.drop k)).1 = 0 := vgetL_zero _ _ _ h
    unfold getNext at h2; rw [if_neg h] at h2
    rw [h4] at h1
    have : nk = 0 := by omega
    rw [← h1, h3, this]; simp [foldB]
  · rename_i h
    simp only [ne_eq, Decidable.not_not] at h
    unfold getNext at h2; rw [if_pos h] at h2
    have : nk = k + (vget (b.drop k)).2.1 := by omega
    rw [h1, this, ← h3, h]
theorem rdSg_at {b : List Nat} {s : RS} (hb : ∀ x ∈ b, x < 256) (hs : s.at' ≤ b.length) : (rdSg b s).2.at' ≤ b.length := by
  unfold rdSg
  split
  · exact hs
  · split
    · exact Nat.zero_le _
    · have hz := vget_back (l := b.drop s.at') (fun x hx => hb x (List.mem_of_mem_drop hx)) (n := (vget (b.drop s.at')).1) (k := (vget (b.drop s.at')).2.1) (Prod.ext rfl (Prod.ext rfl (show (vget (b.drop s.at')).2.2 = 0 by omega)))
      have := hz.2.2.2
      simp only [List.length_drop] at this
      simp only
      omega
theorem getNext_nat (k : Nat) (g : Nat × Nat × Int) : ∃ nk : Nat, getNext k g = nk := by
  unfold getNext; split <;> exact ⟨_, rfl⟩
/-- An operand is read. -/
def rdOpd (b : List Nat) (s : RS) : Opd × RS :=
  if (rdNum b 1 3 s).1 = 1 then (⟨1, (rdSg b (rdNum b 1 3 s).2).1, ⟨0, false, 0⟩⟩, (rdSg b (rdNum b 1 3 s).2).2)
  else (⟨(rdNum b 1 3 s).1, 0, (rdPl b (rdNum b 1 3 s).2).1⟩, (rdPl b (rdNum b 1 3 s).2).2)
set_option maxHeartbeats 4000000 in
theorem decode_operand {rb : Nat} {bv : Value} {b : List Nat} {W : RS → World} (h : RdW 93 rb bv b W) (s : RS) (hs : s.at' ≤ b.length) :
    Calls Try.prog 129 #[.pointer (some ⟨rb, 0, none⟩)] (W s) (Rdn W (rdOpd b s).1.v (rdOpd b s).2) := by
  obtain ⟨a, n, cap, rfl, Hn, hm, hcap, hcm, hsl0⟩ := (h.sl s).open
  haveI hltw : ∀ s, LtW rb (W s) := fun s => ⟨h.lt s⟩
  haveI hsz : ∀ s0 s1, EqW (W s1).heap.size (W s0) := fun s0 s1 => h.szW s1 s0
  have hc0 : ∀ s, (W s).cell? ⟨rb, 0, none⟩ = some (.slice a n cap) := fun s => by simp [World.cell?, h.box s]
  have hc1 : ∀ s, (W s).cell? ⟨rb, 1, none⟩ = some (.int .i64 s.at') := fun s => by simp [World.cell?, h.box s]
  have hc2 : ∀ s, (W s).cell? ⟨rb, 2, none⟩ = some (.int .i64 s.e) := fun s => by simp [World.cell?, h.box s]
  have hf1 : ∀ s, (W s).frozen? ⟨rb, 1, none⟩ = false := fun s => by simp [World.frozen?, h.box s]
  have hf2 : ∀ s, (W s).frozen? ⟨rb, 2, none⟩ = false := fun s => by simp [World.frozen?, h.box s]
  have hsA := h.setAt
  have hsE := h.setE
  obtain ⟨q, Hq⟩ : ∃ q, Hid (q = rdNum b 1 3 s) := ⟨_, Lib.hid rfl⟩
  have Hc : Hid (∀ o, Calls Try.prog 126 #[.pointer (some ⟨rb, 0, none⟩), .int .u8 1, .int .u8 3] ((W s).alloc o) (fun e w' => e = .returned (.int .u8 q.1) ∧ ∃ y, w' = ext ((W q.2).alloc o) y)) := Lib.hid (fun o => by rw [Hq.out]; exact decode_num_u8 (h.alloc o) s hs 1 3 (by omega) (by omega))
  have hq0 : 1 ≤ q.1 ∧ q.1 ≤ 3 := by rw [Hq.out]; exact rdNum_le (by omega)
  have hb := hsl0.drop_byte 0
  rw [List.drop_zero] at hb
  have hqa : q.2.at' ≤ b.length := by rw [Hq.out]; exact rdNum_at hb hs
  have Hr : Hid (rdOpd b s = if q.1 = 1 then (⟨1, (rdSg b q.2).1, ⟨0, false, 0⟩⟩, (rdSg b q.2).2) else (⟨q.1, 0, (rdPl b q.2).1⟩, (rdPl b q.2).2)) := Lib.hid (by rw [Hq.out]; rfl)
  have hsl1 := h.sl q.2
  obtain ⟨u, k1, e1⟩ := q
  simp only at hq0 hqa
  clear Hq hb hsl0
  by_cases hu : u = 1
  · subst hu
    by_cases he : e1 = 0
    · subst he
      obtain ⟨nk, hnk⟩ := getNext_nat k1 (vget (b.drop k1))
      obtain ⟨er, her⟩ : ∃ er, (vget (b.drop k1)).2.2 = er := ⟨_, rfl⟩
      obtain ⟨m, hm2⟩ : ∃ m, foldB (vget (b.drop k1)).1 = m := ⟨_, rfl⟩
      have Hs : Hid (∀ w' (q : Sl (fun k => k ≠ rb) w' (.slice a n cap) b), Calls Try.prog 136 #[.slice a n cap, .int .i64 k1] w' (Ret w' (.tuple #[.int .i64 m, .int .i64 nk, .int .i64 er]))) := Lib.hid (fun w' q => by have := number_GetSigned _ b k1 w' q hqa; rw [hm2, hnk, her] at this; exact this)
      have Hr2 : Hid (rdOpd b s = (⟨1, m, ⟨0, false, 0⟩⟩, ⟨nk, er⟩)) := Lib.hid (by rw [Hr.out, if_pos rfl]; simp only; rw [rdSg_of hm2 hnk her])
      clear hnk her hm2 Hr
      rw [Hr2.out]
      go_enter Try.func129, Try.ntmps129
      go_wp2_with (first
        | (go_at_call 126; ((with_reducible refine (Hc.out _).mono ?_); rintro e w1 ⟨rfl, x1, rfl⟩)))
      (refine wp_region_ext (by kernel_rfl) (by kernel_rfl) ?_; (repeat (any_goals (first | go_big_quiet_step (first | (go_at_call 136; refine ext_call (Hs.out _ (hsl1.mono (by (repeat (first | (with_reducible exact Grow.refl _) | assumption | refine Grow.ext ?_ _ | refine Grow.alloc ?_ _ | refine Grow.drew ?_ | refine Grow.setCell ?_ (by first | (simp; done) | (simp; omega)) _ | refine Grow.trans ?_ (by assumption)))))))) | (refine wpQuiet_step (fun K hK => ?_); go_simp; split <;> (refine hK _ ?_; clear hK K))))); all_goals (refine wpQuiet_nil ?_; intro w3 hb3; obtain ⟨x3, rfl⟩ := ext_of_grow hb3; clear hb3))
      go_wp2_with fail
      (try simp only [Exit.inBlock, Exit.then])
      refine postR_of (by simp only [results, Try.results129]; go_simp <;> rfl) rfl (by (repeat (first | (with_reducible exact Grow.refl _) | assumption | refine Grow.ext ?_ _ | refine Grow.alloc ?_ _ | refine Grow.drew ?_ | refine Grow.setCell ?_ (by first | (simp; done) | (simp; omega)) _ | refine Grow.trans ?_ (by assumption)))) ?_
      rfl
    · have he1 : (e1 == 0) = false := by simp [he]
      have Hr2 : Hid (rdOpd b s = (⟨1, 0, ⟨0, false, 0⟩⟩, ⟨k1, e1⟩)) := Lib.hid (by rw [Hr.out, if_pos rfl]; simp only; unfold rdSg; rw [if_pos he])
      clear he Hr
      rw [Hr2.out]
      go_enter Try.func129, Try.ntmps129
      go_wp2_with (first
        | (go_at_call 126; ((with_reducible refine (Hc.out _).mono ?_); rintro e w1 ⟨rfl, x1, rfl⟩)))
      (try simp only [Exit.inBlock, Exit.then])
      refine postR_of (by simp only [results, Try.results129]; go_simp <;> rfl) rfl (by (repeat (first | (with_reducible exact Grow.refl _) | assumption | refine Grow.ext ?_ _ | refine Grow.alloc ?_ _ | refine Grow.drew ?_ | refine Grow.setCell ?_ (by first | (simp; done) | (simp; omega)) _ | refine Grow.trans ?_ (by assumption)))) ?_
      rfl
  · have Hr2 : Hid (rdOpd b s = (⟨u, 0, (rdPl b ⟨k1, e1⟩).1⟩, (rdPl b ⟨k1, e1⟩).2)) := Lib.hid (by rw [Hr.out, if_neg hu])
    obtain ⟨q, Hq⟩ : ∃ q, Hid (q = rdPl b ⟨k1, e1⟩) := ⟨_, Lib.hid rfl⟩
    rw [← Hq.out] at Hr2
    have Hp : Hid (∀ o1 x o2, Calls Try.prog 127 #[.pointer (some ⟨rb, 0, none⟩)] ((ext ((W ⟨k1, e1⟩).alloc o1) x).alloc o2) (fun e w' => e = .returned q.1.v ∧ ∃ y, w' = ext ((ext ((W q.2).alloc o1) x).alloc o2) y)) := Lib.hid (fun o1 x o2 => by rw [Hq.out]; exact decode_place (((h.alloc o1).ext x).alloc o2) ⟨k1, e1⟩ hqa)
    clear Hr Hq
    obtain ⟨⟨pl, pd, pf⟩, s2⟩ := q
    rw [Hr2.out]
    have hu23 : u = 2 ∨ u = 3 := by omega
    clear hu
    rcases hu23 with rfl | rfl
    all_goals
      go_enter Try.func129, Try.ntmps129
      go_wp2_with (first
        | (go_at_call 126; ((with_reducible refine (Hc.out _).mono ?_); rintro e w1 ⟨rfl, x1, rfl⟩))
        | (go_at_call 127; ((with_reducible refine (Hp.out _ _ _).mono ?_); rintro e w1 ⟨rfl, x2, rfl⟩)))
      (try simp only [Exit.inBlock, Exit.then])
      refine postR_of (by simp only [results, Try.results129]; go_simp <;> rfl) rfl (by (repeat (first | (with_reducible exact Grow.refl _) | assumption | refine Grow.ext ?_ _ | refine Grow.alloc ?_ _ | refine Grow.drew ?_ | refine Grow.setCell ?_ (by first | (simp; done) | (simp; omega)) _ | refine Grow.trans ?_ (by assumption)))) ?_
      rfl
theorem rdPl_at {b : List Nat} {s : RS} (hb : ∀ x ∈ b, x < 256) (hs : s.at' ≤ b.length) : (rdPl b s).2.at' ≤ b.length := rdNum_at hb hs
theorem rdOpd_at {b : List Nat} {s : RS} (hb : ∀ x ∈ b, x < 256) (hs : s.at' ≤ b.length) : (rdOpd b s).2.at' ≤ b.length := by
  unfold rdOpd
  split
  · exact rdSg_at hb (rdNum_at hb hs)
  · exact rdPl_at hb (rdNum_at hb hs)
/-- An rvalue is read. -/
def rdRv (b : List Nat) (s : RS) : Rv × RS :=
  if (rdNum b 1 5 s).1 = 1 then (⟨1, 0, 0, (rdOpd b (rdNum b 1 5 s).2).1, ⟨0, 0, ⟨0, false, 0⟩⟩, ⟨0, false, 0⟩⟩, (rdOpd b (rdNum b 1 5 s).2).2)
  else if (rdNum b 1 5 s).1 = 2 then (⟨2, (rdNum b 1 6 (rdNum b 1 5 s).2).1, 0, (rdOpd b (rdNum b 1 6 (rdNum b 1 5 s).2).2).1, (rdOpd b (rdOpd b (rdNum b 1 6 (rdNum b 1 5 s).2).2).2).1, ⟨0, false, 0⟩⟩, (rdOpd b (rdOpd b (rdNum b 1 6 (rdNum b 1 5 s).2).2).2).2)
  else if (rdNum b 1 5 s).1 = 3 then (⟨3, 0, 0, (rdOpd b (rdNum b 1 5 s).2).1, (rdOpd b (rdOpd b (rdNum b 1 5 s).2).2).1, ⟨0, false, 0⟩⟩, (rdOpd b (rdOpd b (rdNum b 1 5 s).2).2).2)
  else if (rdNum b 1 5 s).1 = 4 then (⟨4, 0, (rdNum b 1 3 (rdNum b 1 5 s).2).1, ⟨0, 0, ⟨0, false, 0⟩⟩, ⟨0, 0, ⟨0, false, 0⟩⟩, (rdPl b (rdNum b 1 3 (rdNum b 1 5 s).2).2).1⟩, (rdPl b (rdNum b 1 3 (rdNum b 1 5 s).2).2).2)
  else (⟨(rdNum b 1 5 s).1, 0, 0, ⟨0, 0, ⟨0, false, 0⟩⟩, ⟨0, 0, ⟨0, false, 0⟩⟩, (rdPl b (rdNum b 1 5 s).2).1⟩, (rdPl b (rdNum b 1 5 s).2).2)
theorem rdRv_at {b : List Nat} {s : RS} (hb : ∀ x ∈ b, x < 256) (hs : s.at' ≤ b.length) : (rdRv b s).2.at' ≤ b.length := by
  have h0 := rdNum_at (lo := 1) (hi := 5) hb hs
  unfold rdRv
  (repeat' split)
  · exact rdOpd_at hb h0
  · exact rdOpd_at hb (rdOpd_at hb (rdNum_at hb h0))
  · exact rdOpd_at hb (rdOpd_at hb h0)
  · exact rdPl_at hb (rdNum_at hb h0)
  · exact rdPl_at hb h0
set_option maxRecDepth 100000 in
set_option maxHeartbeats 8000000 in
theorem decode_rvalue {rb : Nat} {bv : Value} {b : List Nat} {W : RS → World} (h : RdW 93 rb bv b W) (s : RS) (hs : s.at' ≤ b.length) :
    Calls Try.prog 128 #[.pointer (some ⟨rb, 0, none⟩)] (W s) (Rdn W (rdRv b s).1.v (rdRv b s).2) := by
  haveI hltw : ∀ s, LtW rb (W s) := fun s => ⟨h.lt s⟩
  haveI hsz : ∀ s0 s1, EqW (W s1).heap.size (W s0) := fun s0 s1 => h.szW s1 s0
  have hb : ∀ x ∈ b, x < 256 := by have := (h.sl s).drop_byte 0; rwa [List.drop_zero] at this
  obtain ⟨q0, Hq0⟩ : ∃ q, Hid (q = rdNum b 1 5 s) := ⟨_, Lib.hid rfl⟩
  have Hc0 : Hid (∀ W2, RdW 93 rb bv b W2 → Calls Try.prog 126 #[.pointer (some ⟨rb, 0, none⟩), .int .u8 1, .int .u8 5] (W2 s) (Rdn W2 (.int .u8 q0.1) q0.2)) := Lib.hid (fun W2 h2 => by rw [Hq0.out]; exact decode_num_u8 h2 s hs 1 5 (by omega) (by omega))
  have hz0 : q0.2.at' ≤ b.length := by rw [Hq0.out]; exact rdNum_at hb hs
  have hq0 : 1 ≤ q0.1 ∧ q0.1 ≤ 5 := by rw [Hq0.out]; exact rdNum_le (by omega)
  have hk : q0.1 = 1 ∨ q0.1 = 2 ∨ q0.1 = 3 ∨ q0.1 = 4 ∨ q0.1 = 5 := by omega
  clear hq0
  rcases hk with hk | hk | hk | hk | hk
  · obtain ⟨q1, Hq1⟩ : ∃ q, Hid (q = rdOpd b q0.2) := ⟨_, Lib.hid rfl⟩
    have Hc1 : Hid (∀ W2, RdW 93 rb bv b W2 → Calls Try.prog 129 #[.pointer (some ⟨rb, 0, none⟩)] (W2 q0.2) (Rdn W2 q1.1.v q1.2)) := Lib.hid (fun W2 h2 => by rw [Hq1.out]; exact decode_operand h2 q0.2 hz0)
    have hz1 : q1.2.at' ≤ b.length := by rw [Hq1.out]; exact rdOpd_at hb hz0
    have Hr : Hid (rdRv b s = (⟨1, 0, 0, q1.1, ⟨0, 0, ⟨0, false, 0⟩⟩, ⟨0, false, 0⟩⟩, q1.2)) := Lib.hid (by unfold rdRv; simp only [← Hq0.out]; (try rw [if_neg (by rw [hk]; decide)]); (try rw [if_neg (by rw [hk]; decide)]); (try rw [if_neg (by rw [hk]; decide)]); (try rw [if_neg (by rw [hk]; decide)]); (try rw [if_neg (by rw [hk]; decide)]); (try rw [if_pos hk]); try simp only [← Hq1.out]; (first | done | rfl | (rw [hk]; rfl)))
    rw [Hr.out]
    clear Hr hb hz0 hz1
    clear Hq1 Hq0
    obtain ⟨u0, s0⟩ := q0
    obtain ⟨⟨k1, n1, ⟨l1, d1, f1⟩⟩, s1⟩ := q1
    simp only at hk
    subst hk
    go_enter Try.func128, Try.ntmps128
    go_wp2_with (first
      | (go_at_call 126; ((with_reducible refine (Hc0.out _ (h.alloc _)).mono ?_); rintro e w1 ⟨rfl, x0, rfl⟩; (try dsimp only [])))
      | (go_at_call 129; ((with_reducible refine (Hc1.out _ (((h.alloc _).ext _).alloc _)).mono ?_); rintro e w1 ⟨rfl, x1, rfl⟩; (try dsimp only []))))
    (try simp only [Exit.inBlock, Exit.then])
    refine postR_of (by simp only [results, Try.results128]; go_simp <;> rfl) rfl (by (repeat (first | (with_reducible exact Grow.refl _) | assumption | refine Grow.ext ?_ _ | refine Grow.alloc ?_ _ | refine Grow.drew ?_ | refine Grow.setCell ?_ (by first | (simp; done) | (simp; omega)) _ | refine Grow.trans ?_ (by assumption)))) ?_
    rfl
  · obtain ⟨q1, Hq1⟩ : ∃ q, Hid (q = rdNum b 1 6 q0.2) := ⟨_, Lib.hid rfl⟩
    have Hc1 : Hid (∀ W2, RdW 93 rb bv b W2 → Calls Try.prog 126 #[.pointer (some ⟨rb, 0, none⟩), .int .u8 1, .int .u8 6] (W2 q0.2) (Rdn W2 (.int .u8 q1.1) q1.2)) := Lib.hid (fun W2 h2 => by rw [Hq1.out]; exact decode_num_u8 h2 q0.2 hz0 1 6 (by omega) (by omega))
    have hz1 : q1.2.at' ≤ b.length := by rw [Hq1.out]; exact rdNum_at hb hz0
    obtain ⟨q2, Hq2⟩ : ∃ q, Hid (q = rdOpd b q1.2) := ⟨_, Lib.hid rfl⟩
    have Hc2 : Hid (∀ W2, RdW 93 rb bv b W2 → Calls Try.prog 129 #[.pointer (some ⟨rb, 0, none⟩)] (W2 q1.2) (Rdn W2 q2.1.v q2.2)) := Lib.hid (fun W2 h2 => by rw [Hq2.out]; exact decode_operand h2 q1.2 hz1)
    have hz2 : q2.2.at' ≤ b.length := by rw [Hq2.out]; exact rdOpd_at hb hz1
    obtain ⟨q3, Hq3⟩ : ∃ q, Hid (q = rdOpd b q2.2) := ⟨_, Lib.hid rfl⟩
    have Hc3 : Hid (∀ W2, RdW 93 rb bv b W2 → Calls Try.prog 129 #[.pointer (some ⟨rb, 0, none⟩)] (W2 q2.2) (Rdn W2 q3.1.v q3.2)) := Lib.hid (fun W2 h2 => by rw [Hq3.out]; exact decode_operand h2 q2.2 hz2)
    have hz3 : q3.2.at' ≤ b.length := by rw [Hq3.out]; exact rdOpd_at hb hz2
    have Hr : Hid (rdRv b s = (⟨2, q1.1, 0, q2.1, q3.1, ⟨0, false, 0⟩⟩, q3.2)) := Lib.hid (by unfold rdRv; simp only [← Hq0.out]; (try rw [if_neg (by rw [hk]; decide)]); (try rw [if_neg (by rw [hk]; decide)]); (try rw [if_neg (by rw [hk]; decide)]); (try rw [if_neg (by rw [hk]; decide)]); (try rw [if_neg (by rw [hk]; decide)]); (try rw [if_pos hk]); try simp only [← Hq1.out]; try simp only [← Hq2.out]; try simp only [← Hq3.out]; (first | done | rfl | (rw [hk]; rfl)))
    rw [Hr.out]
    clear Hr hb hz0 hz1 hz2 hz3
    clear Hq3 Hq2 Hq1 Hq0
    obtain ⟨u0, s0⟩ := q0
    obtain ⟨u1, s1⟩ := q1
    obtain ⟨⟨k2, n2, ⟨l2, d2, f2⟩⟩, s2⟩ := q2
    obtain ⟨⟨k3, n3, ⟨l3, d3, f3⟩⟩, s3⟩ := q3
    simp only at hk
    subst hk
    go_enter Try.func128, Try.ntmps128
    go_wp2_with (first
      | (go_at_call 126; ((with_reducible refine (Hc0.out _ (h.alloc _)).mono ?_); rintro e w1 ⟨rfl, x0, rfl⟩; (try dsimp only [])))
      | (go_at_call 126; ((with_reducible refine (Hc1.out _ (((h.alloc _).ext _).alloc _)).mono ?_); rintro e w1 ⟨rfl, x1, rfl⟩; (try dsimp only [])))
      | (go_at_call 129; ((with_reducible refine (Hc2.out _ ((((h.alloc _).ext _).alloc _).ext _)).mono ?_); rintro e w1 ⟨rfl, x2, rfl⟩; (try dsimp only [])))
      | (go_at_call 129; ((with_reducible refine (Hc3.out _ (((((h.alloc _).ext _).alloc _).ext _).ext _)).mono ?_); rintro e w1 ⟨rfl, x3, rfl⟩; (try dsimp only []))))
    (try simp only [Exit.inBlock, Exit.then])
    refine postR_of (by simp only [results, Try.results128]; go_simp <;> rfl) rfl (by (repeat (first | (with_reducible exact Grow.refl _) | assumption | refine Grow.ext ?_ _ | refine Grow.alloc ?_ _ | refine Grow.drew ?_ | refine Grow.setCell ?_ (by first | (simp; done) | (simp; omega)) _ | refine Grow.trans ?_ (by assumption)))) ?_
    rfl
  · obtain ⟨q1, Hq1⟩ : ∃ q, Hid (q = rdOpd b q0.2) := ⟨_, Lib.hid rfl⟩
    have Hc1 : Hid (∀ W2, RdW 93 rb bv b W2 → Calls Try.prog 129 #[.pointer (some ⟨rb, 0, none⟩)] (W2 q0.2) (Rdn W2 q1.1.v q1.2)) := Lib.hid (fun W2 h2 => by rw [Hq1.out]; exact decode_operand h2 q0.2 hz0)
    have hz1 : q1.2.at' ≤ b.length := by rw [Hq1.out]; exact rdOpd_at hb hz0
    obtain ⟨q2, Hq2⟩ : ∃ q, Hid (q = rdOpd b q1.2) := ⟨_, Lib.hid rfl⟩
    have Hc2 : Hid (∀ W2, RdW 93 rb bv b W2 → Calls Try.prog 129 #[.pointer (some ⟨rb, 0, none⟩)] (W2 q1.2) (Rdn W2 q2.1.v q2.2)) := Lib.hid (fun W2 h2 => by rw [Hq2.out]; exact decode_operand h2 q1.2 hz1)
    have hz2 : q2.2.at' ≤ b.length := by rw [Hq2.out]; exact rdOpd_at hb hz1
    have Hr : Hid (rdRv b s = (⟨3, 0, 0, q1.1, q2.1, ⟨0, false, 0⟩⟩, q2.2)) := Lib.hid (by unfold rdRv; simp only [← Hq0.out]; (try rw [if_neg (by rw [hk]; decide)]); (try rw [if_neg (by rw [hk]; decide)]); (try rw [if_neg (by rw [hk]; decide)]); (try rw [if_neg (by rw [hk]; decide)]); (try rw [if_neg (by rw [hk]; decide)]); (try rw [if_pos hk]); try simp only [← Hq1.out]; try simp only [← Hq2.out]; (first | done | rfl | (rw [hk]; rfl)))
    rw [Hr.out]
    clear Hr hb hz0 hz1 hz2
    clear Hq2 Hq1 Hq0
    obtain ⟨u0, s0⟩ := q0
    obtain ⟨⟨k1, n1, ⟨l1, d1, f1⟩⟩, s1⟩ := q1
    obtain ⟨⟨k2, n2, ⟨l2, d2, f2⟩⟩, s2⟩ := q2
    simp only at hk
    subst hk
    go_enter Try.func128, Try.ntmps128
    go_wp2_with (first
      | (go_at_call 126; ((with_reducible refine (Hc0.out _ (h.alloc _)).mono ?_); rintro e w1 ⟨rfl, x0, rfl⟩; (try dsimp only [])))
      | (go_at_call 129; ((with_reducible refine (Hc1.out _ (((h.alloc _).ext _).alloc _)).mono ?_); rintro e w1 ⟨rfl, x1, rfl⟩; (try dsimp only [])))
      | (go_at_call 129; ((with_reducible refine (Hc2.out _ ((((h.alloc _).ext _).alloc _).ext _)).mono ?_); rintro e w1 ⟨rfl, x2, rfl⟩; (try dsimp only []))))
    (try simp only [Exit.inBlock, Exit.then])
    refine postR_of (by simp only [results, Try.results128]; go_simp <;> rfl) rfl (by (repeat (first | (with_reducible exact Grow.refl _) | assumption | refine Grow.ext ?_ _ | refine Grow.alloc ?_ _ | refine Grow.drew ?_ | refine Grow.setCell ?_ (by first | (simp; done) | (simp; omega)) _ | refine Grow.trans ?_ (by assumption)))) ?_
    rfl
  · obtain ⟨q1, Hq1⟩ : ∃ q, Hid (q = rdNum b 1 3 q0.2) := ⟨_, Lib.hid rfl⟩
    have Hc1 : Hid (∀ W2, RdW 93 rb bv b W2 → Calls Try.prog 126 #[.pointer (some ⟨rb, 0, none⟩), .int .u8 1, .int .u8 3] (W2 q0.2) (Rdn W2 (.int .u8 q1.1) q1.2)) := Lib.hid (fun W2 h2 => by rw [Hq1.out]; exact decode_num_u8 h2 q0.2 hz0 1 3 (by omega) (by omega))
    have hz1 : q1.2.at' ≤ b.length := by rw [Hq1.out]; exact rdNum_at hb hz0
    obtain ⟨q2, Hq2⟩ : ∃ q, Hid (q = rdPl b q1.2) := ⟨_, Lib.hid rfl⟩
    have Hc2 : Hid (∀ W2, RdW 93 rb bv b W2 → Calls Try.prog 127 #[.pointer (some ⟨rb, 0, none⟩)] (W2 q1.2) (Rdn W2 q2.1.v q2.2)) := Lib.hid (fun W2 h2 => by rw [Hq2.out]; exact decode_place h2 q1.2 hz1)
    have hz2 : q2.2.at' ≤ b.length := by rw [Hq2.out]; exact rdPl_at hb hz1
    have Hr : Hid (rdRv b s = (⟨4, 0, q1.1, ⟨0, 0, ⟨0, false, 0⟩⟩, ⟨0, 0, ⟨0, false, 0⟩⟩, q2.1⟩, q2.2)) := Lib.hid (by unfold rdRv; simp only [← Hq0.out]; (try rw [if_neg (by rw [hk]; decide)]); (try rw [if_neg (by rw [hk]; decide)]); (try rw [if_neg (by rw [hk]; decide)]); (try rw [if_neg (by rw [hk]; decide)]); (try rw [if_neg (by rw [hk]; decide)]); (try rw [if_pos hk]); try simp only [← Hq1.out]; try simp only [← Hq2.out]; (first | done | rfl | (rw [hk]; rfl)))
    rw [Hr.out]
    clear Hr hb hz0 hz1 hz2
    clear Hq2 Hq1 Hq0
    obtain ⟨u0, s0⟩ := q0
    obtain ⟨u1, s1⟩ := q1
    obtain ⟨⟨l2, d2, f2⟩, s2⟩ := q2
    simp only at hk
    subst hk
    go_enter Try.func128, Try.ntmps128
    go_wp2_with (first
      | (go_at_call 126; ((with_reducible refine (Hc0.out _ (h.alloc _)).mono ?_); rintro e w1 ⟨rfl, x0, rfl⟩; (try dsimp only [])))
      | (go_at_call 126; ((with_reducible refine (Hc1.out _ (((h.alloc _).ext _).alloc _)).mono ?_); rintro e w1 ⟨rfl, x1, rfl⟩; (try dsimp only [])))
      | (go_at_call 127; ((with_reducible refine (Hc2.out _ ((((h.alloc _).ext _).alloc _).ext _)).mono ?_); rintro e w1 ⟨rfl, x2, rfl⟩; (try dsimp only []))))
    (try simp only [Exit.inBlock, Exit.then])
    refine postR_of (by simp only [results, Try.results128]; go_simp <;> rfl) rfl (by (repeat (first | (with_reducible exact Grow.refl _) | assumption | refine Grow.ext ?_ _ | refine Grow.alloc ?_ _ | refine Grow.drew ?_ | refine Grow.setCell ?_ (by first | (simp; done) | (simp; omega)) _ | refine Grow.trans ?_ (by assumption)))) ?_
    rfl
  · obtain ⟨q1, Hq1⟩ : ∃ q, Hid (q = rdPl b q0.2) := ⟨_, Lib.hid rfl⟩
    have Hc1 : Hid (∀ W2, RdW 93 rb bv b W2 → Calls Try.prog 127 #[.pointer (some ⟨rb, 0, none⟩)] (W2 q0.2) (Rdn W2 q1.1.v q1.2)) := Lib.hid (fun W2 h2 => by rw [Hq1.out]; exact decode_place h2 q0.2 hz0)
    have hz1 : q1.2.at' ≤ b.length := by rw [Hq1.out]; exact rdPl_at hb hz0
    have Hr : Hid (rdRv b s = (⟨5, 0, 0, ⟨0, 0, ⟨0, false, 0⟩⟩, ⟨0, 0, ⟨0, false, 0⟩⟩, q1.1⟩, q1.2)) := Lib.hid (by unfold rdRv; simp only [← Hq0.out]; (try rw [if_neg (by rw [hk]; decide)]); (try rw [if_neg (by rw [hk]; decide)]); (try rw [if_neg (by rw [hk]; decide)]); (try rw [if_neg (by rw [hk]; decide)]); (try rw [if_neg (by rw [hk]; decide)]); (try rw [if_pos hk]); try simp only [← Hq1.out]; (first | done | rfl | (rw [hk]; rfl)))
    rw [Hr.out]
    clear Hr hb hz0 hz1
    clear Hq1 Hq0
    obtain ⟨u0, s0⟩ := q0
    obtain ⟨⟨l1, d1, f1⟩, s1⟩ := q1
    simp only at hk
    subst hk
    go_enter Try.func128, Try.ntmps128
    go_wp2_with (first
      | (go_at_call 126; ((with_reducible refine (Hc0.out _ (h.alloc _)).mono ?_); rintro e w1 ⟨rfl, x0, rfl⟩; (try dsimp only [])))
      | (go_at_call 127; ((with_reducible refine (Hc1.out _ (((h.alloc _).ext _).alloc _)).mono ?_); rintro e w1 ⟨rfl, x1, rfl⟩; (try dsimp only []))))
    (try simp only [Exit.inBlock, Exit.then])
    refine postR_of (by simp only [results, Try.results128]; go_simp <;> rfl) rfl (by (repeat (first | (with_reducible exact Grow.refl _) | assumption | refine Grow.ext ?_ _ | refine Grow.alloc ?_ _ | refine Grow.drew ?_ | refine Grow.setCell ?_ (by first | (simp; done) | (simp; omega)) _ | refine Grow.trans ?_ (by assumption)))) ?_
    rfl
/-- A statement is read. -/
def rdSt (b : List Nat) (s : RS) : St × RS :=
  if (rdNum b 1 4 s).1 = 1 then (⟨1, (rdPl b (rdNum b 1 4 s).2).1, (rdRv b (rdPl b (rdNum b 1 4 s).2).2).1, ⟨0, 0, ⟨0, false, 0⟩⟩, 0⟩, (rdRv b (rdPl b (rdNum b 1 4 s).2).2).2)
  else if (rdNum b 1 4 s).1 = 3 then (⟨3, ⟨0, false, 0⟩, ⟨0, 0, 0, ⟨0, 0, ⟨0, false, 0⟩⟩, ⟨0, 0, ⟨0, false, 0⟩⟩, ⟨0, false, 0⟩⟩, ⟨0, 0, ⟨0, false, 0⟩⟩, (rdNum b 0 15 (rdNum b 1 4 s).2).1⟩, (rdNum b 0 15 (rdNum b 1 4 s).2).2)
  else (⟨(rdNum b 1 4 s).1, ⟨0, false, 0⟩, ⟨0, 0, 0, ⟨0, 0, ⟨0, false, 0⟩⟩, ⟨0, 0, ⟨0, false, 0⟩⟩, ⟨0, false, 0⟩⟩, (rdOpd b (rdNum b 1 4 s).2).1, 0⟩, (rdOpd b (rdNum b 1 4 s).2).2)
theorem rdSt_at {b : List Nat} {s : RS} (hb : ∀ x ∈ b, x < 256) (hs : s.at' ≤ b.length) : (rdSt b s).2.at' ≤ b.length := by
  have h0 := rdNum_at (lo := 1) (hi := 4) hb hs
  unfold rdSt
  (repeat' split)
  · exact rdRv_at hb (rdPl_at hb h0)
  · exact rdNum_at hb h0
  · exact rdOpd_at hb h0
set_option maxRecDepth 100000 in
set_option maxHeartbeats 8000000 in
theorem decode_stmt {rb : Nat} {bv : Value} {b : List Nat} {W : RS → World} (h : RdW 93 rb bv b W) (s : RS) (hs : s.at' ≤ b.length) :
    Calls Try.prog 109 #[.pointer (some ⟨rb, 0, none⟩)] (W s) (Rdn W (rdSt b s).1.v (rdSt b s).2) := by
  haveI hltw : ∀ s, LtW rb (W s) := fun s => ⟨h.lt s⟩
  haveI hsz : ∀ s0 s1, EqW (W s1).heap.size (W s0) := fun s0 s1 => h.szW s1 s0
  have hb : ∀ x ∈ b, x < 256 := by have := (h.sl s).drop_byte 0; rwa [List.drop_zero] at this
  obtain ⟨q0, Hq0⟩ : ∃ q, Hid (q = rdNum b 1 4 s) := ⟨_, Lib.hid rfl⟩
  have Hc0 : Hid (∀ W2, RdW 93 rb bv b W2 → Calls Try.prog 126 #[.pointer (some ⟨rb, 0, none⟩), .int .u8 1, .int .u8 4] (W2 s) (Rdn W2 (.int .u8 q0.1) q0.2)) := Lib.hid (fun W2 h2 => by rw [Hq0.out]; exact decode_num_u8 h2 s hs 1 4 (by omega) (by omega))
  have hz0 : q0.2.at' ≤ b.length := by rw [Hq0.out]; exact rdNum_at hb hs
  have hq0 : 1 ≤ q0.1 ∧ q0.1 ≤ 4 := by rw [Hq0.out]; exact rdNum_le (by omega)
  have hk : q0.1 = 1 ∨ q0.1 = 2 ∨ q0.1 = 3 ∨ q0.1 = 4 := by omega
  clear hq0
  rcases hk with hk | hk | hk | hk
  · obtain ⟨q1, Hq1⟩ : ∃ q, Hid (q = rdPl b q0.2) := ⟨_, Lib.hid rfl⟩
    have Hc1 : Hid (∀ W2, RdW 93 rb bv b W2 → Calls Try.prog 127 #[.pointer (some ⟨rb, 0, none⟩)] (W2 q0.2) (Rdn W2 q1.1.v q1.2)) := Lib.hid (fun W2 h2 => by rw [Hq1.out]; exact decode_place h2 q0.2 hz0)
    have hz1 : q1.2.at' ≤ b.length := by rw [Hq1.out]; exact rdPl_at hb hz0
    obtain ⟨q2, Hq2⟩ : ∃ q, Hid (q = rdRv b q1.2) := ⟨_, Lib.hid rfl⟩
    have Hc2 : Hid (∀ W2, RdW 93 rb bv b W2 → Calls Try.prog 128 #[.pointer (some ⟨rb, 0, none⟩)] (W2 q1.2) (Rdn W2 q2.1.v q2.2)) := Lib.hid (fun W2 h2 => by rw [Hq2.out]; exact decode_rvalue h2 q1.2 hz1)
    have hz2 : q2.2.at' ≤ b.length := by rw [Hq2.out]; exact rdRv_at hb hz1
    have Hr : Hid (rdSt b s = (⟨1, q1.1, q2.1, ⟨0, 0, ⟨0, false, 0⟩⟩, 0⟩, q2.2)) := Lib.hid (by unfold rdSt; simp only [← Hq0.out]; (try rw [if_neg (by rw [hk]; decide)]); (try rw [if_neg (by rw [hk]; decide)]); (try rw [if_neg (by rw [hk]; decide)]); (try rw [if_neg (by rw [hk]; decide)]); (try rw [if_neg (by rw [hk]; decide)]); (try rw [if_pos hk]); try simp only [← Hq1.out]; try simp only [← Hq2.out]; (first | done | rfl | (rw [hk]; rfl)))
    rw [Hr.out]
    clear Hr hb hz0 hz1 hz2
    clear Hq2 Hq1 Hq0
    obtain ⟨u0, s0⟩ := q0
    obtain ⟨⟨l1, d1, f1⟩, s1⟩ := q1
    obtain ⟨⟨k2, p2, t2, ⟨ka2, na2, ⟨la2, da2, fa2⟩⟩, ⟨kb2, nb2, ⟨lb2, db2, fb2⟩⟩, ⟨l2, d2, f2⟩⟩, s2⟩ := q2
    simp only at hk
    subst hk
    go_enter Try.func109, Try.ntmps109
    go_wp2_with (first
      | (go_at_call 126; ((with_reducible refine (Hc0.out _ (h.alloc _)).mono ?_); rintro e w1 ⟨rfl, x0, rfl⟩; (try dsimp only [])))
      | (go_at_call 127; ((with_reducible refine (Hc1.out _ (((h.alloc _).ext _).alloc _)).mono ?_); rintro e w1 ⟨rfl, x1, rfl⟩; (try dsimp only [])))
      | (go_at_call 128; ((with_reducible refine (Hc2.out _ ((((h.alloc _).ext _).alloc _).ext _)).mono ?_); rintro e w1 ⟨rfl, x2, rfl⟩; (try dsimp only []))))
    (try simp only [Exit.inBlock, Exit.then])
    refine postR_of (by simp only [results, Try.results109]; go_simp <;> rfl) rfl (by (repeat (first | (with_reducible exact Grow.refl _) | assumption | refine Grow.ext ?_ _ | refine Grow.alloc ?_ _ | refine Grow.drew ?_ | refine Grow.setCell ?_ (by first | (simp; done) | (simp; omega)) _ | refine Grow.trans ?_ (by assumption)))) ?_
    rfl
  · obtain ⟨q1, Hq1⟩ : ∃ q, Hid (q = rdOpd b q0.2) := ⟨_, Lib.hid rfl⟩
    have Hc1 : Hid (∀ W2, RdW 93 rb bv b W2 → Calls Try.prog 129 #[.pointer (some ⟨rb, 0, none⟩)] (W2 q0.2) (Rdn W2 q1.1.v q1.2)) := Lib.hid (fun W2 h2 => by rw [Hq1.out]; exact decode_operand h2 q0.2 hz0)
    have hz1 : q1.2.at' ≤ b.length := by rw [Hq1.out]; exact rdOpd_at hb hz0
    have Hr : Hid (rdSt b s = (⟨2, ⟨0, false, 0⟩, ⟨0, 0, 0, ⟨0, 0, ⟨0, false, 0⟩⟩, ⟨0, 0, ⟨0, false, 0⟩⟩, ⟨0, false, 0⟩⟩, q1.1, 0⟩, q1.2)) := Lib.hid (by unfold rdSt; simp only [← Hq0.out]; (try rw [if_neg (by rw [hk]; decide)]); (try rw [if_neg (by rw [hk]; decide)]); (try rw [if_neg (by rw [hk]; decide)]); (try rw [if_neg (by rw [hk]; decide)]); (try rw [if_neg (by rw [hk]; decide)]); (try rw [if_pos hk]); try simp only [← Hq1.out]; (first | done | rfl | (rw [hk]; rfl)))
    rw [Hr.out]
    clear Hr hb hz0 hz1
    clear Hq1 Hq0
    obtain ⟨u0, s0⟩ := q0
    obtain ⟨⟨k1, n1, ⟨l1, d1, f1⟩⟩, s1⟩ := q1
    simp only at hk
    subst hk
    go_enter Try.func109, Try.ntmps109
    go_wp2_with (first
      | (go_at_call 126; ((with_reducible refine (Hc0.out _ (h.alloc _)).mono ?_); rintro e w1 ⟨rfl, x0, rfl⟩; (try dsimp only [])))
      | (go_at_call 129; ((with_reducible refine (Hc1.out _ (((h.alloc _).ext _).alloc _)).mono ?_); rintro e w1 ⟨rfl, x1, rfl⟩; (try dsimp only []))))
    (try simp only [Exit.inBlock, Exit.then])
    refine postR_of (by simp only [results, Try.results109]; go_simp <;> rfl) rfl (by (repeat (first | (with_reducible exact Grow.refl _) | assumption | refine Grow.ext ?_ _ | refine Grow.alloc ?_ _ | refine Grow.drew ?_ | refine Grow.setCell ?_ (by first | (simp; done) | (simp; omega)) _ | refine Grow.trans ?_ (by assumption)))) ?_
    rfl
  · obtain ⟨q1, Hq1⟩ : ∃ q, Hid (q = rdNum b 0 15 q0.2) := ⟨_, Lib.hid rfl⟩
    have Hc1 : Hid (∀ W2, RdW 93 rb bv b W2 → Calls Try.prog 73 #[.pointer (some ⟨rb, 0, none⟩), .int .i64 0, .int .i64 15] (W2 q0.2) (Rdn W2 (.int .i64 q1.1) q1.2)) := Lib.hid (fun W2 h2 => by rw [Hq1.out]; exact decode_num_int h2 q0.2 hz0 0 15 (by omega) (by omega))
    have hz1 : q1.2.at' ≤ b.length := by rw [Hq1.out]; exact rdNum_at hb hz0
    have Hr : Hid (rdSt b s = (⟨3, ⟨0, false, 0⟩, ⟨0, 0, 0, ⟨0, 0, ⟨0, false, 0⟩⟩, ⟨0, 0, ⟨0, false, 0⟩⟩, ⟨0, false, 0⟩⟩, ⟨0, 0, ⟨0, false, 0⟩⟩, q1.1⟩, q1.2)) := Lib.hid (by unfold rdSt; simp only [← Hq0.out]; (try rw [if_neg (by rw [hk]; decide)]); (try rw [if_neg (by rw [hk]; decide)]); (try rw [if_neg (by rw [hk]; decide)]); (try rw [if_neg (by rw [hk]; decide)]); (try rw [if_neg (by rw [hk]; decide)]); (try rw [if_pos hk]); try simp only [← Hq1.out]; (first | done | rfl | (rw [hk]; rfl)))
    rw [Hr.out]
    clear Hr hb hz0 hz1
    clear Hq1 Hq0
    obtain ⟨u0, s0⟩ := q0
    obtain ⟨u1, s1⟩ := q1
    simp only at hk
    subst hk
    go_enter Try.func109, Try.ntmps109
    go_wp2_with (first
      | (go_at_call 126; ((with_reducible refine (Hc0.out _ (h.alloc _)).mono ?_); rintro e w1 ⟨rfl, x0, rfl⟩; (try dsimp only [])))
      | (go_at_call 73; ((with_reducible refine (Hc1.out _ (((h.alloc _).ext _).alloc _)).mono ?_); rintro e w1 ⟨rfl, x1, rfl⟩; (try dsimp only []))))
    (try simp only [Exit.inBlock, Exit.then])
    refine postR_of (by simp only [results, Try.results109]; go_simp <;> rfl) rfl (by (repeat (first | (with_reducible exact Grow.refl _) | assumption | refine Grow.ext ?_ _ | refine Grow.alloc ?_ _ | refine Grow.drew ?_ | refine Grow.setCell ?_ (by first | (simp; done) | (simp; omega)) _ | refine Grow.trans ?_ (by assumption)))) ?_
    rfl
  · obtain ⟨q1, Hq1⟩ : ∃ q, Hid (q = rdOpd b q0.2) := ⟨_, Lib.hid rfl⟩
    have Hc1 : Hid (∀ W2, RdW 93 rb bv b W2 → Calls Try.prog 129 #[.pointer (some ⟨rb, 0, none⟩)] (W2 q0.2) (Rdn W2 q1.1.v q1.2)) := Lib.hid (fun W2 h2 => by rw [Hq1.out]; exact decode_operand h2 q0.2 hz0)
    have hz1 : q1.2.at' ≤ b.length := by rw [Hq1.out]; exact rdOpd_at hb hz0
    have Hr : Hid (rdSt b s = (⟨4, ⟨0, false, 0⟩, ⟨0, 0, 0, ⟨0, 0, ⟨0, false, 0⟩⟩, ⟨0, 0, ⟨0, false, 0⟩⟩, ⟨0, false, 0⟩⟩, q1.1, 0⟩, q1.2)) := Lib.hid (by unfold rdSt; simp only [← Hq0.out]; (try rw [if_neg (by rw [hk]; decide)]); (try rw [if_neg (by rw [hk]; decide)]); (try rw [if_neg (by rw [hk]; decide)]); (try rw [if_neg (by rw [hk]; decide)]); (try rw [if_neg (by rw [hk]; decide)]); (try rw [if_pos hk]); try simp only [← Hq1.out]; (first | done | rfl | (rw [hk]; rfl)))
    rw [Hr.out]
    clear Hr hb hz0 hz1
    clear Hq1 Hq0
    obtain ⟨u0, s0⟩ := q0
    obtain ⟨⟨k1, n1, ⟨l1, d1, f1⟩⟩, s1⟩ := q1
    simp only at hk
    subst hk
    go_enter Try.func109, Try.ntmps109
    go_wp2_with (first
      | (go_at_call 126; ((with_reducible refine (Hc0.out _ (h.alloc _)).mono ?_); rintro e w1 ⟨rfl, x0, rfl⟩; (try dsimp only [])))
      | (go_at_call 129; ((with_reducible refine (Hc1.out _ (((h.alloc _).ext _).alloc _)).mono ?_); rintro e w1 ⟨rfl, x1, rfl⟩; (try dsimp only []))))
    (try simp only [Exit.inBlock, Exit.then])
    refine postR_of (by simp only [results, Try.results109]; go_simp <;> rfl) rfl (by (repeat (first | (with_reducible exact Grow.refl _) | assumption | refine Grow.ext ?_ _ | refine Grow.alloc ?_ _ | refine Grow.drew ?_ | refine Grow.setCell ?_ (by first | (simp; done) | (simp; omega)) _ | refine Grow.trans ?_ (by assumption)))) ?_
    rfl
end Go.Proofs.Ytafcdabiplcjiaa
