/- A box that holds a slice of bytes to which functions append: what they leave alone. -/
import Derived.Test.YtafcdabiplcjiaaL01
import Derived.Test.YtafcdabiplcjiaaReg
namespace Go.Proofs.Ytafcdabiplcjiaa
open Go.RowKit
set_option linter.unusedSimpArgs false
set_option linter.unusedVariables false

theorem Own.open' {α : Type} [Rp α] {F : Nat → Prop} {base : Nat} {e : TypeId} {w : World} {v : Value} {xs : List α} (h : Own F base e w v xs) : ∃ a n cap, v = .slice a n cap ∧ Hid (n = xs.length) ∧ n ≤ 140737488355328 ∧ Own F base e w (.slice a n cap) xs := by
  obtain ⟨a, cap, rfl, hl⟩ := h.shape
  exact ⟨a, _, cap, rfl, Lib.hid rfl, hl, h⟩
/-- The row of the slice in box b. -/
def rowOf (b : Nat) (w : World) : Option Nat := match w.cell? ⟨b, 0, none⟩ with
  | some v => v.ownBlock
  | none => none
theorem rowOf_at {b : Nat} {w : World} {v : Value} (h : w.cell? ⟨b, 0, none⟩ = some v) : rowOf b w = v.ownBlock := by unfold rowOf; rw [h]
theorem rowOf_grow {b : Nat} {w w' : World} (g : Grow w w') (hb : b < w.heap.size) : rowOf b w' = rowOf b w := by
  unfold rowOf; rw [g.cell (p := ⟨b, 0, none⟩) hb]
/-- Box b holds a slice of a row of its own, from block b + 1 on: bs. -/
structure Wri (T : TypeId) (b : Nat) (w : World) (v : Value) (bs : List Nat) : Prop where
  box : w.heap[b]? = some (.cells #[v] T (0, 0))
  own : Own (fun _ => False) (b + 1) 5 w v bs
theorem Wri.lt {T : TypeId} {b : Nat} {w : World} {v : Value} {bs : List Nat} (h : Wri T b w v bs) : b < w.heap.size := (Array.getElem?_eq_some_iff.1 h.box).1
theorem Wri.ltw {T : TypeId} {b : Nat} {w : World} {v : Value} {bs : List Nat} (h : Wri T b w v bs) : LtW b w := ⟨h.lt⟩
theorem Wri.cell {T : TypeId} {b : Nat} {w : World} {v : Value} {bs : List Nat} (h : Wri T b w v bs) : w.cell? ⟨b, 0, none⟩ = some v := by simp [World.cell?, h.box]
theorem Wri.free {T : TypeId} {b : Nat} {w : World} {v : Value} {bs : List Nat} (h : Wri T b w v bs) : w.frozen? ⟨b, 0, none⟩ = false := by simp [World.frozen?, h.box]
theorem Wri.rowOf {T : TypeId} {b : Nat} {w : World} {v : Value} {bs : List Nat} (h : Wri T b w v bs) : rowOf b w = v.ownBlock := rowOf_at h.cell
theorem Wri.grow {T : TypeId} {b : Nat} {w w' : World} {v : Value} {bs : List Nat} (h : Wri T b w v bs) (g : Grow w w') : Wri T b w' v bs :=
  ⟨by rw [g.block b h.lt]; exact h.box, h.own.mono g⟩
theorem Wri.row_lt {T : TypeId} {b : Nat} {w : World} {v : Value} {bs : List Nat} (h : Wri T b w v bs) : ∀ k, Go.Proofs.Ytafcdabiplcjiaa.rowOf b w = some k → b < k ∧ k < w.heap.size := fun k hk => by
  rw [h.rowOf] at hk; have := h.own.row_lt k hk; omega
/-- Nothing that was there is written but box b and its row. -/
structure Chg (b : Nat) (w w' : World) : Prop where
  os : w'.os = w.os
  tape : w'.tape = w.tape
  output : w'.output = w.output
  size : w.heap.size ≤ w'.heap.size
  block : ∀ k, k < w.heap.size → k ≠ b → rowOf b w ≠ some k → w'.heap[k]? = w.heap[k]?
  row : ∀ k, rowOf b w' = some k → rowOf b w = some k ∨ w.heap.size ≤ k
theorem Chg.refl (b : Nat) (w : World) : Chg b w w := ⟨rfl, rfl, rfl, Nat.le_refl _, fun _ _ _ _ => rfl, fun _ h => Or.inl h⟩
theorem Chg.trans {b : Nat} {w1 w2 w3 : World} (h : Chg b w1 w2) (k : Chg b w2 w3) : Chg b w1 w3 :=
  ⟨k.os.trans h.os, k.tape.trans h.tape, k.output.trans h.output, Nat.le_trans h.size k.size,
   fun i hi hb hr => by
    rw [k.block i (Nat.lt_of_lt_of_le hi h.size) hb (fun e => by rcases h.row i e with q | q; exact hr q; omega), h.block i hi hb hr],
   fun i hi => by
    rcases k.row i hi with q | q
    · exact h.row i q
    · exact Or.inr (Nat.le_trans h.size q)⟩
theorem Chg.of_grow {b : Nat} {w w' : World} (g : Grow w w') (hb : b < w.heap.size) : Chg b w w' :=
  ⟨g.os, g.tape, g.output, g.size, fun k hk _ _ => g.block k hk, fun k hk => Or.inl (by rw [← rowOf_grow g hb]; exact hk)⟩
theorem Chg.agr {b : Nat} {w w' : World} (h : Chg b w w') {F : Nat → Prop} (hF : ∀ k, F k → k < w.heap.size → k ≠ b ∧ rowOf b w ≠ some k) : Agr F w w' :=
  fun k hk hlt => h.block k hlt (hF k hk hlt).1 (hF k hk hlt).2
/-- Memory older than the box. -/
theorem Chg.agr_lt {T : TypeId} {b : Nat} {w w' : World} {v : Value} {bs : List Nat} (h : Chg b w w') (hw : Wri T b w v bs) : Agr (fun k => k < b) w w' :=
  h.agr fun k hk _ => ⟨Nat.ne_of_lt hk, fun e => by have := hw.row_lt k e; omega⟩
theorem Chg.to_grow {T : TypeId} {b : Nat} {W w w' : World} {v : Value} {bs : List Nat} (h : Chg b w w') (hw : Wri T b w v bs) (hW : Grow W w) (hb : W.heap.size ≤ b) : Grow W w' :=
  ⟨h.os.trans hW.os, h.tape.trans hW.tape, h.output.trans hW.output, Nat.le_trans hW.size h.size, fun k hk => by
    rw [h.block k (Nat.lt_of_lt_of_le hk hW.size) (by omega) (fun e => by have := hw.row_lt k e; omega), hW.block k hk]⟩
/-- A box of the caller's own stays literal. -/
theorem Chg.mid {b : Nat} {A w w' : World} {o : Obj} (h : Chg b w w') (hg : Grow (A.alloc o) w) (hb : b < A.heap.size) (hr : rowOf b w ≠ some A.heap.size) :
    ∃ (A' : World) (x' : Ext), w' = ext (A'.alloc o) x' ∧ A'.heap.size = A.heap.size := by
  have hs : A.heap.size < w.heap.size := by have := hg.size; simp at this; omega
  have hs' : A.heap.size < w'.heap.size := Nat.lt_of_lt_of_le hs h.size
  have hat : w'.heap[A.heap.size]? = some o := by
    rw [h.block A.heap.size hs (by omega) hr, hg.block A.heap.size (by simp)]
    show (A.heap.push o)[_]? = _; simp
  have e : w' = ext (({ w' with heap := w'.heap.extract 0 A.heap.size } : World).alloc o) ⟨w'.drawn, w'.heap.extract (A.heap.size + 1) w'.heap.size⟩ := by
    have e1 : w'.heap = ((w'.heap.extract 0 A.heap.size).push o) ++ w'.heap.extract (A.heap.size + 1) w'.heap.size := by
      apply Array.ext_getElem?
      intro i
      by_cases hi : i < A.heap.size
      · rw [Array.getElem?_append_left (by simp; omega), Array.getElem?_push, if_neg (by simp; omega), Array.getElem?_extract, if_pos (by omega)]; simp
      · by_cases hi2 : i = A.heap.size
        · subst hi2; rw [hat, Array.getElem?_append_left (by simp; omega), Array.getElem?_push, if_pos (by simp; omega)]
        · rw [Array.getElem?_append_right (by simp; omega)]
          by_cases hj : i < w'.heap.size
          · rw [Array.getElem?_extract, if_pos (by simp; omega)]; congr 1; simp; omega
          · rw [Array.getElem?_eq_none (by omega), Array.getElem?_eq_none (by simp; omega)]
    have e2 : ∀ (u : World) (hp : Array Obj), u.heap = hp → u = { u with heap := hp } := by rintro u hp rfl; rfl
    exact e2 w' _ e1
  exact ⟨_, _, e, by simp; omega⟩
/-- The state of a method that has one box of its own, at N: entry world w0, world w. -/
structure Ws (T : TypeId) (b N : Nat) (w0 w : World) (bs : List Nat) : Prop where
  wri : ∃ v, Wri T b w v bs
  chg : Chg b w0 w
  row : rowOf b w ≠ some N
theorem Ws.chg' {T : TypeId} {b N : Nat} {w0 w : World} {bs : List Nat} (h : Ws T b N w0 w bs) : Chg b w0 w := h.chg
theorem Ws.start {T : TypeId} {b : Nat} {w : World} {o : Obj} {v : Value} {bs : List Nat} (h : Wri T b w v bs) : Ws T b w.heap.size w (w.alloc o) bs :=
  ⟨⟨v, h.grow (Grow.alloc (Grow.refl _) o)⟩, Chg.of_grow (Grow.alloc (Grow.refl _) o) h.lt, fun e => by
    rw [rowOf_grow (Grow.alloc (Grow.refl _) o) h.lt] at e; have := h.row_lt _ e; omega⟩
theorem Ws.grow {T : TypeId} {b N : Nat} {w0 w w' : World} {bs : List Nat} (h : Ws T b N w0 w bs) (g : Grow w w') : Ws T b N w0 w' bs := by
  obtain ⟨⟨v, hw⟩, hc, hr⟩ := h
  exact ⟨⟨v, hw.grow g⟩, hc.trans (Chg.of_grow g hw.lt), by rw [rowOf_grow g hw.lt]; exact hr⟩
/-- Behind a call that appends. -/
theorem Ws.step {T : TypeId} {b N : Nat} {w0 w w' A : World} {o : Obj} {bs bs' : List Nat} (h : Ws T b N w0 w bs) (hg : Grow (A.alloc o) w) (hA : A.heap.size = N) (hb : b < N) (hw : ∃ v, Wri T b w' v bs') (hc : Chg b w w') :
    ∃ (A' : World) (x' : Ext), w' = ext (A'.alloc o) x' ∧ A'.heap.size = N ∧ Ws T b N w0 w' bs' := by
  obtain ⟨⟨v, hv⟩, hc0, hr⟩ := h
  subst hA
  obtain ⟨A', x', e, hs⟩ := hc.mid hg hb hr
  refine ⟨A', x', e, hs, hw, hc0.trans hc, fun q => ?_⟩
  rcases hc.row _ q with q | q
  · exact hr q
  · have := hg.size; simp at this; omega
/-- What a method leaves that appends. -/
def Wrote (T : TypeId) (b : Nat) (w : World) (bs : List Nat) (e : Ending) (w' : World) : Prop := e = .returned (.tuple #[]) ∧ (∃ v, Wri T b w' v bs) ∧ Chg b w w'

/-- append(v, ys...): what is written is known. -/
theorem run_appT {P : Program} {α : Type} [Rp α] {t ty e : TypeId} {bytes : Nat} (T : SlT P t e (Rp.sz α) bytes) (hone : ∀ (G : Nat → Prop) (w : World) (x : α) cs, Rp.R G w x cs → ∀ u ∈ cs, u.oneCell' = true)
    {F Fy : Nat → Prop} {base : Nat} {w : World} {v : Value} {xs ys : List α} (hown : Own F base e w v xs) (hb : base ≤ w.heap.size) {ax : Option Addr} {m c : Nat} (hs : Sl Fy w (.slice ax m c) ys)
    {Gy : Nat → Prop} (hRG : ∀ (x : α) cs, Rp.R Fy w x cs → Rp.R Gy w x cs) (hGy : ∀ k, Gy k → k < w.heap.size ∧ (F k ∨ base ≤ k) ∧ v.ownBlock ≠ some k) (hbytes : (xs.length + m) * bytes ≤ 140737488355328) (hnm : xs.length + m ≤ 140737488355328) :
    ∃ v' w', (Builtin.append_ #[t, t] ty #[v, .slice ax m c]).run P w = .ok v' w' ∧ Own F base e w' v' (xs ++ ys) ∧ w.grownBy w' v.ownBlock ∧ (v'.ownBlock = v.ownBlock ∨ v'.ownBlock = some w.heap.size) := by
  by_cases hm : 0 < m
  · have hlen := hs.len
    obtain ⟨b, off, css, rfl, hl, hR, hc, hfl⟩ := hs.rows hm
    obtain ⟨G, ds, hG, hld, hRs, hn, hor⟩ := id hown
    obtain ⟨v', w', hr, h2, h3, h4⟩ := run_app (P := P) w base t ty e _ bytes T v _ _ hor ⟨b, off, none⟩ m c css.flatten hfl hc (fun u hu => by
      obtain ⟨cs, hcs, hu⟩ := List.mem_flatten.1 hu
      obtain ⟨i, hi, rfl⟩ := List.getElem_of_mem hcs
      exact hone _ _ _ _ (hR i (by omega) hi) u hu) hm hbytes hnm hb
    exact ⟨v', w', hr, Own.snoc (Gy := Gy) hG hld hRs hGy hl (fun i h h' => hRG _ _ (hR i h h')) (by omega) (by rw [← hlen]; exact h2) h3 h4, h3, h4⟩
  · obtain rfl : m = 0 := by omega
    have hlen := hs.len
    obtain rfl : ys = [] := List.eq_nil_of_length_eq_zero hlen.symm
    obtain ⟨a0, cap0, rfl, hle⟩ := hown.shape
    have hle' : xs.length ≤ cap0 := by
      obtain ⟨_, n0, _, hv, _, _, q, _⟩ := hown.sl.open
      injection hv with _ e2 e3; omega
    obtain ⟨i, z, hi, hz, hsize, hby, hzs⟩ := T.ex
    refine ⟨_, w, run_append_nothing (P := P) w t t ty e i T.ut hi a0 xs.length cap0 hle' (.slice ax 0 c) ⟨.inl ⟨e, T.ut⟩, fun w' => ?_, ?_, ?_, by simp, fun u hu => by cases hu⟩, by simpa using hown, ⟨rfl, rfl, rfl, Nat.le_refl _, fun _ _ _ => rfl⟩, Or.inl rfl⟩
    · simp [Builtin.lenOf]
    · cases ax <;> simp [Builtin.firstCells, loadCells, loadCellsFrom]
    · cases ax <;> simp [Builtin.firstCells, loadCells, loadCellsFrom]
/-- append(v, ys...) of bytes, as a step. -/
theorem wpList_appB {P : Program} {ops : Array Oper} {rest : List Oper} {o : Oper} {a : Act} {w : World} {Q : Exit → Act → World → Prop} {s x : Operand} {t e : TypeId}
    (T : SlT P t e 1 1) (hgd : o.guard = none)
    (ho : o.op = .call { callee := .builtin .append, args := #[s, x], argTypes := #[t, t] }) {base : Nat} {v : Value} {xs ys : List Nat} (hs : a.eval s = v) {ax : Option Addr} {m c : Nat} (hx : a.eval x = .slice ax m c)
    (hb : base ≤ w.heap.size) {F : Nat → Prop} (hown : Own (fun _ => False) base e w v xs) (hsl : Sl F w (.slice ax m c) ys)
    (hnm : xs.length + m ≤ 140737488355328)
    (h : ∀ v' w', w.grownBy w' v.ownBlock → Own (fun _ => False) base e w' v' (xs ++ ys) → (v'.ownBlock = v.ownBlock ∨ v'.ownBlock = some w.heap.size) → wpList P ops Q rest (a.put o.dst v') w') : wpList P ops Q (o :: rest) a w := by
  obtain ⟨v', w', hr, hO, hg, hv⟩ := run_appT (P := P) (ty := o.type) (α := Nat) T one_u8 hown hb hsl (Gy := fun _ => False) (fun _ _ h => h) (fun _ h => h.elim) (by simpa using hnm) hnm
  refine wpList_plain hgd fun _ hK => ?_
  unfold Oper.wp execOp
  simp only [ho, resolve, invoke, builtin, Sem.run_bind, Sem.run_pure, Result.andThen_ok, List.map_toArray, List.map_cons, List.map_nil, hs, hx, hr]
  exact hK _ _ (h v' w' hg hO hv)
/-- Behind the append, ahead of the store. -/
theorem Wri.ahead {T : TypeId} {b : Nat} {w w1 : World} {v : Value} {bs : List Nat} (h : Wri T b w v bs) (hg : w.grownBy w1 v.ownBlock) : LtW b w1 ∧ w1.cell? ⟨b, 0, none⟩ = some v ∧ w1.frozen? ⟨b, 0, none⟩ = false := by
  have hb1 : w1.heap[b]? = some (.cells #[v] T (0, 0)) := by
    rw [hg.block b h.lt (fun e => by have := h.own.row_lt b e.symm; omega)]; exact h.box
  exact ⟨⟨(Array.getElem?_eq_some_iff.1 hb1).1⟩, by simp [World.cell?, hb1], by simp [World.frozen?, hb1]⟩
/-- The box's slice has been appended to, and is stored in the box. -/
theorem Wri.stored {T : TypeId} {b : Nat} {w w1 : World} {v v' : Value} {bs bs' : List Nat} (h : Wri T b w v bs) (hg : w.grownBy w1 v.ownBlock) (ho : Own (fun _ => False) (b + 1) 5 w1 v' bs') (hv : v'.ownBlock = v.ownBlock ∨ v'.ownBlock = some w.heap.size) :
    Wri T b (w1.setCell ⟨b, 0, none⟩ v') v' bs' ∧ Chg b w (w1.setCell ⟨b, 0, none⟩ v') := by
  have hb1 : w1.heap[b]? = some (.cells #[v] T (0, 0)) := by
    rw [hg.block b h.lt (fun e => by have := h.own.row_lt b e.symm; omega)]; exact h.box
  have hlt : b < w1.heap.size := (Array.getElem?_eq_some_iff.1 hb1).1
  have hbx : (w1.setCell ⟨b, 0, none⟩ v').heap[b]? = some (.cells #[v'] T (0, 0)) := by
    simp only [World.setCell, Array.getElem?_modify, if_true, hb1, Option.map_some]; rfl
  have hne : ∀ k, k ≠ b → (w1.setCell ⟨b, 0, none⟩ v').heap[k]? = w1.heap[k]? := fun k hk => by
    simp only [World.setCell, Array.getElem?_modify, if_neg (Ne.symm hk)]
  have hsz : (w1.setCell ⟨b, 0, none⟩ v').heap.size = w1.heap.size := by simp [World.setCell]
  have hw : Wri T b (w1.setCell ⟨b, 0, none⟩ v') v' bs' := ⟨hbx, ho.keep (fun k hk hlt => by
    rcases hk with hk | hk
    · exact hk.elim
    · exact hne k (by omega)) (by rw [hsz]; exact Nat.le_refl _)⟩
  refine ⟨hw, ⟨hg.os, hg.tape, hg.output, by rw [hsz]; exact hg.size, fun k hk hkb hr => ?_, fun k hk => ?_⟩⟩
  · rw [hne k hkb, hg.block k hk (fun e => hr (by rw [h.rowOf, e]))]
  · rw [hw.rowOf] at hk; rw [h.rowOf]
    rcases hv with hv | hv
    · left; rw [← hv]; exact hk
    · right; rw [hv] at hk; injection hk with hk; omega
section
variable {P : Program} {Q : Exit → Act → World → Prop} {C : World → Prop}
/-- No call: with conversions and checks for nil. -/
def plainX : Op → Bool
  | .nilCheck _ | .convert .. | .index .. => true
  | o => plainOp o
theorem plainX_way {o : Oper} (h : plainX o.op = true) (ρ : Operand → Value) (w w' : World) : (∀ f args, (execOp ρ o).run P w ≠ .ok (.enter f args) w') ∧ (execOp ρ o).run P w ≠ .ok .skip w' := by
  by_cases hp : plainOp o.op = true
  · exact ⟨fun f args => plain_enter hp ρ w f args w', plain_skip hp ρ w w'⟩
  obtain ⟨d, op, t, pos, af, g⟩ := o
  have key : ∀ (s : Sem Value), (∀ f args, Sem.run P (do let x ← s; pure (Next.value x)) w ≠ .ok (.enter f args) w') ∧ Sem.run P (do let x ← s; pure (Next.value x)) w ≠ .ok .skip w' := by
    intro s
    simp only [Sem.run_bind]
    cases s.run P w with
    | ok u w2 => simp [Result.andThen]
    | halt x w2 => simp [Result.andThen]
  cases op <;> simp only [plainX, Bool.false_eq_true] at h <;> first | exact absurd h hp | skip
  all_goals simp only [execOp]
  all_goals first
    | exact key _
    | skip
  split
  any_goals (simp [go_sem]; done)
  all_goals (try (split; all_goals (try (simp [go_sem]; done))))
  all_goals (simp only [Sem.run_bind])
  all_goals (generalize Sem.run P _ w = r; cases r with | ok u w2 => (simp only [Result.andThen]; generalize Sem.run P _ w2 = r2; cases r2 with | ok u w2 => (simp only [Result.andThen]; split <;> simp [go_sem]) | halt x w2 => simp [Result.andThen]) | halt x w2 => simp [Result.andThen])
theorem J_quietX {l : List Oper} {fuel : Nat} {listed : Array Bool} {a : Act} {w : World} (i : Nat) {o : Oper} (hi : pickN l i = some o) (hB : takeB l.toArray listed i = true)
    (hp : plainX o.op = true ∨ Region.wanted o (yielded l.toArray a.tmps) = false) (hS : C w)
    (h : wpQuiet P l.toArray C (fun a' => wpAnyH P .any l.toArray (Nrm Q) C fuel (listed.setIfInBounds i true) a' w) [o] a) : wpAnyH P .any l.toArray (Nrm Q) C (fuel + 1) listed a w := by
  have hi' := (pickN_eq l i).trans hi
  simp only [takeB, Bool.and_eq_true] at hB
  unfold wpQuiet at h
  by_cases hw : Region.wanted o (yielded l.toArray a.tmps) = true
  · rw [if_pos hw] at h
    obtain ⟨v, h1, h2⟩ := h
    have hpl : plainX o.op = true := hp.resolve_right (by rw [hw]; decide)
    refine wpAnyH_take hi' hB.1 hB.2.2 hB.2.1 (fun _ _ _ h => (h : False).elim) (.inl ⟨hw, fun w' g => ?_⟩) hS h2
    have q := h1 w' g
    unfold Oper.quietAt at q
    have n1 := fun w2 => (plainX_way (P := P) hpl a.eval w' w2).1
    have n2 := fun w2 => (plainX_way (P := P) hpl a.eval w' w2).2
    generalize (execOp a.eval o).run P w' = r at q n1 n2
    cases r with
    | halt y w2 => exact q.elim
    | ok n w2 =>
      cases n with
      | value u => obtain ⟨rfl, rfl⟩ := q; rfl
      | skip => exact absurd rfl (n2 w2)
      | enter f args => exact absurd rfl (n1 w2 f args)
      | _ => exact q.elim
  · rw [if_neg hw] at h
    exact wpAnyH_take hi' hB.1 hB.2.2 hB.2.1 (fun _ _ _ h => (h : False).elim) (.inr ⟨by simpa using hw, rfl⟩) hS h
end
end Go.Proofs.Ytafcdabiplcjiaa
