/- Layer 10: the law of the names: examples, ranges, limits, errors. -/
import Derived.Test.YtafcdabiplcjiaaL10s
import Derived.Test.YtafcdabiplcjiaaL10v
import Derived.Laws.OwnMore
import Derived.Lib.SmallJoins
namespace Go.Proofs.Ytafcdabiplcjiaa
open Go.RowKit
set_option linter.unusedSimpArgs false
set_option linter.unusedVariables false

/-- A string of few bytes. -/
structure Str where
  b : List Nat
def Str.ok (s : Str) : Prop := (∀ x ∈ s.b, x < 256) ∧ s.b.length ≤ 100
instance : Rp Str where
  sz := 1
  R _ _ s cs := cs = [.string (strB s.b)] ∧ s.ok
  len h := by obtain ⟨rfl, _⟩ := h; rfl
  keep _ h := h
  wide _ h := h
theorem sz_str : Rp.sz Str = 1 := rfl
theorem slT_str : SlT Try.prog 67 9 1 16 := SlT.mk' (z := .string ⟨#[]⟩) Try.underlying67 (by kernel_rfl) rfl (by omega)
theorem Sl.str {F : Nat → Prop} {w : World} {a : Option Addr} {n cap : Nat} {ts : List Str} (h : Sl F w (.slice a n cap) ts) (i : Nat) (hi : i < n) : ∃ b off x, a = some ⟨b, off, none⟩ ∧ Hid (ts[i]? = some x) ∧ LtW b w ∧ x.ok ∧ w.cell? ⟨b, off + i, none⟩ = some (.string (strB x.b)) := by
  obtain ⟨b, off, x, cs, ha, hx, hlt, ⟨rfl, hw⟩, hc⟩ := h.get i hi
  exact ⟨b, off, x, ha, hx, hlt, hw, by have := hc 0 (by simp); simpa [sz_str] using this⟩
theorem flat_ones {α : Type} (f : α → Value) : ∀ l : List α, (l.map (fun s => [f s])).flatten = l.map f
  | [] => rfl
  | x :: l => by simp [flat_ones f l]
/-- Literal strings in a block of their own. -/
theorem own_lit {base g n : Nat} {e : TypeId} {w : World} {xs : List Str} (hn : n = xs.length) (hg : w.heap[g]? = some (.cells (xs.map fun s => Value.string (strB s.b)).toArray e)) (hb : base ≤ g) (hok : ∀ s ∈ xs, s.ok) (hl : xs.length ≤ 1000) :
    Own (fun _ => False) base e w (.slice (some ⟨g, 0, none⟩) n n) xs := by
  subst hn
  refine ⟨fun _ => False, xs.map (fun s => [Value.string (strB s.b)]), fun _ h => h.elim, by simp, (fun i h h' => by simp only [List.getElem_map]; exact ⟨rfl, hok _ (List.getElem_mem h)⟩), by omega, ?_, .inr ⟨g, xs.length, _, rfl, hb, hg, Nat.le_refl _, by unfold maxLen; omega, by simp [sz_str], ?_⟩⟩
  · rw [flat_ones]; simp [sz_str]
  · rw [flat_ones, sz_str, Nat.mul_one, List.take_of_length_le (by simp)]
/-- append(v, y): with where the row lies. -/
theorem wpList_appO {α : Type} [Rp α] {P : Program} {ops : Array Oper} {rest : List Oper} {o : Oper} {a : Act} {w W0 : World} {x0 : Ext} {Q : Exit → Act → World → Prop} {s x : Operand} {t e : TypeId} {bytes : Nat}
    (T : SlT P t e (Rp.sz α) bytes) (hgd : o.guard = none) (ho : o.op = .call { callee := .builtin .append, args := #[s, x], argTypes := #[t, t] })
    {F : Nat → Prop} {base : Nat} {v : Value} {xs : List α} (hs : a.eval s = v) (hown : Own F base e (ext W0 x0) v xs) (hgr : Grow (ext W0 x0) w) (hb : W0.heap.size ≤ base) (hbs : base ≤ w.heap.size)
    {b off c : Nat} (hx : a.eval x = .slice (some ⟨b, off, none⟩) 1 c) {y : α} {cs : List Value} {Gy : Nat → Prop} (hR : Rp.R Gy w y cs) (hGy : ∀ k, Gy k → k < w.heap.size ∧ (F k ∨ base ≤ k) ∧ v.ownBlock ≠ some k)
    (hc : CellsAt w b off cs) (h1 : cs.all (·.oneCell') = true) (hlen : (xs.length + 1) * bytes ≤ 140737488355328) (hlen' : xs.length + 1 ≤ 140737488355328)
    (h : ∀ v' x', Own F base e (ext W0 x') v' (xs ++ [y]) → (∀ G : Nat → Prop, (∀ k, G k → k < (ext W0 x0).heap.size → v.ownBlock ≠ some k) → Agr G (ext W0 x0) (ext W0 x')) → (v'.ownBlock = v.ownBlock ∨ v'.ownBlock = some w.heap.size) → wpList P ops Q rest (a.put o.dst v') (ext W0 x')) :
    wpList P ops Q (o :: rest) a w := by
  obtain ⟨G, css, hG, hl, hRs, hn, hor⟩ := hown.mono hgr
  have hcl : cs.length = Rp.sz α := Rp.len hR
  obtain ⟨v', w', hr, h2, h3, h4⟩ := run_app (P := P) w base t o.type e _ bytes T v _ _ hor ⟨b, off, none⟩ 1 c cs (by rw [hcl]; simp) (fun j u hu => by
    obtain ⟨hj, rfl⟩ := List.getElem?_eq_some_iff.1 hu
    rw [Addr.add_lit]; exact hc j hj) (fun u hu => (List.all_eq_true.1 h1) u hu) (by omega) hlen hlen' hbs
  have hrow : ∀ k, v.ownBlock = some k → base ≤ k ∧ k < (ext W0 x0).heap.size := hown.row_lt
  have hgw : Grow W0 w := (grow_ext W0 x0).trans hgr
  have hg0 : Grow W0 w' := ⟨h3.os.trans hgw.os, h3.tape.trans hgw.tape, h3.output.trans hgw.output, Nat.le_trans hgw.size h3.size, fun k hk => by
    rw [h3.block k (Nat.lt_of_lt_of_le hk hgw.size) (fun e => by have := hrow k e.symm; omega), hgw.block k hk]⟩
  obtain ⟨x', rfl⟩ := ext_of_grow hg0
  have hOwn : Own F base e (ext W0 x') v' (xs ++ [y]) := Own.snoc (ds := [cs]) (Gy := Gy) hG hl hRs hGy rfl (fun i h h' => match i, h with | 0, _ => hR) hlen' (by simpa using h2) h3 h4
  refine wpList_plain hgd fun _ hK => ?_
  unfold Oper.wp execOp
  simp only [ho, resolve, invoke, builtin, Sem.run_bind, Sem.run_pure, Result.andThen_ok, List.map_toArray, List.map_cons, List.map_nil, hs, hx, hr]
  refine hK _ _ (h v' x' hOwn (fun G' hG' k hk hlt => ?_) h4)
  rw [h3.block k (Nat.lt_of_lt_of_le hlt hgr.size) (fun e => hG' k hk hlt e.symm), hgr.block k hlt]
def bads0 : List Str := [⟨[0]⟩, ⟨[9]⟩, ⟨[1, 9]⟩, ⟨[1, 0, 2]⟩, ⟨[1, 0, 0, 0]⟩, ⟨[1, 0, 0, 17]⟩, ⟨[1, 0, 0, 1, 8]⟩, ⟨[1, 0, 0, 1, 0, 0]⟩, ⟨[1, 0, 0, 1, 0, 25]⟩, ⟨[1, 0, 0, 1, 0, 1, 25]⟩]
def tails : List Str := [⟨[1, 0]⟩, ⟨[1, 5]⟩, ⟨[1, 1, 96]⟩, ⟨[1, 1, 0, 0]⟩, ⟨[1, 1, 0, 6]⟩, ⟨[1, 1, 0, 1, 0]⟩, ⟨[1, 1, 0, 1, 4]⟩, ⟨[1, 1, 0, 1, 2, 96]⟩, ⟨[1, 1, 0, 2, 0]⟩, ⟨[1, 1, 0, 2, 7]⟩, ⟨[1, 1, 0, 4, 0]⟩, ⟨[1, 1, 0, 4, 4]⟩, ⟨[1, 1, 0, 5, 96]⟩, ⟨[1, 3, 16]⟩, ⟨[0, 0]⟩, ⟨[0, 6]⟩, ⟨[0, 1, 24]⟩, ⟨[0, 2, 1, 0, 24]⟩, ⟨[0, 2, 1, 0, 0, 24]⟩, ⟨[0, 4, 8]⟩, ⟨[0, 4, 0, 9]⟩, ⟨[0, 4, 0, 0, 96]⟩, ⟨[0, 4, 0, 0, 0, 24]⟩]
def withHead (s : Str) : Str := ⟨[1, 0, 0, 1, 0, 1] ++ s.b⟩
theorem bads_ok : (∀ s ∈ bads0, (∀ x ∈ s.b, x < 256) ∧ s.b.length ≤ 100) ∧ (∀ s ∈ tails, (∀ x ∈ s.b, x < 256) ∧ s.b.length ≤ 94) := by decide +kernel
theorem bads_range : ∀ s ∈ bads0 ++ tails.map withHead, decPr s.b = (⟨[]⟩, 16) := by decide +kernel
theorem errs_are : decPr [129, 0] = (⟨[]⟩, 12) ∧ decPr [255, 255, 255, 255, 255, 255, 255, 255, 255, 2] = (⟨[]⟩, 12) ∧ decPr [1, 0, 0, 1, 0, 1, 1, 2, 1, 255, 255, 255, 255, 255, 255, 255, 255, 255, 2] = (⟨[]⟩, 12) ∧ decPr [1, 0, 0, 1, 0, 1, 1, 3, 1, 3] = (⟨[]⟩, 8) ∧ decPr [1, 0, 0, 1, 0, 1, 0, 4, 1, 0, 0, 0] = (⟨[]⟩, 8) ∧ decPr [] = (⟨[]⟩, 24) ∧ decPr [1, 0, 0, 1, 0, 1, 1, 2, 1] = (⟨[]⟩, 24) := by decide +kernel
theorem more_is : (decFn [0, 0, 1, 0, 1, 0, 3, 109, 111, 114, 101]).2 = (7, 0) ∧ decFn [] = (fn0, 0, 24) := by decide +kernel
theorem zeros_fn : decFn (List.replicate 4001 0) = (fn0, 0, 4) ∧ decPr (List.replicate 4001 0) = (⟨[]⟩, 4) := by
  constructor
  · unfold decFn; rw [if_pos (by rw [List.length_replicate]; omega)]
  · unfold decPr; rw [if_pos (by rw [List.length_replicate]; omega)]
theorem strB_app (l m : List Nat) : strB (l ++ m) = strB l ++ strB m := by
  unfold strB; rw [List.map_append]; apply ByteArray.ext; simp
theorem sl_zeros {w : World} {base g n : Nat} {e : TypeId} (h : w.ownsRow base e 1 (.slice (some ⟨g, 0, none⟩) n n) n (List.replicate n (.int .u8 0))) (hn : n ≤ 100000) : Sl (fun _ => True) w (.slice (some ⟨g, 0, none⟩) n n) (List.replicate n 0) := by
  refine ⟨some ⟨g, 0, none⟩, n, by rw [List.length_replicate], by rw [List.length_replicate]; omega, by omega, (fun h => by cases h), fun i hi => ?_⟩
  rw [List.length_replicate] at hi
  have hc := h.cells (g := g) rfl i (.int .u8 0) (by simp [hi])
  rw [Addr.add_lit, Nat.zero_add] at hc
  refine ⟨g, 0, rfl, trivial, lt_of_cell hc, [.int .u8 ((0 : Nat) : Int)], ⟨by rw [List.getElem_replicate], by rw [List.getElem_replicate]; omega⟩, fun j hj => ?_⟩
  obtain rfl : j = 0 := by simpa using hj
  simp only [sz_nat, Nat.mul_one, Nat.zero_add, Nat.add_zero]
  rw [hc]; rfl
theorem zeros_all : ∃ (Z : List Nat) (i0 : TypeInfo) (z0 : Value), (Try.prog).info? 5 = some i0 ∧ i0.zero = some z0 ∧ i0.size = 1 ∧ i0.bytes = 1 ∧ Hid (decFn Z = (fn0, 0, 4)) ∧ Hid (decPr Z = (⟨[]⟩, 4)) ∧
    Hid (∀ (w' : World) (B g : Nat), w'.ownsRow B 5 1 (.slice (some ⟨g, 0, none⟩) 4001 4001) 4001 (madeCells z0.cells (4001 * 1)).toList → Sl (fun _ => True) w' (.slice (some ⟨g, 0, none⟩) 4001 4001) Z) := by
  obtain ⟨i0, z0, hi, hz, hsize, hby, hzs⟩ := slT_u8.ex
  refine ⟨List.replicate 4001 0, i0, z0, hi, hz, hsize, hby, zeros_fn.1, zeros_fn.2, Lib.hid (fun w' B g h => ?_)⟩
  have e : i0.zero = some (.int .u8 0) := by
    have h := (by kernel_rfl : ((Try.prog).info? 5).map (fun i => i.zero) = some (some (.int .u8 0)))
    rw [hi] at h; simpa using h
  rw [hz] at e; injection e with e; rw [e] at h
  exact sl_zeros (by rw [show (madeCells (Value.int .u8 0).cells (4001 * 1)).toList = List.replicate 4001 (.int .u8 0) from toList_madeCells_one _ _] at h; exact h) (by omega)
set_option maxRecDepth 100000 in
set_option maxHeartbeats 16000000 in
theorem law_DecodeNames (w : World) : Calls Try.prog 8 #[] w (Ret w (.bool true)) := by
  have hst : ∀ w', Grow w w' → ∃ x, w' = ext w x := fun w' g => ext_of_grow g
  obtain ⟨Z, i0, z0, hi, hz, hsize, hby, Hz1, Hz2, Hzs⟩ := zeros_all
  have H1 : Hid (∀ w, Calls Try.prog 27 #[.string ⟨#[129, 0]⟩, .int .i64 12] w (Ret w (.bool true))) := Lib.hid (fun w => by have z : strB [129, 0] = ⟨#[129, 0]⟩ := (by kernel_rfl); rw [← z]; exact law10_fails _ _ (by decide) (by decide) errs_are.1 w)
  have H2 : Hid (∀ w, Calls Try.prog 27 #[.string ⟨#[255, 255, 255, 255, 255, 255, 255, 255, 255, 2]⟩, .int .i64 12] w (Ret w (.bool true))) := Lib.hid (fun w => by have z : strB [255, 255, 255, 255, 255, 255, 255, 255, 255, 2] = ⟨#[255, 255, 255, 255, 255, 255, 255, 255, 255, 2]⟩ := (by kernel_rfl); rw [← z]; exact law10_fails _ _ (by decide) (by decide) errs_are.2.1 w)
  have H3 : Hid (∀ w, Calls Try.prog 27 #[.string ⟨#[1, 0, 0, 1, 0, 1, 1, 2, 1, 255, 255, 255, 255, 255, 255, 255, 255, 255, 2]⟩, .int .i64 12] w (Ret w (.bool true))) := Lib.hid (fun w => by have z : strB [1, 0, 0, 1, 0, 1, 1, 2, 1, 255, 255, 255, 255, 255, 255, 255, 255, 255, 2] = ⟨#[1, 0, 0, 1, 0, 1, 1, 2, 1, 255, 255, 255, 255, 255, 255, 255, 255, 255, 2]⟩ := (by kernel_rfl); rw [← z]; exact law10_fails _ _ (by decide) (by decide) errs_are.2.2.1 w)
  have H4 : Hid (∀ w, Calls Try.prog 27 #[.string ⟨#[1, 0, 0, 1, 0, 1, 1, 3, 1, 3]⟩, .int .i64 8] w (Ret w (.bool true))) := Lib.hid (fun w => by have z : strB [1, 0, 0, 1, 0, 1, 1, 3, 1, 3] = ⟨#[1, 0, 0, 1, 0, 1, 1, 3, 1, 3]⟩ := (by kernel_rfl); rw [← z]; exact law10_fails _ _ (by decide) (by decide) errs_are.2.2.2.1 w)
  have H5 : Hid (∀ w, Calls Try.prog 27 #[.string ⟨#[1, 0, 0, 1, 0, 1, 0, 4, 1, 0, 0, 0]⟩, .int .i64 8] w (Ret w (.bool true))) := Lib.hid (fun w => by have z : strB [1, 0, 0, 1, 0, 1, 0, 4, 1, 0, 0, 0] = ⟨#[1, 0, 0, 1, 0, 1, 0, 4, 1, 0, 0, 0]⟩ := (by kernel_rfl); rw [← z]; exact law10_fails _ _ (by decide) (by decide) errs_are.2.2.2.2.1 w)
  have H6 : Hid (∀ w, Calls Try.prog 27 #[.string ⟨#[]⟩, .int .i64 24] w (Ret w (.bool true))) := Lib.hid (fun w => by have z : strB [] = ⟨#[]⟩ := (by kernel_rfl); rw [← z]; exact law10_fails _ _ (by decide) (by decide) errs_are.2.2.2.2.2.1 w)
  have H7 : Hid (∀ w, Calls Try.prog 27 #[.string ⟨#[1, 0, 0, 1, 0, 1, 1, 2, 1]⟩, .int .i64 24] w (Ret w (.bool true))) := Lib.hid (fun w => by have z : strB [1, 0, 0, 1, 0, 1, 1, 2, 1] = ⟨#[1, 0, 0, 1, 0, 1, 1, 2, 1]⟩ := (by kernel_rfl); rw [← z]; exact law10_fails _ _ (by decide) (by decide) errs_are.2.2.2.2.2.2 w)
  obtain ⟨fm, Hfm⟩ : ∃ f, Hid (decFn [0, 0, 1, 0, 1, 0, 3, 109, 111, 114, 101] = (f, 7, 0)) := ⟨(decFn [0, 0, 1, 0, 1, 0, 3, 109, 111, 114, 101]).1, Lib.hid (Prod.ext rfl more_is.1)⟩
  have Hn0 := Lib.hid more_is.2
  have kc := fun (w : World) (C : Array Value) (n c g : Nat) (hg : g = w.heap.size) => Go.Joins.run_convert_bytes_const_at (P := Try.prog) w 27 5 C n c g hg Try.underlying27 Try.underlying5
  go_enter Try.func8, Try.ntmps8
  go_wp2_with fail
  go_loopw [1, 3] (fun bv iv wr => ∃ (k : Nat) (x : Ext), iv = .int .i64 k ∧ k ≤ 23 ∧ wr = ext w x ∧ Own (fun _ => False) w.heap.size 9 wr bv (bads0 ++ (tails.take k).map withHead) ∧ bv.ownBlock ≠ some (w.heap.size + 1) ∧ w.heap.size + 1 < wr.heap.size ∧ Sl (fun k => k = w.heap.size + 1) wr (.slice (some ⟨w.heap.size + 1, 0, none⟩) 23 23) tails) (fun _ iv _ => 23 - (intOf iv).toNat)
  case atStart =>
    refine ⟨0, _, rfl, Nat.zero_le _, (hst _ (by (repeat (first | (with_reducible exact Grow.refl _) | assumption | refine Grow.ext ?_ _ | refine Grow.alloc ?_ _ | refine Grow.drew ?_ | refine Grow.setCell ?_ (by first | (simp; done) | (simp; omega)) _ | refine Grow.trans ?_ (by assumption))))).choose_spec, ?_, by simp [Value.ownBlock], by simp, ?_⟩
    · exact own_lit rfl (by simp only [hp_at, hp_alloc]; kernel_rfl) (Nat.le_refl _) (fun s hs => bads_ok.1 s (by simpa using hs)) (by decide)
    · exact (own_lit (e := 9) (base := w.heap.size + 1) (n := 23) (xs := tails) rfl (by simp only [hp_at]; kernel_rfl) (Nat.le_refl _) (fun s hs => ⟨(bads_ok.2 s hs).1, by have := (bads_ok.2 s hs).2; omega⟩) (by decide)).sl.wide (fun k hk hF => by rcases hF with hF | hF; exact hF.elim; simp at hk; omega)
  case round =>
    obtain ⟨k, x, rfl, hk, rfl, hown, hne, hsz, hts⟩ := hrel
    obtain ⟨a1, n1, c1, rfl, Hn1, hn1, hown⟩ := hown.open
    by_cases hlt : k < 23
    · obtain ⟨bt, ot, t, he, Ht, hlb, hok, hct⟩ := hts.str k hlt
      simp only [Option.some.injEq, Addr.mk.injEq, and_true] at he
      obtain ⟨rfl, rfl⟩ := he
      rw [Nat.zero_add] at hct
      obtain ⟨s1, hs1⟩ : ∃ s1, strB t.b = s1 := ⟨_, rfl⟩
      obtain ⟨s2, Hs2⟩ : ∃ s2, Hid (strB (withHead t).b = s2) := ⟨_, Lib.hid rfl⟩
      have hcat : (ByteArray.mk #[1, 0, 0, 1, 0, 1]) ++ s1 = s2 := by rw [← hs1, ← Hs2.out]; unfold withHead; rw [strB_app]; congr 1
      rw [hs1] at hct
      have Hok2 : Hid (withHead t).ok := Lib.hid (by
        have := bads_ok.2 t (List.mem_of_getElem? Ht.out)
        refine ⟨fun x hx => ?_, by unfold withHead; simp; omega⟩
        unfold withHead at hx
        rcases List.mem_append.1 hx with h | h
        · simp at h; omega
        · exact this.1 x h)
      have Hsn : Hid (bads0 ++ (tails.take (k + 1)).map withHead = (bads0 ++ (tails.take k).map withHead) ++ [withHead t]) := Lib.hid (by rw [List.take_add_one, Ht.out]; simp)
      have hll : (bads0 ++ (tails.take k).map withHead).length ≤ 100 := by rw [List.length_append, List.length_map, List.length_take]; have : bads0.length = 10 := rfl; omega
      obtain ⟨L, HL⟩ : ∃ L, Hid (bads0 ++ (tails.take k).map withHead = L) := ⟨_, Lib.hid rfl⟩
      rw [HL.out] at hown hll Hsn Hn1
      have hz1 : s1.size ≤ 100 := by rw [← hs1]; have := hok.2; simp [strB, ByteArray.size]; omega
      have hz2 : (ByteArray.mk #[1, 0, 0, 1, 0, 1]).size = 6 := rfl
      clear hs1
      go_wp2_with (first | (at_builtin; go_loud (refine wpList_appO (α := Str) slT_str rfl rfl rfl hown (by (repeat (first | (with_reducible exact Grow.refl _) | assumption | refine Grow.ext ?_ _ | refine Grow.alloc ?_ _ | refine Grow.drew ?_ | refine Grow.setCell ?_ (by first | (simp; done) | (simp; omega)) _ | refine Grow.trans ?_ (by assumption)))) (Nat.le_refl _) (by simp only [alloc_size, size_ext, drew_size]; omega) rfl (y := withHead t) (cs := [.string s2]) (Gy := fun _ => False) ⟨by rw [Hs2.out], Hok2.out⟩ (fun _ h => h.elim) (by (repeat (refine CellsAt.cons (by go_simp) ?_)); exact CellsAt.nil _ _ _) (by simp [Value.oneCell']) (by omega) (by omega) ?_); intro tv' x' hown' hagr hblk))
      go_roundw
      case rel => exact ⟨k + 1, x', by go_num, by omega, rfl, by rw [Hsn.out]; exact hown', (by rcases hblk with h | h; rw [h]; exact hne; rw [h]; simp only [ne_eq, Option.some.injEq, alloc_size, size_ext, drew_size] at hsz ⊢; omega), (by have := (hagr (fun k => k = w.heap.size + 1) (fun k hk _ => by rw [hk]; exact hne)) (w.heap.size + 1) rfl hsz; rw [Array.getElem?_eq_getElem hsz] at this; exact (Array.getElem?_eq_some_iff.1 this).1), hts.keep (hagr _ (fun k hk _ => by rw [hk]; exact hne))⟩
      case measure => simp [intOf]; omega
    · have Hk : Hid (k = 23) := Lib.hid (by omega)
      have hall : (bads0 ++ (tails.take 23).map withHead) = bads0 ++ tails.map withHead := by rw [List.take_of_length_le (by decide)]
      rw [Hk.out, hall] at hown Hn1
      obtain rfl : n1 = 33 := Hn1.out
      have hs := hown.sl
      clear hown hts hne hall Hn1 Hk
      go_wp2_with fail
      obtain ⟨ba, oa, _, rfl, _, _, _, _⟩ := hs.str 0 (by omega)
      go_loopw [4] (fun iv wr => ∃ (k : Nat), iv = .int .i64 k ∧ k ≤ 33 ∧ Grow (ext w x) wr) (fun iv _ => 33 - (intOf iv).toNat)
      case atStart => exact ⟨0, rfl, Nat.zero_le _, (by (repeat (first | (with_reducible exact Grow.refl _) | assumption | refine Grow.ext ?_ _ | refine Grow.alloc ?_ _ | refine Grow.drew ?_ | refine Grow.setCell ?_ (by first | (simp; done) | (simp; omega)) _ | refine Grow.trans ?_ (by assumption))))⟩
      case round =>
        obtain ⟨k2, rfl, hk2, hg⟩ := hrel
        obtain ⟨y, rfl⟩ := ext_of_grow hg
        clear hg
        by_cases hlt2 : k2 < 33
        · obtain ⟨bt, ot, t, he, Ht, hlb, hok, hct⟩ := hs.str k2 hlt2
          simp only [Option.some.injEq, Addr.mk.injEq, and_true] at he
          obtain ⟨rfl, rfl⟩ := he
          obtain ⟨s1, hs1⟩ : ∃ s1, strB t.b = s1 := ⟨_, rfl⟩
          have Hf : Hid (∀ w', Calls Try.prog 27 #[.string s1, .int .i64 16] w' (Ret w' (.bool true))) := Lib.hid (fun w' => by rw [← hs1]; exact law10_fails t.b 16 hok.1 (by have := hok.2; omega) (bads_range t (List.mem_of_getElem? Ht.out)) w')
          rw [hs1] at hct
          clear hs1 H1 H2 H3 H4 H5 H6 H7 kc
          go_wp2_with (first | (go_at_call 27; ((with_reducible refine (Hf.out _).mono ?_); rintro e w3 ⟨rfl, hb3⟩; obtain ⟨x3, rfl⟩ := ext_of_grow hb3; clear hb3)))
          go_roundw
          case rel => exact ⟨k2 + 1, by go_num, by omega, (by (repeat (first | (with_reducible exact Grow.refl _) | assumption | refine Grow.ext ?_ _ | refine Grow.alloc ?_ _ | refine Grow.drew ?_ | refine Grow.setCell ?_ (by first | (simp; done) | (simp; omega)) _ | refine Grow.trans ?_ (by assumption))))⟩
          case measure => simp [intOf]; omega
        · obtain rfl : k2 = 33 := by omega
          clear hs
          go_upto_region 13 with (first | (go_at_call 28; (refine (decode_Func _ [0, 0, 1, 0, 1, 0, 3, 109, 111, 114, 101] _ (sl_lit (by rfl) (by simp only [hp_at, hp_ext, hp_alloc, hp_drew]; rfl) (by decide) (by decide) (by decide))).mono ?_); rintro e w5 ⟨_, rfl, ⟨v1, v2, rfl, h1, h2⟩, hg5⟩; rw [Hfm.out] at h1 h2 ⊢; obtain ⟨va5, vn5, vc5, rfl, _, _, _, _, h1⟩ := h1.open; obtain ⟨ja5, jn5, jc5, rfl, _, _, _, _, h2⟩ := h2.open; obtain ⟨x5, rfl⟩ := ext_of_grow hg5; clear hg5; (try dsimp only at h1 h2)))
          go_upto_region 14 with (first | (at_make; refine wpList_make_full _ rfl _ _ 27 rfl w.heap.size 5 i0 z0 1 slT_u8.ut hi hz hsize .i64 .i64 _ _ 4001 rfl rfl rfl rfl (by rw [hby]; omega) (by unfold maxLen; omega) (by first | (simp; done) | (simp; omega)) ?_; intro w2 hown2 hgrow2; obtain ⟨x2, rfl⟩ := ext_of_grow (grown_grow (Grow.refl _) hgrow2 (by simp)); have hsz2 := Hzs.out _ _ _ hown2; simp only [size_ext, alloc_size, drew_size] at hsz2; clear hown2 hgrow2) | (go_at_call 28; (with_reducible refine (decode_Func _ Z _ (hsz2.mono (by (repeat (first | (with_reducible exact Grow.refl _) | assumption | refine Grow.ext ?_ _ | refine Grow.alloc ?_ _ | refine Grow.drew ?_ | refine Grow.setCell ?_ (by first | (simp; done) | (simp; omega)) _ | refine Grow.trans ?_ (by assumption)))))).mono ?_); rintro e w6 ⟨_, rfl, ⟨v1, v2, rfl, h1, h2⟩, hg6⟩; rw [Hz1.out] at h1 h2 ⊢; obtain ⟨va6, vn6, vc6, rfl, _, _, _, _, h1⟩ := h1.open; obtain ⟨ja6, jn6, jc6, rfl, _, _, _, _, h2⟩ := h2.open; obtain ⟨x6, rfl⟩ := ext_of_grow hg6; clear hg6; (try dsimp only at h1 h2)))
          go_upto_region 15 with (first | (at_make; refine wpList_make_full _ rfl _ _ 27 rfl w.heap.size 5 i0 z0 1 slT_u8.ut hi hz hsize .i64 .i64 _ _ 4001 rfl rfl rfl rfl (by rw [hby]; omega) (by unfold maxLen; omega) (by first | (simp; done) | (simp; omega)) ?_; intro w2 hown2 hgrow2; obtain ⟨x2, rfl⟩ := ext_of_grow (grown_grow (Grow.refl _) hgrow2 (by simp)); have hsz2 := Hzs.out _ _ _ hown2; simp only [size_ext, alloc_size, drew_size] at hsz2; clear hown2 hgrow2) | (go_at_call 29; (with_reducible refine (decode_Program _ Z _ (hsz2.mono (by (repeat (first | (with_reducible exact Grow.refl _) | assumption | refine Grow.ext ?_ _ | refine Grow.alloc ?_ _ | refine Grow.drew ?_ | refine Grow.setCell ?_ (by first | (simp; done) | (simp; omega)) _ | refine Grow.trans ?_ (by assumption)))))).mono ?_); rintro e w7 ⟨_, rfl, ⟨v7, rfl, ho7⟩, hg7⟩; rw [Hz2.out] at ho7 ⊢; obtain ⟨a7, n7, c7, rfl, Hn7, hn7, ho7⟩ := ho7.open; obtain ⟨x7, rfl⟩ := ext_of_grow hg7; clear hg7))
          go_upto_region 16 with (first | (go_at_call 28; (refine (decode_Func _ [] _ (Sl.nil (fun _ => True) _)).mono ?_); rintro e w8 ⟨_, rfl, ⟨v1, v2, rfl, h1, h2⟩, hg8⟩; rw [Hn0.out] at h1 h2 ⊢; obtain ⟨va8, vn8, vc8, rfl, _, _, _, _, h1⟩ := h1.open; obtain ⟨ja8, jn8, jc8, rfl, _, _, _, _, h2⟩ := h2.open; obtain ⟨x8, rfl⟩ := ext_of_grow hg8; clear hg8; (try dsimp only at h1 h2)))
          go_wp2_with (first
            | (go_at_call 27; ((with_reducible refine (H1.out _).mono ?_); rintro e w10 ⟨rfl, hb10⟩; obtain ⟨x10, rfl⟩ := ext_of_grow hb10; clear hb10))
            | (go_at_call 27; ((with_reducible refine (H2.out _).mono ?_); rintro e w11 ⟨rfl, hb11⟩; obtain ⟨x11, rfl⟩ := ext_of_grow hb11; clear hb11))
            | (go_at_call 27; ((with_reducible refine (H3.out _).mono ?_); rintro e w12 ⟨rfl, hb12⟩; obtain ⟨x12, rfl⟩ := ext_of_grow hb12; clear hb12))
            | (go_at_call 27; ((with_reducible refine (H4.out _).mono ?_); rintro e w13 ⟨rfl, hb13⟩; obtain ⟨x13, rfl⟩ := ext_of_grow hb13; clear hb13))
            | (go_at_call 27; ((with_reducible refine (H5.out _).mono ?_); rintro e w14 ⟨rfl, hb14⟩; obtain ⟨x14, rfl⟩ := ext_of_grow hb14; clear hb14))
            | (go_at_call 27; ((with_reducible refine (H6.out _).mono ?_); rintro e w15 ⟨rfl, hb15⟩; obtain ⟨x15, rfl⟩ := ext_of_grow hb15; clear hb15))
            | (go_at_call 27; ((with_reducible refine (H7.out _).mono ?_); rintro e w16 ⟨rfl, hb16⟩; obtain ⟨x16, rfl⟩ := ext_of_grow hb16; clear hb16))
            | (go_at_call 30; ((with_reducible refine (law10_alive _).mono ?_); rintro e w9 ⟨rfl, hb9⟩; obtain ⟨x9, rfl⟩ := ext_of_grow hb9; clear hb9)))
          go_ret
          exact Ret.bool rfl (by (repeat (first | (with_reducible exact Grow.refl _) | assumption | refine Grow.ext ?_ _ | refine Grow.alloc ?_ _ | refine Grow.drew ?_ | refine Grow.setCell ?_ (by first | (simp; done) | (simp; omega)) _ | refine Grow.trans ?_ (by assumption))))
end Go.Proofs.Ytafcdabiplcjiaa
