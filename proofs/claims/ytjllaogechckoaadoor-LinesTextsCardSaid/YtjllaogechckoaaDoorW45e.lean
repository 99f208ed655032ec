/- Layer 45: numbers that are read; numbers that are written. -/
import Derived.Test.YtjllaogechckoaaDoorW45d
namespace Go.Proofs.YtjllaogechckoaaDoor
open Go.RowKit
set_option linter.unusedSimpArgs false
set_option linter.unusedVariables false

theorem bat_mono {T e : TypeId} {B b : Nat} {p : Value} {bs : List Value} {w w' : World} (h : Lib.BuilderAt T e B b p bs w) (g : Grow w w') : Lib.BuilderAt T e B b p bs w' := by
  have hlt := h.lt
  obtain ⟨hB, v, hb, hown, hne⟩ := h
  refine ⟨hB, v, by rw [g.block b hlt]; exact hb, ⟨hown.1, ?_⟩, hne⟩
  rcases hown.2 with hx | ⟨q, cap, cur, hv, hbg, hg, hr⟩
  · exact .inl hx
  · exact .inr ⟨q, cap, cur, hv, hbg, by rw [g.block q (Array.getElem?_eq_some_iff.1 hg).1]; exact hg, hr⟩
theorem isb_mono {T e : TypeId} {B b : Nat} {bs : List Value} {w w' : World} (h : Lib.IsBuilder T e B b bs w) (g : Grow w w') : Lib.IsBuilder T e B b bs w' :=
  h.elim (fun x => .inl (bat_mono x g)) (fun x => .inr (bat_mono x g))
theorem listT_len (l : List Int) (h : ∀ n ∈ l, I64 n) : (listT l).length ≤ 22 * l.length := by
  induction l with
  | nil => simp [listT]
  | cons n l ih =>
    have h1 := ih (fun m hm => h m (List.mem_cons_of_mem _ hm))
    have h2 := itoa_len (h n (List.mem_cons_self ..))
    have e : listT (n :: l) = 32 :: Lib.itoa n ++ listT l := by simp [listT]
    rw [e]; simp; omega
theorem listT_take {l : List Int} {k : Nat} {y : Int} (h : Hid (l[k]? = some y)) : listT (l.take (k + 1)) = listT (l.take k) ++ (32 :: Lib.itoa y) := by
  rw [List.take_add_one, h.out]; simp [listT]
set_option maxRecDepth 100000 in
set_option maxHeartbeats 1000000 in
theorem lines_list (v : Value) (l : List Int) (w : World) {F : Nat → Prop} (hl : Sl F w v l) (hn : l.length ≤ 300) (hw : Laid w) : Calls Tryd.prog 27 #[v] w (Ret w (.string (str (listT l)))) := by
  have h64 := hl.i64s
  obtain ⟨a, n, c, rfl, Hn, hm, hcap, hcm, hl⟩ := hl.open
  have hn' : n ≤ 300 := by have := Hn.out; omega
  go_enter Tryd.func27, Tryd.ntmps27
  go_wp2_with fail
  go_loopw [8] (fun iv wr => ∃ k : Nat, iv = .int .i64 k ∧ k ≤ n ∧ Grow w wr ∧ Lib.IsBuilder 70 5 w.heap.size w.heap.size (Lib.byteCells (listT (l.take k))) wr) (fun iv _ => n - (intOf iv).toNat)
  case atStart => exact ⟨0, rfl, Nat.zero_le _, (by (repeat (first | (with_reducible exact Grow.refl _) | assumption | refine Grow.ext ?_ _ | refine Grow.alloc ?_ _ | refine Grow.drew ?_ | refine Grow.setCell ?_ (by first | (simp; done) | (simp; omega)) _ | refine Grow.trans ?_ (by assumption)))), Lib.fresh_isBuilder _ _ _⟩
  case round =>
    obtain ⟨k, rfl, hk, hg, hB⟩ := hrel
    have hsz := hg.size
    by_cases hlt : k < n
    · obtain ⟨b, o, y, rfl, ⟨Hy, hlb, hy64, c0⟩⟩ := (hl.mono hg).int k hlt
      have hyl : (Lib.itoa y).length ≤ 21 := itoa_len hy64
      have hpl : (listT (l.take k)).length ≤ 6600 := by
        have := listT_len (l.take k) (fun m hm => h64 m (List.mem_of_mem_take hm))
        have h2 : (l.take k).length ≤ 300 := by simp; omega
        omega
      go_wp2_with (first
        | (go_at_call 38; ((with_reducible refine (fmt_c y hy64 _ (hw.grow hg)).mono ?_); rintro e w1 ⟨rfl, hb1⟩; obtain ⟨x1, rfl⟩ := ext_of_grow hb1; clear hb1))
        | (go_at_call 37; ((with_reducible refine (Tryd.Builder_WriteString w.heap.size w.heap.size (Lib.byteCells (listT (l.take k))) _ _ (isb_mono hB (by (repeat (first | (with_reducible exact Grow.refl _) | assumption | refine Grow.ext ?_ _ | refine Grow.alloc ?_ _ | refine Grow.drew ?_ | refine Grow.setCell ?_ (by first | (simp; done) | (simp; omega)) _ | refine Grow.trans ?_ (by assumption))))) (by rw [Lib.byteCells_length, show (⟨#[32]⟩ : ByteArray) ++ str (Lib.itoa y) = str (32 :: Lib.itoa y) from str_app [32] _, str_size]; simp only [List.length_cons]; omega) (by simp only [size_ext]; omega)).mono ?_); rintro e w2 ⟨rfl, hB2, hbel⟩)))
      have hB3 := hB2
      have hbx : Below w.heap.size wr (ext wr x1) := ⟨rfl, rfl, rfl, (grow_ext wr x1).size, fun q hq => (grow_ext wr x1).block q (by omega)⟩
      rw [show (⟨#[32]⟩ : ByteArray) ++ str (Lib.itoa y) = str (32 :: Lib.itoa y) from str_app [32] _, Lib.strCells_eq, str_toList, ← Lib.byteCells_append, ← listT_take Hy] at hB3
      refine ⟨⟨k + 1, by go_num, by omega, Below.trans (Below.trans (B := w.heap.size) hg hbx) hbel, Or.inr hB3⟩, by simp [intOf]; omega⟩
    · obtain rfl : n = k := by omega
      have e : l.take n = l := List.take_of_length_le (by rw [← Hn.out]; exact Nat.le_refl _)
      rw [e] at hB
      clear e
      go_wp2_with (first
        | (go_at_call 39; ((with_reducible refine (Tryd.Builder_String_any w.heap.size w.heap.size (listT l) _ hB (by omega)).mono ?_); rintro e w2 ⟨rfl, hbel⟩)))
      go_ret
      exact ⟨rfl, Below.trans hg hbel⟩
theorem numP_no {s : Bs} (h : ∀ m, Lib.parseIntB 64 s ≠ .ok m) : numP s = none := by
  unfold numP
  split
  · rename_i n hn; exact absurd hn (h n)
  · rfl
set_option maxRecDepth 100000 in
set_option maxHeartbeats 1000000 in
theorem lines_number (s : Bs) (hs : s.length ≤ 1000000) (w : World) (hw : Laid w) : Calls Tryd.prog 45 #[.string (str s)] w (RetP w fun v w' => ∃ n b, v = .tuple #[.int .i64 n, .bool b] ∧ numP s = if b then some n else none) := by
  have HP := Lib.hid (fun w hw => parse_c s (by omega) w hw)
  have hat : (∃ n, Lib.parseIntB 64 s = .ok n) ∨ (∀ m, Lib.parseIntB 64 s ≠ .ok m) := by
    cases h : Lib.parseIntB 64 s with
    | ok n => exact Or.inl ⟨n, rfl⟩
    | «syntax» => exact Or.inr (fun m hm => by cases hm)
    | range => exact Or.inr (fun m hm => by cases hm)
  rcases hat with ⟨n, hn⟩ | hno
  · have hn64 : I64 n := parse_i64 hn
    have HK : Hid (∀ w, Laid w → Calls Tryd.prog 56 #[.string (str s), .int .i64 10, .int .i64 64] w (Ret w (.tuple #[.int .i64 n, .nilIface]))) := Lib.hid (fun w hw => (HP.out w hw).mono (by
      rintro e w' ⟨_, rfl, ⟨m, v, rfl, h⟩, hg⟩
      rcases h with ⟨h, rfl⟩ | ⟨h, _⟩
      · rw [hn] at h; injection h with h; subst h; exact ⟨rfl, hg⟩
      · exact absurd hn (h n)))
    have Hq : Hid (numP s = if (Lib.itoa n == s) then some n else none) := Lib.hid (by
      unfold numP; rw [hn]; dsimp only
      by_cases e : Lib.itoa n = s
      · rw [if_pos e, if_pos (beq_iff_eq.2 e)]
      · rw [if_neg e, if_neg (by simpa using e)])
    clear HP hn
    go_enter Tryd.func45, Tryd.ntmps45
    go_wp2_with (first
      | (go_at_call 56; ((with_reducible refine (HK.out _ (hw.grow (by (repeat (first | (with_reducible exact Grow.refl _) | assumption | refine Grow.ext ?_ _ | refine Grow.alloc ?_ _ | refine Grow.drew ?_ | refine Grow.setCell ?_ (by first | (simp; done) | (simp; omega)) _ | refine Grow.trans ?_ (by assumption)))))).mono ?_); rintro e w1 ⟨rfl, hb1⟩; obtain ⟨x1, rfl⟩ := ext_of_grow hb1; clear hb1))
      | (go_at_call 38; ((with_reducible refine (fmt_c n hn64 _ (hw.grow (by (repeat (first | (with_reducible exact Grow.refl _) | assumption | refine Grow.ext ?_ _ | refine Grow.alloc ?_ _ | refine Grow.drew ?_ | refine Grow.setCell ?_ (by first | (simp; done) | (simp; omega)) _ | refine Grow.trans ?_ (by assumption)))))).mono ?_); rintro e w2 ⟨rfl, hb2⟩; obtain ⟨x2, rfl⟩ := ext_of_grow hb2; clear hb2)))
    refine postP_of (v := .tuple #[.int .i64 n, .bool (Lib.itoa n == s)]) (by simp only [results, Tryd.results45]; go_simp) rfl (by (repeat (first | (with_reducible exact Grow.refl _) | assumption | refine Grow.ext ?_ _ | refine Grow.alloc ?_ _ | refine Grow.drew ?_ | refine Grow.setCell ?_ (by first | (simp; done) | (simp; omega)) _ | refine Grow.trans ?_ (by assumption)))) ⟨_, _, rfl, ?_⟩
    exact Hq.out
  · have HK : Hid (∀ w, Laid w → Calls Tryd.prog 56 #[.string (str s), .int .i64 10, .int .i64 64] w (RetP w fun v w' => ∃ m N, v = .tuple #[.int .i64 m, .iface 126 (.pointer (some ⟨N, 0, none⟩))])) := Lib.hid (fun w hw => (HP.out w hw).mono (by
      rintro e w' ⟨_, rfl, ⟨m, v, rfl, h⟩, hg⟩
      rcases h with ⟨h, rfl⟩ | ⟨_, N, rfl⟩
      · exact absurd h (hno m)
      · exact ⟨_, rfl, ⟨m, N, rfl⟩, hg⟩))
    have Hq := Lib.hid (numP_no hno)
    clear HP hno
    go_enter Tryd.func45, Tryd.ntmps45
    go_wp2_with (first
      | (go_at_call 56; ((with_reducible refine (HK.out _ (hw.grow (by (repeat (first | (with_reducible exact Grow.refl _) | assumption | refine Grow.ext ?_ _ | refine Grow.alloc ?_ _ | refine Grow.drew ?_ | refine Grow.setCell ?_ (by first | (simp; done) | (simp; omega)) _ | refine Grow.trans ?_ (by assumption)))))).mono ?_); rintro e w5 ⟨_, rfl, ⟨m, N, rfl⟩, hb5⟩; obtain ⟨x5, rfl⟩ := ext_of_grow hb5; clear hb5)))
    refine postP_of (v := .tuple #[.int .i64 m, .bool false]) (by simp only [results, Tryd.results45]; go_simp) rfl (by (repeat (first | (with_reducible exact Grow.refl _) | assumption | refine Grow.ext ?_ _ | refine Grow.alloc ?_ _ | refine Grow.drew ?_ | refine Grow.setCell ?_ (by first | (simp; done) | (simp; omega)) _ | refine Grow.trans ?_ (by assumption)))) ⟨_, _, rfl, ?_⟩
    rw [Hq.out]; first | rfl | simp
theorem mapM_take {l : List Bs} {k : Nat} {y : Bs} {n : Int} {ns : List Int} (h : Hid ((l.take k).mapM numP = some ns)) (hy : Hid (l[k]? = some y)) (hn : numP y = some n) : (l.take (k + 1)).mapM numP = some (ns ++ [n]) := by
  rw [List.take_add_one, hy.out, List.mapM_append, h.out]
  simp [hn]
theorem mapM_stop {l : List Bs} {k : Nat} {y : Bs} (hy : Hid (l[k]? = some y)) (hn : numP y = none) : l.mapM numP = none := by
  obtain ⟨hk, he⟩ := List.getElem?_eq_some_iff.1 hy.out
  have e : l = l.take k ++ (y :: l.drop (k + 1)) := by rw [← he, List.getElem_cons_drop, List.take_append_drop]
  rw [e, List.mapM_append]
  cases h : (l.take k).mapM numP with
  | none => rfl
  | some ns => simp [hn]
theorem mapM_len : ∀ (l : List Bs) (ns : List Int), l.mapM numP = some ns → ns.length = l.length := by
  intro l ns h
  have := mapM_back l ns h
  rw [this]; simp
/-- What numbers returns. -/
def NumsR (w : World) (l : List Bs) (v : Value) (w' : World) : Prop := (∃ ns u, l.mapM numP = some ns ∧ v = .tuple #[u, .bool true] ∧ Sl (Frs w) w' u ns) ∨ (l.mapM numP = none ∧ v = .tuple #[.slice none 0 0, .bool false])
set_option maxRecDepth 100000 in
set_option maxHeartbeats 2000000 in
theorem lines_numbers (v : Value) (l : List Bs) (w : World) {F : Nat → Prop} (hl : Sl F w v l) (hn : l.length ≤ 1000000) (hs : ∀ s ∈ l, s.length ≤ 1000000) (hw : Laid w) : Calls Tryd.prog 58 #[v] w (RetP w (NumsR w l)) := by
  obtain ⟨a, n, c, rfl, Hn, hm, hcap, hcm, hl⟩ := hl.open
  have hn' : n ≤ 1000000 := by have := Hn.out; omega
  go_enter Tryd.func58, Tryd.ntmps58
  go_wp2_with fail
  go_loopw [4, 11] (fun ov iv wr => ∃ (k : Nat) (ns : List Int) (x : Ext), iv = .int .i64 k ∧ k ≤ n ∧ wr = ext w x ∧ Own (fun _ => False) w.heap.size 2 wr ov ns ∧ Hid ((l.take k).mapM numP = some ns) ∧ ns.length = k) (fun _ iv _ => n - (intOf iv).toNat)
  case atStart => exact ⟨0, [], _, rfl, Nat.zero_le _, (ext_self _).symm, Own.nil _ _ _ _, Lib.hid rfl, rfl⟩
  case round =>
    obtain ⟨k, ns, x, rfl, hk, rfl, hown, Hns, hnl⟩ := hrel
    obtain ⟨a2, m2, c2, rfl, Hm2, hm2, hown⟩ := hown.open
    by_cases hlt : k < n
    · obtain ⟨b, o, y, rfl, ⟨Hy, hlb, c0⟩⟩ := hl.bs k hlt
      have hyl : y.length ≤ 1000000 := hs y (List.mem_of_getElem? Hy.out)
      cases hp : numP y with
      | none =>
        have Hst := Lib.hid (mapM_stop Hy hp)
        have HC : Hid (∀ w, Laid w → Calls Tryd.prog 45 #[.string (str y)] w (RetP w fun v w' => ∃ q, v = .tuple #[.int .i64 q, .bool false])) := Lib.hid (fun w hw => (lines_number y hyl w hw).mono (by
          rintro e w' ⟨_, rfl, ⟨q, b, rfl, h⟩, hg⟩
          rw [hp] at h
          cases b
          · exact ⟨_, rfl, ⟨q, rfl⟩, hg⟩
          · cases h))
        go_wp2_with (first
          | (go_at_call 45; ((with_reducible refine (HC.out _ (hw.grow (by (repeat (first | (with_reducible exact Grow.refl _) | assumption | refine Grow.ext ?_ _ | refine Grow.alloc ?_ _ | refine Grow.drew ?_ | refine Grow.setCell ?_ (by first | (simp; done) | (simp; omega)) _ | refine Grow.trans ?_ (by assumption)))))).mono ?_); rintro e w5 ⟨_, rfl, ⟨q, rfl⟩, hb5⟩; obtain ⟨x5, rfl⟩ := ext_of_grow hb5; clear hb5)))
        refine postP_of (v := .tuple #[.slice none 0 0, .bool false]) (by simp only [results, Tryd.results58]; go_simp) rfl (by (repeat (first | (with_reducible exact Grow.refl _) | assumption | refine Grow.ext ?_ _ | refine Grow.alloc ?_ _ | refine Grow.drew ?_ | refine Grow.setCell ?_ (by first | (simp; done) | (simp; omega)) _ | refine Grow.trans ?_ (by assumption)))) (Or.inr ⟨Hst.out, rfl⟩)
      | some q =>
        have hq64 : I64 q := (numP_some hp).2
        have Hnx := Lib.hid (mapM_take Hns Hy hp)
        have HC : Hid (∀ w, Laid w → Calls Tryd.prog 45 #[.string (str y)] w (Ret w (.tuple #[.int .i64 q, .bool true]))) := Lib.hid (fun w hw => (lines_number y hyl w hw).mono (by
          rintro e w' ⟨_, rfl, ⟨q', b, rfl, h⟩, hg⟩
          rw [hp] at h
          cases b
          · cases h
          · injection h with h; subst h; exact ⟨rfl, hg⟩))
        clear hp
        go_wp2_with (first
          | (go_at_call 45; ((with_reducible refine (HC.out _ (hw.grow (by (repeat (first | (with_reducible exact Grow.refl _) | assumption | refine Grow.ext ?_ _ | refine Grow.alloc ?_ _ | refine Grow.drew ?_ | refine Grow.setCell ?_ (by first | (simp; done) | (simp; omega)) _ | refine Grow.trans ?_ (by assumption)))))).mono ?_); rintro e w5 ⟨rfl, hb5⟩; obtain ⟨x5, rfl⟩ := ext_of_grow hb5; clear hb5))
          | (at_builtin; go_must (refine wpList_app1 (α := Int) slT_i64 rfl rfl rfl hown (by (repeat (first | (with_reducible exact Grow.refl _) | assumption | refine Grow.ext ?_ _ | refine Grow.alloc ?_ _ | refine Grow.drew ?_ | refine Grow.setCell ?_ (by first | (simp; done) | (simp; omega)) _ | refine Grow.trans ?_ (by assumption)))) (Nat.le_refl _) (by simp; omega) rfl (y := q) (Gy := fun _ => False) ⟨rfl, hq64⟩ (fun _ h => h.elim) (by (repeat (refine CellsAt.cons (by go_simp) ?_)); exact CellsAt.nil _ _ _) (by simp [Value.oneCell']) (by omega) (by omega) ?_); intro tv' x' hown' hsz' hagr))
        refine ⟨⟨k + 1, ns ++ [q], x', by go_num, by omega, rfl, hown', Hnx, by simp [hnl]⟩, by simp [intOf]; omega⟩
    · obtain rfl : n = k := by omega
      have e : l.take n = l := List.take_of_length_le (by rw [← Hn.out]; exact Nat.le_refl _)
      rw [e] at Hns
      clear e
      go_wp2_with fail
      refine postP_of (v := .tuple #[.slice a2 m2 c2, .bool true]) (by simp only [results, Tryd.results58]; go_simp) rfl (by (repeat (first | (with_reducible exact Grow.refl _) | assumption | refine Grow.ext ?_ _ | refine Grow.alloc ?_ _ | refine Grow.drew ?_ | refine Grow.setCell ?_ (by first | (simp; done) | (simp; omega)) _ | refine Grow.trans ?_ (by assumption)))) (Or.inl ⟨ns, _, Hns.out, rfl, hown.sl.wide (fun q _ h => by rcases h with h | h; exact h.elim; exact h)⟩)
end Go.Proofs.YtjllaogechckoaaDoor
