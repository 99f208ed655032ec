/- Layer 45: the text of a run is read. -/
import Derived.Test.YtjllaogechckoaaDoorW45e
namespace Go.Proofs.YtjllaogechckoaaDoor
open Go.RowKit
set_option linter.unusedSimpArgs false
set_option linter.unusedVariables false

/-- strings.Split at a space. -/
theorem split_c (s : Bs) (hs : s.length ≤ 1000000) (w : World) (hw : Laid w) : Calls Tryd.prog 47 #[.string (str s), .string ⟨#[32]⟩] w (RetP w fun v w' => ∃ a c, v = .slice a (parts s).length c ∧ Sl (Frs w) w' v (parts s)) := by
  obtain ⟨m, hm⟩ := hw.max
  refine (Tryd.strings_Split (str s) ⟨#[32]⟩ m w (by rw [str_size]; omega) hm (by decide)).mono ?_
  rintro e w' ⟨rfl, rfl⟩
  have hc : Lib.countB (str s) ⟨#[32]⟩ + 1 = (parts s).length := by
    rw [← count_parts s]
  have hb : (Lib.splitB ⟨#[32]⟩ 0 (Lib.countB (str s) ⟨#[32]⟩) (str s)).map (·.data.toList) = parts s := by
    rw [Lib.splitB_data]; exact split_parts s
  have hbe : Lib.splitB ⟨#[32]⟩ 0 (Lib.countB (str s) ⟨#[32]⟩) (str s) = (parts s).map str := by
    rw [← hb, List.map_map]
    conv => lhs; rw [← List.map_id (Lib.splitB _ _ _ _)]
    exact List.map_congr_left (fun x _ => (str_eq x).symm)
  rw [hc, hbe]
  refine ⟨_, rfl, ⟨_, _, rfl, ?_⟩, Grow.alloc (Grow.refl _) _⟩
  refine ⟨_, _, rfl, Nat.le_refl _, ?_, (fun h => by cases h), fun i hi => ⟨w.heap.size, 0, rfl, Nat.le_refl _, by simp, [.string (str (parts s)[i])], rfl, fun j hj => ?_⟩⟩
  · have h1 : (parts s).length ≤ s.length + 2 := by rw [← count_parts s]; have := Lib.count_le s [32]; omega
    omega
  · obtain rfl : j = 0 := by simpa using hj
    have hg : (w.alloc (.cells (List.map Value.string (List.map str (parts s))).toArray 9)).heap[w.heap.size]? = some (.cells (List.map Value.string (List.map str (parts s))).toArray 9) := Array.getElem?_push_size
    simp only [World.cell?, hg, Nat.zero_add, sz_bs, Nat.mul_one, Nat.add_zero]
    simp [hi]
theorem parts_len (s : Bs) : (parts s).length ≤ s.length + 2 := by rw [← count_parts s]; have := Lib.count_le s [32]; omega
theorem join_len : ∀ (l : List Bs), ∀ p ∈ l, p.length ≤ (joinS l).length
  | [], p, hp => by cases hp
  | [a], p, hp => by rw [List.mem_singleton] at hp; subst hp; exact Nat.le_refl _
  | a :: b :: l, p, hp => by
    rw [joinS_cons _ (by simp)]
    rcases List.mem_cons.1 hp with h | h
    · subst h; simp
    · have := join_len (b :: l) p h
      simp; omega
theorem parts_small {s p : Bs} (hp : p ∈ parts s) : p.length ≤ s.length := by
  have := join_len (parts s) p hp
  rw [join_parts] at this; exact this
theorem cut_len (s sep : Bs) : (Lib.cut s sep).1.length ≤ s.length ∧ (Lib.cut s sep).2.1.length ≤ s.length := by
  unfold Lib.cut; split
  · simp; omega
  · simp
/-- What is left behind a read: a verdict, and whether it is one. -/
def RdR (w : World) (o : Option Ve) (v : Value) (w' : World) : Prop :=
  ∃ (x : Ve) (pa : Option Addr) (pn pc : Nat) (ra : Option Addr) (rn rc : Nat) (b : Bool), v = .tuple #[x.v (.slice pa pn pc) (.slice ra rn rc), .bool b] ∧ o = (if b then some x else none) ∧ (b = true → x.ok ∧ Sl (Frs w) w' (.slice pa pn pc) x.prints ∧ Sl (Frs w) w' (.slice ra rn rc) x.result)
abbrev vrn (o n : Int) (a b : List Int) : Ve := ⟨5, 0, 0, 0, 0, ⟨0, false, 0⟩, false, false, o, n, a, b⟩
theorem ranP_of {s hd rs p1 p2 wd st : Bs} {f1 f2 f3 : Bool} (h1 : Lib.cut s (32 :: t_prints) = (hd, rs, f1)) (h2 : Lib.cut rs (32 :: t_result) = (p1, p2, f2)) (h3 : Lib.cut hd [32] = (wd, st, f3)) :
    ranP s = if f1 then (if f2 then (if f3 then (match numP st, outOf wd, numsP p1, numsP p2 with | some n, some o, some a, some b => some (vrn o n a b) | _, _, _, _ => none) else none) else none) else none := by
  unfold ranP; rw [h1]; dsimp only; rw [h2, h3]; rfl
def StR (F : Nat → Prop) (P1 P2 : Bs) (wr : World) (k : Nat) (pv rv : Value) : Prop :=
  (k = 0 ∧ pv = .slice none 0 0 ∧ rv = .slice none 0 0) ∨ (k = 1 ∧ (∃ a, numsP P1 = some a ∧ Sl F wr pv a) ∧ rv = .slice none 0 0) ∨ (k = 2 ∧ (∃ a, numsP P1 = some a ∧ Sl F wr pv a) ∧ ∃ b, numsP P2 = some b ∧ Sl F wr rv b)
theorem numsP_cons (r : Bs) : numsP (32 :: r) = (parts r).mapM numP := by unfold numsP; simp
theorem numsP_bad {c : UInt8} (r : Bs) (h : c ≠ 32) : numsP (c :: r) = none := by unfold numsP; simp [h]
theorem nums_none {r : Bs} (h : (parts r).mapM numP = none) (hr : r.length ≤ 1000000 - 2) (v : Value) (w : World) {F : Nat → Prop} (hl : Sl F w v (parts r)) (hw : Laid w) : Calls Tryd.prog 58 #[v] w (Ret w (.tuple #[.slice none 0 0, .bool false])) :=
  (lines_numbers v (parts r) w hl (by have := parts_len r; omega) (fun s hs => by have := parts_small hs; omega) hw).mono (by
    rintro e w' ⟨_, rfl, hR, hg⟩
    rcases hR with ⟨ns, u, h2, _⟩ | ⟨_, rfl⟩
    · rw [h] at h2; cases h2
    · exact ⟨rfl, hg⟩)
theorem nums_some {r : Bs} {a : List Int} (h : (parts r).mapM numP = some a) (hr : r.length ≤ 1000000 - 2) (v : Value) (w : World) {F : Nat → Prop} (hl : Sl F w v (parts r)) (hw : Laid w) : Calls Tryd.prog 58 #[v] w (RetP w fun v w' => ∃ ua un uc, v = .tuple #[.slice ua un uc, .bool true] ∧ Sl (Frs w) w' (.slice ua un uc) a) :=
  (lines_numbers v (parts r) w hl (by have := parts_len r; omega) (fun s hs => by have := parts_small hs; omega) hw).mono (by
    rintro e w' ⟨_, rfl, hR, hg⟩
    rcases hR with ⟨ns, u, h2, rfl, hs⟩ | ⟨h2, _⟩
    · rw [h] at h2; injection h2 with h2; subst h2
      obtain ⟨ua, un, uc, rfl, _⟩ := hs.open
      exact ⟨_, rfl, ⟨ua, un, uc, rfl, hs⟩, hg⟩
    · rw [h] at h2; cases h2)
theorem str_tail (c : UInt8) (r : Bs) : (str (c :: r)).extract 1 (r.length + 1) = str r := by
  apply ByteArray.ext; simp
set_option maxRecDepth 100000 in
set_option maxHeartbeats 4000000 in
theorem lines_ran (s : Bs) (hs : s.length ≤ 900000) (w : World) (hw : Laid w) : Calls Tryd.prog 48 #[.string (str s)] w (RetP w (RdR w (ranP s))) := by
  obtain ⟨l1, l2⟩ := cut_len s (32 :: t_prints)
  obtain ⟨⟨hd, rs, f1⟩, Hc1⟩ : ∃ q, Hid (Lib.cut s (32 :: t_prints) = q) := ⟨_, Lib.hid rfl⟩
  rw [Hc1.out] at l1 l2
  dsimp only at l1 l2
  obtain ⟨l3, l4⟩ := cut_len rs (32 :: t_result)
  obtain ⟨⟨p1, p2, f2⟩, Hc2⟩ : ∃ q, Hid (Lib.cut rs (32 :: t_result) = q) := ⟨_, Lib.hid rfl⟩
  rw [Hc2.out] at l3 l4
  dsimp only at l3 l4
  obtain ⟨l5, l6⟩ := cut_len hd [32]
  obtain ⟨⟨wd, st, f3⟩, Hc3⟩ : ∃ q, Hid (Lib.cut hd [32] = q) := ⟨_, Lib.hid rfl⟩
  rw [Hc3.out] at l5 l6
  dsimp only at l5 l6
  have HC1 : Hid (∀ w, Laid w → Calls Tryd.prog 44 #[.string (str s), .string ⟨#[32, 112, 114, 105, 110, 116, 115]⟩] w (Ret w (.tuple #[.string (str hd), .string (str rs), .bool f1]))) := Lib.hid (fun w hw => by have := cut_c s (32 :: t_prints) (by omega) w hw; rw [Hc1.out] at this; exact this)
  have HC2 : Hid (∀ w, Laid w → Calls Tryd.prog 44 #[.string (str rs), .string ⟨#[32, 114, 101, 115, 117, 108, 116]⟩] w (Ret w (.tuple #[.string (str p1), .string (str p2), .bool f2]))) := Lib.hid (fun w hw => by have := cut_c rs (32 :: t_result) (by omega) w hw; rw [Hc2.out] at this; exact this)
  have HC3 : Hid (∀ w, Laid w → Calls Tryd.prog 44 #[.string (str hd), .string ⟨#[32]⟩] w (Ret w (.tuple #[.string (str wd), .string (str st), .bool f3]))) := Lib.hid (fun w hw => by have := cut_c hd [32] (by omega) w hw; rw [Hc3.out] at this; exact this)
  have HO := Lib.hid (fun w => lines_OutcomeOf wd w)
  have HR := Lib.hid (ranP_of Hc1.out Hc2.out Hc3.out)
  obtain ⟨R, HRR⟩ : ∃ R, Hid (ranP s = R) := ⟨_, Lib.hid rfl⟩
  rw [HRR.out] at HR ⊢
  clear Hc1 Hc2 Hc3
  cases f1
  · go_enter Tryd.func48, Tryd.ntmps48
    go_wp2_with (first | (go_at_call 44; ((with_reducible refine (HC1.out _ (hw.grow (by (repeat (first | (with_reducible exact Grow.refl _) | assumption | refine Grow.ext ?_ _ | refine Grow.alloc ?_ _ | refine Grow.drew ?_ | refine Grow.setCell ?_ (by first | (simp; done) | (simp; omega)) _ | refine Grow.trans ?_ (by assumption)))))).mono ?_); rintro e w1 ⟨rfl, hb1⟩; obtain ⟨x1, rfl⟩ := ext_of_grow hb1; clear hb1)))
    refine postP_of (v := .tuple #[(vrn 0 0 [] []).v (.slice none 0 0) (.slice none 0 0), .bool false]) (by simp only [results, Tryd.results48]; go_simp) rfl (by (repeat (first | (with_reducible exact Grow.refl _) | assumption | refine Grow.ext ?_ _ | refine Grow.alloc ?_ _ | refine Grow.drew ?_ | refine Grow.setCell ?_ (by first | (simp; done) | (simp; omega)) _ | refine Grow.trans ?_ (by assumption)))) ⟨_, _, _, _, _, _, _, false, rfl, HR.out, fun h => by cases h⟩
  cases f2
  · go_enter Tryd.func48, Tryd.ntmps48
    go_wp2_with (first | (go_at_call 44; ((with_reducible refine (HC1.out _ (hw.grow (by (repeat (first | (with_reducible exact Grow.refl _) | assumption | refine Grow.ext ?_ _ | refine Grow.alloc ?_ _ | refine Grow.drew ?_ | refine Grow.setCell ?_ (by first | (simp; done) | (simp; omega)) _ | refine Grow.trans ?_ (by assumption)))))).mono ?_); rintro e w1 ⟨rfl, hb1⟩; obtain ⟨x1, rfl⟩ := ext_of_grow hb1; clear hb1)) | (go_at_call 44; ((with_reducible refine (HC2.out _ (hw.grow (by (repeat (first | (with_reducible exact Grow.refl _) | assumption | refine Grow.ext ?_ _ | refine Grow.alloc ?_ _ | refine Grow.drew ?_ | refine Grow.setCell ?_ (by first | (simp; done) | (simp; omega)) _ | refine Grow.trans ?_ (by assumption)))))).mono ?_); rintro e w2 ⟨rfl, hb2⟩; obtain ⟨x2, rfl⟩ := ext_of_grow hb2; clear hb2)))
    refine postP_of (v := .tuple #[(vrn 0 0 [] []).v (.slice none 0 0) (.slice none 0 0), .bool false]) (by simp only [results, Tryd.results48]; go_simp) rfl (by (repeat (first | (with_reducible exact Grow.refl _) | assumption | refine Grow.ext ?_ _ | refine Grow.alloc ?_ _ | refine Grow.drew ?_ | refine Grow.setCell ?_ (by first | (simp; done) | (simp; omega)) _ | refine Grow.trans ?_ (by assumption)))) ⟨_, _, _, _, _, _, _, false, rfl, HR.out, fun h => by cases h⟩
  have hst := lines_number st (by omega)
  cases hn : numP st with
  | none =>
    have HN : Hid (∀ w, Laid w → Calls Tryd.prog 45 #[.string (str st)] w (RetP w fun v w' => ∃ q, v = .tuple #[.int .i64 q, .bool false])) := Lib.hid (fun w hw => (hst w hw).mono (by
      rintro e w' ⟨_, rfl, ⟨q, b, rfl, h⟩, hg⟩
      rw [hn] at h
      cases b
      · exact ⟨_, rfl, ⟨q, rfl⟩, hg⟩
      · cases h))
    replace HR : Hid (R = none) := Lib.hid (by rw [HR.out, hn]; simp)
    clear hst hn
    cases f3
    all_goals
      go_enter Tryd.func48, Tryd.ntmps48
      go_wp2_with (first | (go_at_call 44; ((with_reducible refine (HC1.out _ (hw.grow (by (repeat (first | (with_reducible exact Grow.refl _) | assumption | refine Grow.ext ?_ _ | refine Grow.alloc ?_ _ | refine Grow.drew ?_ | refine Grow.setCell ?_ (by first | (simp; done) | (simp; omega)) _ | refine Grow.trans ?_ (by assumption)))))).mono ?_); rintro e w1 ⟨rfl, hb1⟩; obtain ⟨x1, rfl⟩ := ext_of_grow hb1; clear hb1)) | (go_at_call 44; ((with_reducible refine (HC2.out _ (hw.grow (by (repeat (first | (with_reducible exact Grow.refl _) | assumption | refine Grow.ext ?_ _ | refine Grow.alloc ?_ _ | refine Grow.drew ?_ | refine Grow.setCell ?_ (by first | (simp; done) | (simp; omega)) _ | refine Grow.trans ?_ (by assumption)))))).mono ?_); rintro e w2 ⟨rfl, hb2⟩; obtain ⟨x2, rfl⟩ := ext_of_grow hb2; clear hb2)) | (go_at_call 44; ((with_reducible refine (HC3.out _ (hw.grow (by (repeat (first | (with_reducible exact Grow.refl _) | assumption | refine Grow.ext ?_ _ | refine Grow.alloc ?_ _ | refine Grow.drew ?_ | refine Grow.setCell ?_ (by first | (simp; done) | (simp; omega)) _ | refine Grow.trans ?_ (by assumption)))))).mono ?_); rintro e w3 ⟨rfl, hb3⟩; obtain ⟨x3, rfl⟩ := ext_of_grow hb3; clear hb3)) | (go_at_call 11; ((with_reducible refine (HO.out _).mono ?_); rintro e w5 ⟨rfl, hb5⟩; obtain ⟨x5, rfl⟩ := ext_of_grow hb5; clear hb5)) | (go_at_call 45; ((with_reducible refine (HN.out _ (hw.grow (by (repeat (first | (with_reducible exact Grow.refl _) | assumption | refine Grow.ext ?_ _ | refine Grow.alloc ?_ _ | refine Grow.drew ?_ | refine Grow.setCell ?_ (by first | (simp; done) | (simp; omega)) _ | refine Grow.trans ?_ (by assumption)))))).mono ?_); rintro e w4 ⟨_, rfl, ⟨q, rfl⟩, hb4⟩; obtain ⟨x4, rfl⟩ := ext_of_grow hb4; clear hb4)))
      refine postP_of (v := .tuple #[(vrn 0 0 [] []).v (.slice none 0 0) (.slice none 0 0), .bool false]) (by simp only [results, Tryd.results48]; go_simp) rfl (by (repeat (first | (with_reducible exact Grow.refl _) | assumption | refine Grow.ext ?_ _ | refine Grow.alloc ?_ _ | refine Grow.drew ?_ | refine Grow.setCell ?_ (by first | (simp; done) | (simp; omega)) _ | refine Grow.trans ?_ (by assumption)))) ⟨_, _, _, _, _, _, _, false, rfl, HR.out, fun h => by cases h⟩
  | some n =>
    have hn64 : I64 n := (numP_some hn).2
    have HN : Hid (∀ w, Laid w → Calls Tryd.prog 45 #[.string (str st)] w (Ret w (.tuple #[.int .i64 n, .bool true]))) := Lib.hid (fun w hw => (hst w hw).mono (by
      rintro e w' ⟨_, rfl, ⟨q, b, rfl, h⟩, hg⟩
      rw [hn] at h
      cases b
      · cases h
      · injection h with h; subst h; exact ⟨rfl, hg⟩))
    rw [hn] at HR
    clear hst hn
    cases ho : outOf wd with
    | none =>
      replace HR : Hid (R = none) := Lib.hid (by rw [HR.out, ho]; simp)
      have e1 : ofW wd = 0 ∧ ofE wd = 12 := by unfold ofW ofE; rw [ho]; exact ⟨rfl, rfl⟩
      rw [e1.1, e1.2] at HO
      clear e1 ho
      cases f3
      all_goals
        go_enter Tryd.func48, Tryd.ntmps48
        go_wp2_with (first | (go_at_call 44; ((with_reducible refine (HC1.out _ (hw.grow (by (repeat (first | (with_reducible exact Grow.refl _) | assumption | refine Grow.ext ?_ _ | refine Grow.alloc ?_ _ | refine Grow.drew ?_ | refine Grow.setCell ?_ (by first | (simp; done) | (simp; omega)) _ | refine Grow.trans ?_ (by assumption)))))).mono ?_); rintro e w1 ⟨rfl, hb1⟩; obtain ⟨x1, rfl⟩ := ext_of_grow hb1; clear hb1)) | (go_at_call 44; ((with_reducible refine (HC2.out _ (hw.grow (by (repeat (first | (with_reducible exact Grow.refl _) | assumption | refine Grow.ext ?_ _ | refine Grow.alloc ?_ _ | refine Grow.drew ?_ | refine Grow.setCell ?_ (by first | (simp; done) | (simp; omega)) _ | refine Grow.trans ?_ (by assumption)))))).mono ?_); rintro e w2 ⟨rfl, hb2⟩; obtain ⟨x2, rfl⟩ := ext_of_grow hb2; clear hb2)) | (go_at_call 44; ((with_reducible refine (HC3.out _ (hw.grow (by (repeat (first | (with_reducible exact Grow.refl _) | assumption | refine Grow.ext ?_ _ | refine Grow.alloc ?_ _ | refine Grow.drew ?_ | refine Grow.setCell ?_ (by first | (simp; done) | (simp; omega)) _ | refine Grow.trans ?_ (by assumption)))))).mono ?_); rintro e w3 ⟨rfl, hb3⟩; obtain ⟨x3, rfl⟩ := ext_of_grow hb3; clear hb3)) | (go_at_call 11; ((with_reducible refine (HO.out _).mono ?_); rintro e w5 ⟨rfl, hb5⟩; obtain ⟨x5, rfl⟩ := ext_of_grow hb5; clear hb5)) | (go_at_call 45; ((with_reducible refine (HN.out _ (hw.grow (by (repeat (first | (with_reducible exact Grow.refl _) | assumption | refine Grow.ext ?_ _ | refine Grow.alloc ?_ _ | refine Grow.drew ?_ | refine Grow.setCell ?_ (by first | (simp; done) | (simp; omega)) _ | refine Grow.trans ?_ (by assumption)))))).mono ?_); rintro e w4 ⟨rfl, hb4⟩; obtain ⟨x4, rfl⟩ := ext_of_grow hb4; clear hb4)))
        refine postP_of (v := .tuple #[(vrn 0 0 [] []).v (.slice none 0 0) (.slice none 0 0), .bool false]) (by simp only [results, Tryd.results48]; go_simp) rfl (by (repeat (first | (with_reducible exact Grow.refl _) | assumption | refine Grow.ext ?_ _ | refine Grow.alloc ?_ _ | refine Grow.drew ?_ | refine Grow.setCell ?_ (by first | (simp; done) | (simp; omega)) _ | refine Grow.trans ?_ (by assumption)))) ⟨_, _, _, _, _, _, _, false, rfl, HR.out, fun h => by cases h⟩
    | some o =>
      have ho8 : U8 o := by have := (outOf_some ho).1; exact ⟨by omega, by omega⟩
      have e1 : ofW wd = o ∧ ofE wd = 0 := by unfold ofW ofE; rw [ho]; exact ⟨rfl, rfl⟩
      rw [e1.1, e1.2] at HO
      rw [ho] at HR
      clear e1 ho
      cases f3
      · replace HR : Hid (R = none) := Lib.hid (by rw [HR.out]; simp)
        go_enter Tryd.func48, Tryd.ntmps48
        go_wp2_with (first | (go_at_call 44; ((with_reducible refine (HC1.out _ (hw.grow (by (repeat (first | (with_reducible exact Grow.refl _) | assumption | refine Grow.ext ?_ _ | refine Grow.alloc ?_ _ | refine Grow.drew ?_ | refine Grow.setCell ?_ (by first | (simp; done) | (simp; omega)) _ | refine Grow.trans ?_ (by assumption)))))).mono ?_); rintro e w1 ⟨rfl, hb1⟩; obtain ⟨x1, rfl⟩ := ext_of_grow hb1; clear hb1)) | (go_at_call 44; ((with_reducible refine (HC2.out _ (hw.grow (by (repeat (first | (with_reducible exact Grow.refl _) | assumption | refine Grow.ext ?_ _ | refine Grow.alloc ?_ _ | refine Grow.drew ?_ | refine Grow.setCell ?_ (by first | (simp; done) | (simp; omega)) _ | refine Grow.trans ?_ (by assumption)))))).mono ?_); rintro e w2 ⟨rfl, hb2⟩; obtain ⟨x2, rfl⟩ := ext_of_grow hb2; clear hb2)) | (go_at_call 44; ((with_reducible refine (HC3.out _ (hw.grow (by (repeat (first | (with_reducible exact Grow.refl _) | assumption | refine Grow.ext ?_ _ | refine Grow.alloc ?_ _ | refine Grow.drew ?_ | refine Grow.setCell ?_ (by first | (simp; done) | (simp; omega)) _ | refine Grow.trans ?_ (by assumption)))))).mono ?_); rintro e w3 ⟨rfl, hb3⟩; obtain ⟨x3, rfl⟩ := ext_of_grow hb3; clear hb3)) | (go_at_call 11; ((with_reducible refine (HO.out _).mono ?_); rintro e w5 ⟨rfl, hb5⟩; obtain ⟨x5, rfl⟩ := ext_of_grow hb5; clear hb5)) | (go_at_call 45; ((with_reducible refine (HN.out _ (hw.grow (by (repeat (first | (with_reducible exact Grow.refl _) | assumption | refine Grow.ext ?_ _ | refine Grow.alloc ?_ _ | refine Grow.drew ?_ | refine Grow.setCell ?_ (by first | (simp; done) | (simp; omega)) _ | refine Grow.trans ?_ (by assumption)))))).mono ?_); rintro e w4 ⟨rfl, hb4⟩; obtain ⟨x4, rfl⟩ := ext_of_grow hb4; clear hb4)))
        refine postP_of (v := .tuple #[(vrn 0 0 [] []).v (.slice none 0 0) (.slice none 0 0), .bool false]) (by simp only [results, Tryd.results48]; go_simp) rfl (by (repeat (first | (with_reducible exact Grow.refl _) | assumption | refine Grow.ext ?_ _ | refine Grow.alloc ?_ _ | refine Grow.drew ?_ | refine Grow.setCell ?_ (by first | (simp; done) | (simp; omega)) _ | refine Grow.trans ?_ (by assumption)))) ⟨_, _, _, _, _, _, _, false, rfl, HR.out, fun h => by cases h⟩
      · go_enter Tryd.func48, Tryd.ntmps48
        go_wp2_with (first | (go_at_call 44; ((with_reducible refine (HC1.out _ (hw.grow (by (repeat (first | (with_reducible exact Grow.refl _) | assumption | refine Grow.ext ?_ _ | refine Grow.alloc ?_ _ | refine Grow.drew ?_ | refine Grow.setCell ?_ (by first | (simp; done) | (simp; omega)) _ | refine Grow.trans ?_ (by assumption)))))).mono ?_); rintro e w1 ⟨rfl, hb1⟩; obtain ⟨x1, rfl⟩ := ext_of_grow hb1; clear hb1)) | (go_at_call 44; ((with_reducible refine (HC2.out _ (hw.grow (by (repeat (first | (with_reducible exact Grow.refl _) | assumption | refine Grow.ext ?_ _ | refine Grow.alloc ?_ _ | refine Grow.drew ?_ | refine Grow.setCell ?_ (by first | (simp; done) | (simp; omega)) _ | refine Grow.trans ?_ (by assumption)))))).mono ?_); rintro e w2 ⟨rfl, hb2⟩; obtain ⟨x2, rfl⟩ := ext_of_grow hb2; clear hb2)) | (go_at_call 44; ((with_reducible refine (HC3.out _ (hw.grow (by (repeat (first | (with_reducible exact Grow.refl _) | assumption | refine Grow.ext ?_ _ | refine Grow.alloc ?_ _ | refine Grow.drew ?_ | refine Grow.setCell ?_ (by first | (simp; done) | (simp; omega)) _ | refine Grow.trans ?_ (by assumption)))))).mono ?_); rintro e w3 ⟨rfl, hb3⟩; obtain ⟨x3, rfl⟩ := ext_of_grow hb3; clear hb3)) | (go_at_call 11; ((with_reducible refine (HO.out _).mono ?_); rintro e w5 ⟨rfl, hb5⟩; obtain ⟨x5, rfl⟩ := ext_of_grow hb5; clear hb5)) | (go_at_call 45; ((with_reducible refine (HN.out _ (hw.grow (by (repeat (first | (with_reducible exact Grow.refl _) | assumption | refine Grow.ext ?_ _ | refine Grow.alloc ?_ _ | refine Grow.drew ?_ | refine Grow.setCell ?_ (by first | (simp; done) | (simp; omega)) _ | refine Grow.trans ?_ (by assumption)))))).mono ?_); rintro e w4 ⟨rfl, hb4⟩; obtain ⟨x4, rfl⟩ := ext_of_grow hb4; clear hb4)))
        replace HR : Hid (R = match numsP p1, numsP p2 with | some a, some b => some (vrn o n a b) | _, _ => none) := Lib.hid (by
          rw [HR.out]; simp only [if_true]
          cases numsP p1 <;> cases numsP p2 <;> rfl)
        go_loopw [74] (fun iv wr => ∃ (k : Nat) (qa : Option Addr) (qn qc : Nat) (ra : Option Addr) (rn rc : Nat) (x : Ext), iv = .int .i64 k ∧ k ≤ 2 ∧ wr = (ext ((ext (ext (ext (ext (ext ((w.alloc (.cells #[.int .u8 0, .int .i64 0, .int .i64 0, .int .i64 0, .int .i64 0, .int .i64 0, .bool false, .int .u8 0, .bool false, .bool false, .int .u8 0, .int .i64 0, .slice none 0 0, .slice none 0 0] 31)).alloc (.cells #[.int .u8 5, .int .i64 0, .int .i64 0, .int .i64 0, .int .i64 0, .int .i64 0, .bool false, .int .u8 0, .bool false, .bool false, .int .u8 o, .int .i64 n, .slice qa qn qc, .slice ra rn rc] 31)) x1) x2) x3) x4) x5).alloc (.cells #[.string (str p1), .string (str p2)] 9)) x) ∧ StR (fun k => w.heap.size + 1 < k) p1 p2 wr k (.slice qa qn qc) (.slice ra rn rc)) (fun iv _ => 2 - (intOf iv).toNat)
        case atStart => exact ⟨0, none, 0, 0, none, 0, 0, _, rfl, by omega, (ext_self _).symm, Or.inl ⟨rfl, rfl, rfl⟩⟩
        case round =>
          obtain ⟨k, qa, qn, qc, ra, rn, rc, x, rfl, hk, rfl, hst⟩ := hrel
          rcases hst with ⟨rfl, hq, hr⟩ | ⟨rfl, ⟨a, ha, hq⟩, hr⟩ | ⟨rfl, ⟨a, ha, hq⟩, b, hb, hr⟩
          · injection hq with e1 e2 e3
            injection hr with e4 e5 e6
            subst e1 e2 e3 e4 e5 e6
            cases p1 with
            | nil =>
              go_wp2_with fail
              refine ⟨⟨1, none, 0, 0, none, 0, 0, x, by go_num, by omega, rfl, Or.inr (Or.inl ⟨rfl, ⟨[], rfl, Sl.nil _ _⟩, rfl⟩)⟩, by simp [intOf]⟩
            | cons c r =>
              have hrl : r.length ≤ 999998 := by simp at l3; omega
              by_cases hc : c = 32
              · subst hc
                have hx := str_tail 32 r
                cases hm : (parts r).mapM numP with
                | none =>
                  replace HR : Hid (R = none) := Lib.hid (by have h := HR.out; rw [numsP_cons, hm] at h; simpa using h)
                  go_wp2_with (first
                    | (go_at_call 47; ((with_reducible refine (split_c r (by omega) _ (hw.grow (by (repeat (first | (with_reducible exact Grow.refl _) | assumption | refine Grow.ext ?_ _ | refine Grow.alloc ?_ _ | refine Grow.drew ?_ | refine Grow.setCell ?_ (by first | (simp; done) | (simp; omega)) _ | refine Grow.trans ?_ (by assumption)))))).mono ?_); rintro e w7 ⟨_, rfl, ⟨sa, sc, rfl, hsp⟩, hb7⟩; obtain ⟨x7, rfl⟩ := ext_of_grow hb7; clear hb7))
                    | (go_at_call 58; ((with_reducible refine (nums_none hm (by omega) _ _ (hsp.mono (by (repeat (first | (with_reducible exact Grow.refl _) | assumption | refine Grow.ext ?_ _ | refine Grow.alloc ?_ _ | refine Grow.drew ?_ | refine Grow.setCell ?_ (by first | (simp; done) | (simp; omega)) _ | refine Grow.trans ?_ (by assumption))))) (hw.grow (by (repeat (first | (with_reducible exact Grow.refl _) | assumption | refine Grow.ext ?_ _ | refine Grow.alloc ?_ _ | refine Grow.drew ?_ | refine Grow.setCell ?_ (by first | (simp; done) | (simp; omega)) _ | refine Grow.trans ?_ (by assumption)))))).mono ?_); rintro e w8 ⟨rfl, hb8⟩; obtain ⟨x8, rfl⟩ := ext_of_grow hb8; clear hb8)))
                  refine postP_of (v := .tuple #[(vrn o n [] []).v (.slice none 0 0) (.slice none 0 0), .bool false]) (by simp only [results, Tryd.results48]; go_simp) rfl (by (repeat (first | (with_reducible exact Grow.refl _) | assumption | refine Grow.ext ?_ _ | refine Grow.alloc ?_ _ | refine Grow.drew ?_ | refine Grow.setCell ?_ (by first | (simp; done) | (simp; omega)) _ | refine Grow.trans ?_ (by assumption)))) ⟨_, _, _, _, _, _, _, false, rfl, HR.out, fun h => by cases h⟩
                | some a =>
                  have ha := (numsP_cons r).trans hm
                  go_wp2_with (first
                    | (go_at_call 47; ((with_reducible refine (split_c r (by omega) _ (hw.grow (by (repeat (first | (with_reducible exact Grow.refl _) | assumption | refine Grow.ext ?_ _ | refine Grow.alloc ?_ _ | refine Grow.drew ?_ | refine Grow.setCell ?_ (by first | (simp; done) | (simp; omega)) _ | refine Grow.trans ?_ (by assumption)))))).mono ?_); rintro e w7 ⟨_, rfl, ⟨sa, sc, rfl, hsp⟩, hb7⟩; obtain ⟨x7, rfl⟩ := ext_of_grow hb7; clear hb7))
                    | (go_at_call 58; ((with_reducible refine (nums_some hm (by omega) _ _ (hsp.mono (by (repeat (first | (with_reducible exact Grow.refl _) | assumption | refine Grow.ext ?_ _ | refine Grow.alloc ?_ _ | refine Grow.drew ?_ | refine Grow.setCell ?_ (by first | (simp; done) | (simp; omega)) _ | refine Grow.trans ?_ (by assumption))))) (hw.grow (by (repeat (first | (with_reducible exact Grow.refl _) | assumption | refine Grow.ext ?_ _ | refine Grow.alloc ?_ _ | refine Grow.drew ?_ | refine Grow.setCell ?_ (by first | (simp; done) | (simp; omega)) _ | refine Grow.trans ?_ (by assumption)))))).mono ?_); rintro e w8 ⟨_, rfl, ⟨ua, un, uc, rfl, hnm⟩, hb8⟩; obtain ⟨x8, rfl⟩ := ext_of_grow hb8; clear hb8)))
                  have h1 := hnm.wide (F' := fun k => w.heap.size + 1 < k) (by intro q _ h; unfold Frs at h; simp only [size_ext, alloc_size] at h; omega)
                  have h2 := h1.keep ((((((((((AgrS.alloc (AgrS.refl (fun k => w.heap.size + 1 < k) (w.alloc (.cells #[.int .u8 0, .int .i64 0, .int .i64 0, .int .i64 0, .int .i64 0, .int .i64 0, .bool false, .int .u8 0, .bool false, .bool false, .int .u8 0, .int .i64 0, .slice none 0 0, .slice none 0 0] 31))) (by simp) (.cells #[.int .u8 5, .int .i64 0, .int .i64 0, .int .i64 0, .int .i64 0, .int .i64 0, .bool false, .int .u8 0, .bool false, .bool false, .int .u8 o, .int .i64 n, .slice none 0 0, .slice none 0 0] 31) (.cells #[.int .u8 5, .int .i64 0, .int .i64 0, .int .i64 0, .int .i64 0, .int .i64 0, .bool false, .int .u8 0, .bool false, .bool false, .int .u8 o, .int .i64 n, .slice ua un uc, .slice none 0 0] 31)).ext x1).ext x2).ext x3).ext x4).ext x5).same (.cells #[.string (str (32 :: r)), .string (str p2)] 9)).ext x).ext x7).ext x8).agr
                  refine ⟨⟨1, ua, un, uc, none, 0, 0, _, by go_num, by omega, (by rw [ext_ext, ext_ext]), Or.inr (Or.inl ⟨rfl, ⟨a, ha, h2⟩, rfl⟩)⟩, by simp [intOf]⟩
              · replace HR : Hid (R = none) := Lib.hid (by have h := HR.out; rw [numsP_bad r hc] at h; simpa using h)
                have hcn : ¬ c.toNat = 32 := fun h => hc (UInt8.toNat_inj.1 h)
                have hcz : (str (c :: r))[0]'(by simp [ByteArray.size]) = c := rfl
                have hci : ((c.toNat : Int) != 32) = true := by simp; omega
                go_wp2_with fail
                refine postP_of (v := .tuple #[(vrn o n [] []).v (.slice none 0 0) (.slice none 0 0), .bool false]) (by simp only [results, Tryd.results48]; go_simp) rfl (by (repeat (first | (with_reducible exact Grow.refl _) | assumption | refine Grow.ext ?_ _ | refine Grow.alloc ?_ _ | refine Grow.drew ?_ | refine Grow.setCell ?_ (by first | (simp; done) | (simp; omega)) _ | refine Grow.trans ?_ (by assumption)))) ⟨_, _, _, _, _, _, _, false, rfl, HR.out, fun h => by cases h⟩
          · injection hr with e4 e5 e6
            subst e4 e5 e6
            cases p2 with
            | nil =>
              go_wp2_with fail
              refine ⟨⟨2, qa, qn, qc, none, 0, 0, x, by go_num, by omega, rfl, Or.inr (Or.inr ⟨rfl, ⟨a, ha, hq⟩, [], rfl, Sl.nil _ _⟩)⟩, by simp [intOf]⟩
            | cons c r =>
              have hrl : r.length ≤ 999998 := by simp at l4; omega
              by_cases hc : c = 32
              · subst hc
                have hx := str_tail 32 r
                cases hm : (parts r).mapM numP with
                | none =>
                  replace HR : Hid (R = none) := Lib.hid (by have h := HR.out; rw [ha, numsP_cons, hm] at h; simpa using h)
                  go_wp2_with (first
                    | (go_at_call 47; ((with_reducible refine (split_c r (by omega) _ (hw.grow (by (repeat (first | (with_reducible exact Grow.refl _) | assumption | refine Grow.ext ?_ _ | refine Grow.alloc ?_ _ | refine Grow.drew ?_ | refine Grow.setCell ?_ (by first | (simp; done) | (simp; omega)) _ | refine Grow.trans ?_ (by assumption)))))).mono ?_); rintro e w7 ⟨_, rfl, ⟨sa, sc, rfl, hsp⟩, hb7⟩; obtain ⟨x7, rfl⟩ := ext_of_grow hb7; clear hb7))
                    | (go_at_call 58; ((with_reducible refine (nums_none hm (by omega) _ _ (hsp.mono (by (repeat (first | (with_reducible exact Grow.refl _) | assumption | refine Grow.ext ?_ _ | refine Grow.alloc ?_ _ | refine Grow.drew ?_ | refine Grow.setCell ?_ (by first | (simp; done) | (simp; omega)) _ | refine Grow.trans ?_ (by assumption))))) (hw.grow (by (repeat (first | (with_reducible exact Grow.refl _) | assumption | refine Grow.ext ?_ _ | refine Grow.alloc ?_ _ | refine Grow.drew ?_ | refine Grow.setCell ?_ (by first | (simp; done) | (simp; omega)) _ | refine Grow.trans ?_ (by assumption)))))).mono ?_); rintro e w8 ⟨rfl, hb8⟩; obtain ⟨x8, rfl⟩ := ext_of_grow hb8; clear hb8)))
                  refine postP_of (v := .tuple #[(vrn o n a []).v (.slice qa qn qc) (.slice none 0 0), .bool false]) (by simp only [results, Tryd.results48]; go_simp) rfl (by (repeat (first | (with_reducible exact Grow.refl _) | assumption | refine Grow.ext ?_ _ | refine Grow.alloc ?_ _ | refine Grow.drew ?_ | refine Grow.setCell ?_ (by first | (simp; done) | (simp; omega)) _ | refine Grow.trans ?_ (by assumption)))) ⟨_, _, _, _, _, _, _, false, rfl, HR.out, fun h => by cases h⟩
                | some b =>
                  have hbb := (numsP_cons r).trans hm
                  go_wp2_with (first
                    | (go_at_call 47; ((with_reducible refine (split_c r (by omega) _ (hw.grow (by (repeat (first | (with_reducible exact Grow.refl _) | assumption | refine Grow.ext ?_ _ | refine Grow.alloc ?_ _ | refine Grow.drew ?_ | refine Grow.setCell ?_ (by first | (simp; done) | (simp; omega)) _ | refine Grow.trans ?_ (by assumption)))))).mono ?_); rintro e w7 ⟨_, rfl, ⟨sa, sc, rfl, hsp⟩, hb7⟩; obtain ⟨x7, rfl⟩ := ext_of_grow hb7; clear hb7))
                    | (go_at_call 58; ((with_reducible refine (nums_some hm (by omega) _ _ (hsp.mono (by (repeat (first | (with_reducible exact Grow.refl _) | assumption | refine Grow.ext ?_ _ | refine Grow.alloc ?_ _ | refine Grow.drew ?_ | refine Grow.setCell ?_ (by first | (simp; done) | (simp; omega)) _ | refine Grow.trans ?_ (by assumption))))) (hw.grow (by (repeat (first | (with_reducible exact Grow.refl _) | assumption | refine Grow.ext ?_ _ | refine Grow.alloc ?_ _ | refine Grow.drew ?_ | refine Grow.setCell ?_ (by first | (simp; done) | (simp; omega)) _ | refine Grow.trans ?_ (by assumption)))))).mono ?_); rintro e w8 ⟨_, rfl, ⟨ua, un, uc, rfl, hnm⟩, hb8⟩; obtain ⟨x8, rfl⟩ := ext_of_grow hb8; clear hb8)))
                  have h1 := hnm.wide (F' := fun k => w.heap.size + 1 < k) (by intro q _ h; unfold Frs at h; simp only [size_ext, alloc_size] at h; omega)
                  have h2 := h1.keep ((((((((((AgrS.alloc (AgrS.refl (fun k => w.heap.size + 1 < k) (w.alloc (.cells #[.int .u8 0, .int .i64 0, .int .i64 0, .int .i64 0, .int .i64 0, .int .i64 0, .bool false, .int .u8 0, .bool false, .bool false, .int .u8 0, .int .i64 0, .slice none 0 0, .slice none 0 0] 31))) (by simp) (.cells #[.int .u8 5, .int .i64 0, .int .i64 0, .int .i64 0, .int .i64 0, .int .i64 0, .bool false, .int .u8 0, .bool false, .bool false, .int .u8 o, .int .i64 n, .slice qa qn qc, .slice none 0 0] 31) (.cells #[.int .u8 5, .int .i64 0, .int .i64 0, .int .i64 0, .int .i64 0, .int .i64 0, .bool false, .int .u8 0, .bool false, .bool false, .int .u8 o, .int .i64 n, .slice qa qn qc, .slice ua un uc] 31)).ext x1).ext x2).ext x3).ext x4).ext x5).same (.cells #[.string (str p1), .string (str (32 :: r))] 9)).ext x).ext x7).ext x8).agr
                  have h3 := (((hq.mono (grow_ext _ x7)).mono (grow_ext _ x8))).keep ((((((((((AgrS.alloc (AgrS.refl (fun k => w.heap.size + 1 < k) (w.alloc (.cells #[.int .u8 0, .int .i64 0, .int .i64 0, .int .i64 0, .int .i64 0, .int .i64 0, .bool false, .int .u8 0, .bool false, .bool false, .int .u8 0, .int .i64 0, .slice none 0 0, .slice none 0 0] 31))) (by simp) (.cells #[.int .u8 5, .int .i64 0, .int .i64 0, .int .i64 0, .int .i64 0, .int .i64 0, .bool false, .int .u8 0, .bool false, .bool false, .int .u8 o, .int .i64 n, .slice qa qn qc, .slice none 0 0] 31) (.cells #[.int .u8 5, .int .i64 0, .int .i64 0, .int .i64 0, .int .i64 0, .int .i64 0, .bool false, .int .u8 0, .bool false, .bool false, .int .u8 o, .int .i64 n, .slice qa qn qc, .slice ua un uc] 31)).ext x1).ext x2).ext x3).ext x4).ext x5).same (.cells #[.string (str p1), .string (str (32 :: r))] 9)).ext x).ext x7).ext x8).agr
                  refine ⟨⟨2, qa, qn, qc, ua, un, uc, _, by go_num, by omega, (by rw [ext_ext, ext_ext]), Or.inr (Or.inr ⟨rfl, ⟨a, ha, h3⟩, b, hbb, h2⟩)⟩, by simp [intOf]⟩
              · replace HR : Hid (R = none) := Lib.hid (by have h := HR.out; rw [ha, numsP_bad r hc] at h; simpa using h)
                have hcn : ¬ c.toNat = 32 := fun h => hc (UInt8.toNat_inj.1 h)
                have hcz : (str (c :: r))[0]'(by simp [ByteArray.size]) = c := rfl
                have hci : ((c.toNat : Int) != 32) = true := by simp; omega
                go_wp2_with fail
                refine postP_of (v := .tuple #[(vrn o n a []).v (.slice qa qn qc) (.slice none 0 0), .bool false]) (by simp only [results, Tryd.results48]; go_simp) rfl (by (repeat (first | (with_reducible exact Grow.refl _) | assumption | refine Grow.ext ?_ _ | refine Grow.alloc ?_ _ | refine Grow.drew ?_ | refine Grow.setCell ?_ (by first | (simp; done) | (simp; omega)) _ | refine Grow.trans ?_ (by assumption)))) ⟨_, _, _, _, _, _, _, false, rfl, HR.out, fun h => by cases h⟩
          · go_wp2_with fail
            replace HR : Hid (R = some (vrn o n a b)) := Lib.hid (by have h := HR.out; rw [ha, hb] at h; exact h)
            have h1 := (hq.keep (((((((((AgrS.alloc (AgrS.refl (fun k => w.heap.size + 1 < k) w) (by simp) (.cells #[.int .u8 0, .int .i64 0, .int .i64 0, .int .i64 0, .int .i64 0, .int .i64 0, .bool false, .int .u8 0, .bool false, .bool false, .int .u8 0, .int .i64 0, .slice none 0 0, .slice none 0 0] 31) (.cells #[.int .u8 5, .int .i64 0, .int .i64 0, .int .i64 0, .int .i64 0, .int .i64 0, .bool false, .int .u8 0, .bool false, .bool false, .int .u8 o, .int .i64 n, .slice qa qn qc, .slice ra rn rc] 31)).same (.cells #[.int .u8 5, .int .i64 0, .int .i64 0, .int .i64 0, .int .i64 0, .int .i64 0, .bool false, .int .u8 0, .bool false, .bool false, .int .u8 o, .int .i64 n, .slice qa qn qc, .slice ra rn rc] 31)).ext x1).ext x2).ext x3).ext x4).ext x5).same (.cells #[.string (str p1), .string (str p2)] 9)).ext x).agr).wide (F' := Frs w) (by intro q _ h; unfold Frs; omega)
            have h2 := (hr.keep (((((((((AgrS.alloc (AgrS.refl (fun k => w.heap.size + 1 < k) w) (by simp) (.cells #[.int .u8 0, .int .i64 0, .int .i64 0, .int .i64 0, .int .i64 0, .int .i64 0, .bool false, .int .u8 0, .bool false, .bool false, .int .u8 0, .int .i64 0, .slice none 0 0, .slice none 0 0] 31) (.cells #[.int .u8 5, .int .i64 0, .int .i64 0, .int .i64 0, .int .i64 0, .int .i64 0, .bool false, .int .u8 0, .bool false, .bool false, .int .u8 o, .int .i64 n, .slice qa qn qc, .slice ra rn rc] 31)).same (.cells #[.int .u8 5, .int .i64 0, .int .i64 0, .int .i64 0, .int .i64 0, .int .i64 0, .bool false, .int .u8 0, .bool false, .bool false, .int .u8 o, .int .i64 n, .slice qa qn qc, .slice ra rn rc] 31)).ext x1).ext x2).ext x3).ext x4).ext x5).same (.cells #[.string (str p1), .string (str p2)] 9)).ext x).agr).wide (F' := Frs w) (by intro q _ h; unfold Frs; omega)
            have hok : (vrn o n a b).ok := ⟨by unfold U8; dsimp only; omega, by unfold I64; dsimp only; omega, by unfold I64; dsimp only; omega, by unfold I64; dsimp only; omega, by unfold I64; dsimp only; omega, ⟨by unfold I64; dsimp only; omega, by unfold U8; dsimp only; omega⟩, ho8, hn64, hq.i64s, hr.i64s⟩
            refine postP_of (v := .tuple #[(vrn o n a b).v (.slice qa qn qc) (.slice ra rn rc), .bool true]) (by simp only [results, Tryd.results48]; go_simp) rfl (by (repeat (first | (with_reducible exact Grow.refl _) | assumption | refine Grow.ext ?_ _ | refine Grow.alloc ?_ _ | refine Grow.drew ?_ | refine Grow.setCell ?_ (by first | (simp; done) | (simp; omega)) _ | refine Grow.trans ?_ (by assumption)))) ⟨_, _, _, _, _, _, _, true, rfl, HR.out, fun _ => ⟨hok, h1, h2⟩⟩
end Go.Proofs.YtjllaogechckoaaDoor
