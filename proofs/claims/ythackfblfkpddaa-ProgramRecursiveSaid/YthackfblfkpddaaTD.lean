/- A wide frame behind a name, with a list of what is known of its slots. -/
import Derived.Test.YthackfblfkpddaaTC
namespace Go.Proofs.Ythackfblfkpddaa
open Go.RowKit
set_option linter.unusedSimpArgs false
set_option linter.unusedVariables false

def Lk (a : Act) (l : List (Nat × Value)) : Prop := ∀ k v, l.lookup k = some v → a.eval (.tmp k) = v
section
variable {P : Program} {ops : Array Oper} {Q : Exit → Act → World → Prop} {a A : Act} {w : World} {N : Nat} {l : List (Nat × Value)}
theorem Lk.nil : Lk a [] := fun _ _ h => by cases h
theorem Lk.cons {k : Nat} {v : Value} (h : a.eval (.tmp k) = v) (t : Lk a l) : Lk a ((k, v) :: l) := fun j u hj => by
  rw [List.lookup_cons] at hj
  by_cases e : j = k
  · subst e
    simp only [BEq.rfl, Option.some.injEq] at hj
    rw [← hj]; exact h
  · rw [show (j == k) = false by simpa using e] at hj
    exact t j u hj
/-- The frame's size, no defers, and what is known of its slots. -/
structure St8 (a : Act) (N : Nat) (l : List (Nat × Value)) : Prop where
  size : a.tmps.size = N
  defers : a.defers = []
  lk : Lk a l
theorem St8.g (S : St8 a N l) (k : Nat) {v : Value} (h : l.lookup k = some v) : a.eval (.tmp k) = v := S.lk k v h
theorem St8.put (S : St8 a N l) {d : Nat} {u : Value} (hd : Nat.blt d N = true) : St8 (a.put (some d) u) N ((d, u) :: l) := by
  have hA : Hid (a.put (some d) u = a.put (some d) u) := Lib.hid rfl
  refine ⟨up_size hA S.size, up_defers hA S.defers, fun j v hj => ?_⟩
  rw [List.lookup_cons] at hj
  by_cases e : j = d
  · subst e
    simp only [BEq.rfl, Option.some.injEq] at hj
    rw [← hj]; exact up_same hA S.size hd
  · rw [show (j == d) = false by simpa using e] at hj
    exact up_other hA (by simpa using fun h => e h.symm) (S.lk j v hj)
theorem St8.no (S : St8 a N l) {u : Value} : St8 (a.put none u) N l := by
  have hA : Hid (a.put none u = a.put none u) := Lib.hid rfl
  exact ⟨up_size hA S.size, up_defers hA S.defers, fun j v hj => up_none hA (S.lk j v hj)⟩
/-- An operation that only reads. -/
theorem st_val (S : St8 a N l) {o : Oper} {rest : List Oper} (op' : Op) (v : Value) {d : Nat} (hd : o.dst = some d) (hdN : Nat.blt d N = true) (hw : Region.wanted o (yielded ops a.tmps) = true)
    (he : execOp a.eval o = execOp tiny.eval (tinyOp o op'))
    (h : ∀ K' : Act → World → Prop, K' ⟨#[v], []⟩ w → wpList P #[] (Qn K' (fun _ _ _ => False)) [tinyOp o op'] tiny w)
    (hK : ∀ A, St8 A N ((d, v) :: l) → wpList P ops Q rest A w) : wpList P ops Q (o :: rest) a w :=
  tiny_step op' (fun u w'' => u = v ∧ w'' = w) hw he (fun K' hK' => h K' (hK' _ _ ⟨rfl, rfl⟩)) (fun u w'' A hr hA => by
    obtain ⟨rfl, rfl⟩ := hr
    rw [hA.out, hd]
    exact hK _ (S.put hdN))
/-- An operation that makes memory, or calls. -/
theorem st_any (S : St8 a N l) {o : Oper} {rest : List Oper} (op' : Op) (R : Value → World → Prop) {d : Nat} (hd : o.dst = some d) (hdN : Nat.blt d N = true) (hw : Region.wanted o (yielded ops a.tmps) = true)
    (he : execOp a.eval o = execOp tiny.eval (tinyOp o op'))
    (h : ∀ K' : Act → World → Prop, (∀ u w'', R u w'' → K' ⟨#[u], []⟩ w'') → wpList P #[] (Qn K' (fun _ _ _ => False)) [tinyOp o op'] tiny w)
    (hK : ∀ u w'' A, R u w'' → St8 A N ((d, u) :: l) → wpList P ops Q rest A w'') : wpList P ops Q (o :: rest) a w :=
  tiny_step op' R hw he h (fun u w'' A hr hA => by
    rw [hA.out, hd]
    exact hK _ _ _ hr (S.put hdN))
/-- A store. -/
theorem st_put (S : St8 a N l) {o : Oper} {rest : List Oper} (op' : Op) (w' : World) (hd : o.dst = none) (hw : Region.wanted o (yielded ops a.tmps) = true)
    (he : execOp a.eval o = execOp tiny.eval (tinyOp o op'))
    (h : ∀ K' : Act → World → Prop, (∀ u, K' ⟨#[u], []⟩ w') → wpList P #[] (Qn K' (fun _ _ _ => False)) [tinyOp o op'] tiny w)
    (hK : ∀ A, St8 A N l → wpList P ops Q rest A w') : wpList P ops Q (o :: rest) a w :=
  tiny_step op' (fun u w'' => w'' = w') hw he (fun K' hK' => h K' (fun u => hK' u _ rfl)) (fun u w'' A hr hA => by
    subst hr
    rw [hA.out, hd]
    exact hK _ S.no)
theorem want_at {o : Oper} {g d : Nat} {b : Bool} {og : Oper} (S : St8 a N l) (h : o.guard = some (g, b)) (ho : ops[g]? = some og) (hd : og.dst = some d) (hs : Nat.blt d N = true) (hv : l.lookup d = some (.bool b)) : Region.wanted o (yielded ops a.tmps) = true :=
  wanted_at h ho hd (by rw [S.size]; exact Nat.blt_eq.mp hs) (S.g d hv)
/-- A literal frame. -/
theorem st_frame (S : St8 a N l) : ∃ f : Nat → Value, a = ⟨((List.range N).map f).toArray, []⟩ ∧ ∀ k v, l.lookup k = some v → f k = v := by
  obtain ⟨f, hf, hfk⟩ := frame_f S.size S.defers
  exact ⟨f, hf, fun k v h => (hfk k).symm.trans (S.g k h)⟩
end
/-- More memory, found by its shape. -/
class Gw (a b : World) : Prop where
  h : Grow a b
instance (a : World) : Gw a a := ⟨Grow.refl a⟩
instance {a b : World} {x : Ext} [i : Gw a b] : Gw a (ext b x) := ⟨i.h.ext x⟩
instance {a b : World} {o : Obj} [i : Gw a b] : Gw a (b.alloc o) := ⟨i.h.alloc o⟩
instance {a b : World} [i : Gw a b] : Gw a b.drew := ⟨i.h.drew⟩
end Go.Proofs.Ythackfblfkpddaa
