/- Layer 7: which places occur in statements and jumps, plain; arrays of counters; functions that are told of places. -/
import Derived.Test.YthackfblfkpddaaL05b
namespace Go.Proofs.Ythackfblfkpddaa
open Go.RowKit
set_option linter.unusedSimpArgs false
set_option linter.unusedVariables false

instance : Rp Int where
  sz := 1
  R _ _ n cs := cs = [.int .i64 n] ∧ I64 n
  len h := by obtain ⟨rfl, _⟩ := h; rfl
  keep _ h := h
  wide _ h := h
theorem sz_int : Rp.sz Int = 1 := rfl
attribute [go_sem] sz_int
structure AtInt (F : Nat → Prop) (w : World) (ts : List Int) (i : Nat) (b off : Nat) (x : Int) : Prop where
  g : Hid (ts[i]? = some x)
  lt : LtW b w
  wf : I64 x
  c0 : w.cell? ⟨b, off + i, none⟩ = some (.int .i64 x)
theorem Sl.int {F : Nat → Prop} {w : World} {a : Option Addr} {n cap : Nat} {ts : List Int} (h : Sl F w (.slice a n cap) ts) (i : Nat) (hi : i < n) : ∃ b off x, a = some ⟨b, off, none⟩ ∧ AtInt F w ts i b off x := by
  obtain ⟨b, off, x, cs, ha, hx, hlt, ⟨rfl, hw⟩, hc⟩ := h.get i hi
  exact ⟨b, off, x, ha, ⟨hx, hlt, hw, by have := hc 0 (by simp); simpa [sz_int] using this⟩⟩

abbrev Vis := Pl × Bool
def visO (may : Bool) (o : Opd) : List Vis := if o.kind = 1 then [] else [(o.pl, may && decide (o.kind = 3))]
def visOs (may : Bool) (l : List Opd) : List Vis := l.flatMap (visO may)
def visR (r : Rv) : List Vis := if r.kind = 4 ∨ r.kind = 5 then [(r.pl, false)] else if r.kind = 1 then visOs true [r.a] else visOs false [r.a, r.b]
def visS (s : St) : List Vis := if s.kind = 3 then [(⟨s.loc, false, 0⟩, false)] else if s.kind = 2 ∨ s.kind = 4 then visOs false [s.a] else if s.kind = 1 then (s.pl, false) :: visR s.r else []
def visJ (j : Ju) : List Vis := if j.kind = 2 then visOs false [j.a] else if j.kind = 4 then (j.dest, false) :: visOs true j.args else []
def visFold {S : Type} (step : S → Pl → Bool → S) (s : S) (vs : List Vis) : S := vs.foldl (fun s v => step s v.1 v.2) s
theorem visFold_nil {S : Type} (step : S → Pl → Bool → S) (s : S) : visFold step s [] = s := rfl
theorem visFold_cons {S : Type} (step : S → Pl → Bool → S) (s : S) (v : Vis) (vs : List Vis) : visFold step s (v :: vs) = visFold step (step s v.1 v.2) vs := rfl
theorem visFold_append {S : Type} (step : S → Pl → Bool → S) (s : S) (us vs : List Vis) : visFold step s (us ++ vs) = visFold step (visFold step s us) vs := by
  unfold visFold; exact List.foldl_append ..
theorem visOs_snoc {may : Bool} {l : List Opd} {k : Nat} {x : Opd} (h : Hid (l[k]? = some x)) : visOs may (l.take (k + 1)) = visOs may (l.take k) ++ visO may x := by
  unfold visOs; rw [List.take_add_one, h.out]; simp

theorem ext_ext (W : World) (x y : Ext) : ext (ext W x) y = ext W ⟨y.d, x.x ++ y.x⟩ := by simp [ext, Array.append_assoc]
theorem ext_self (W : World) : ext W ⟨W.drawn, #[]⟩ = W := by simp [ext]
theorem ext_of_alloc (W : World) (o : Obj) (x : Ext) : ext (W.alloc o) x = ext W ⟨x.d, #[o] ++ x.x⟩ := by
  simp only [ext, World.alloc]; congr 1; apply Array.ext'; simp
theorem ext_of_drew (W : World) (x : Ext) : ext W.drew x = ext W x := rfl

/-- The function value k over c1, c2 is told of places; W s: the world in the state s. -/
structure On {S : Type} (k : Nat) (c1 c2 : Value) (W : S → World) (step : S → Pl → Bool → S) (G : Pl → Prop) : Prop where
  size : ∀ s s', (W s).heap.size = (W s').heap.size
  call : ∀ s x (p : Pl) b, p.wf → G p → Calls Try.prog k #[p.v, .bool b, c1, c2] (ext (W s) x) (fun e w' => e = .returned (.tuple #[]) ∧ ∃ y, w' = ext (ext (W (step s p b)) x) y)
theorem On.ext {S : Type} {k : Nat} {c1 c2 : Value} {W : S → World} {step : S → Pl → Bool → S} {G : Pl → Prop} (h : On k c1 c2 W step G) (x0 : Ext) : On k c1 c2 (fun s => Go.Proofs.Ythackfblfkpddaa.ext (W s) x0) step G where
  size s s' := by simp only [size_ext]; rw [h.size s s']
  call s x p b hw hp := by
    have q := h.call s ⟨x.d, x0.x ++ x.x⟩ p b hw hp
    rw [← ext_ext] at q
    refine q.mono fun e w' ⟨he, y, hy⟩ => ⟨he, y, ?_⟩
    rw [hy]; congr 1; rw [ext_ext]
theorem On.alloc {S : Type} {k : Nat} {c1 c2 : Value} {W : S → World} {step : S → Pl → Bool → S} {G : Pl → Prop} (h : On k c1 c2 W step G) (o : Obj) : On k c1 c2 (fun s => (W s).alloc o) step G where
  size s s' := by simp only [alloc_size]; rw [h.size s s']
  call s x p b hw hp := by
    have q := h.call s ⟨x.d, #[o] ++ x.x⟩ p b hw hp
    rw [← ext_of_alloc] at q
    refine q.mono fun e w' ⟨he, y, hy⟩ => ⟨he, y, ?_⟩
    rw [hy]; congr 1; rw [ext_of_alloc]
theorem On.at {S : Type} {k : Nat} {c1 c2 : Value} {W : S → World} {step : S → Pl → Bool → S} {G : Pl → Prop} (h : On k c1 c2 W step G) (s : S) (p : Pl) (b : Bool) (hw : p.wf) (hp : G p) :
    Calls Try.prog k #[p.v, .bool b, c1, c2] (W s) (fun e w' => e = .returned (.tuple #[]) ∧ ∃ y, w' = Go.Proofs.Ythackfblfkpddaa.ext (W (step s p b)) y) := by
  have q := h.call s ⟨(W s).drawn, #[]⟩ p b hw hp
  rw [ext_self] at q
  refine q.mono fun e w' ⟨he, y, hy⟩ => ⟨he, ⟨y.d, #[] ++ y.x⟩, ?_⟩
  rw [hy, ext_ext]
theorem On.szW {S : Type} {k : Nat} {c1 c2 : Value} {W : S → World} {step : S → Pl → Bool → S} {G : Pl → Prop} (h : On k c1 c2 W step G) (s s' : S) : EqW (W s).heap.size (W s') := ⟨h.size s s'⟩
/-- What the visitors leave. -/
def Told {S : Type} (W : S → World) (s : S) (e : Ending) (w' : World) : Prop := e = .returned (.tuple #[]) ∧ ∃ y, w' = ext (W s) y
end Go.Proofs.Ythackfblfkpddaa
