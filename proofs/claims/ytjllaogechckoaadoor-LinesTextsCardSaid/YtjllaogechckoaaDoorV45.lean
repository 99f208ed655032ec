/- Layer 45: verdicts and texts in memory; what the first world holds. -/
import Derived.Test.YtjllaogechckoaaDoorL45c
import Derived.Test.YtjllaogechckoaaDoorOwn
import Derived.Test.YtjllaogechckoaaDoorReg
namespace Go.Proofs.YtjllaogechckoaaDoor
open Go.RowKit
set_option linter.unusedSimpArgs false
set_option linter.unusedVariables false

instance : Rp Int where
  sz := 1
  R _ _ n cs := cs = [.int .i64 n] ∧ I64 n
  len h := by obtain ⟨rfl, _⟩ := h; rfl
  keep _ h := h
  wide _ h := h
theorem sz_int : Rp.sz Int = 1 := rfl
attribute [go_sem] sz_int
structure AtInt (F : Nat → Prop) (w : World) (ts : List Int) (i : Nat) (b off : Nat) (x : Int) : Prop where
  g : Hid (ts[i]? = some x)
  lt : LtW b w
  wf : I64 x
  c0 : w.cell? ⟨b, off + i, none⟩ = some (.int .i64 x)
theorem Sl.int {F : Nat → Prop} {w : World} {a : Option Addr} {n cap : Nat} {ts : List Int} (h : Sl F w (.slice a n cap) ts) (i : Nat) (hi : i < n) : ∃ b off x, a = some ⟨b, off, none⟩ ∧ AtInt F w ts i b off x := by
  obtain ⟨b, off, x, cs, ha, hx, hlt, ⟨rfl, hw⟩, hc⟩ := h.get i hi
  exact ⟨b, off, x, ha, ⟨hx, hlt, hw, by have := hc 0 (by simp); simpa [sz_int] using this⟩⟩
abbrev str (l : Bs) : ByteArray := ⟨l.toArray⟩
instance instRpBs : Rp Bs where
  sz := 1
  R _ _ s cs := cs = [.string (str s)]
  len h := by obtain rfl := h; rfl
  keep _ h := h
  wide _ h := h
theorem sz_bs : Rp.sz Bs = 1 := rfl
attribute [go_sem] sz_bs
structure AtBs (F : Nat → Prop) (w : World) (ts : List Bs) (i : Nat) (b off : Nat) (x : Bs) : Prop where
  g : Hid (ts[i]? = some x)
  lt : LtW b w
  c0 : w.cell? ⟨b, off + i, none⟩ = some (.string (str x))
theorem Sl.bs {F : Nat → Prop} {w : World} {a : Option Addr} {n cap : Nat} {ts : List Bs} (h : Sl F w (.slice a n cap) ts) (i : Nat) (hi : i < n) : ∃ b off x, a = some ⟨b, off, none⟩ ∧ AtBs F w ts i b off x := by
  obtain ⟨b, off, x, cs, ha, hx, hlt, rfl, hc⟩ := h.get i hi
  exact ⟨b, off, x, ha, ⟨hx, hlt, by have := hc 0 (by simp); simpa [sz_bs] using this⟩⟩
theorem str_eq (s : ByteArray) : str s.data.toList = s := by simp [str]
theorem str_data (l : Bs) : (str l).data.toList = l := by simp [str]
theorem str_inj {a b : Bs} : str a = str b ↔ a = b := ⟨fun h => by rw [← str_data a, h, str_data], fun h => by rw [h]⟩
theorem str_app (a b : Bs) : str a ++ str b = str (a ++ b) := by apply ByteArray.ext; simp [str]
theorem str_size (l : Bs) : (str l).size = l.length := by simp [str, ByteArray.size]
/-- A string is the bytes of a list. -/
theorem str_of (s : ByteArray) : ∃ l : Bs, s = str l := ⟨s.data.toList, (str_eq s).symm⟩

abbrev Ve.v (x : Ve) (p r : Value) : Value := .agg #[.int .u8 x.kind, .int .i64 x.err, .int .i64 x.fn, .int .i64 x.at_, .int .i64 x.loan, .int .i64 x.pl.loc, .bool x.pl.deref, .int .u8 x.pl.field, .bool x.write, .bool x.deep, .int .u8 x.out, .int .i64 x.steps, p, r]
structure Ve.ok (x : Ve) : Prop where
  kind : U8 x.kind
  err : I64 x.err
  fn : I64 x.fn
  at_ : I64 x.at_
  loan : I64 x.loan
  pl : x.pl.wf
  out : U8 x.out
  steps : I64 x.steps
  prints : ∀ n ∈ x.prints, I64 n
  result : ∀ n ∈ x.result, I64 n
theorem Ve.ok.wf' {x : Ve} (h : x.ok) : x.wf := ⟨h.at_, h.loan, h.prints, h.result⟩
theorem ve0_ok : ve0.ok := by
  refine ⟨?_, ?_, ?_, ?_, ?_, ⟨?_, ?_⟩, ?_, ?_, ?_, ?_⟩ <;> first | (unfold U8; decide) | (unfold I64; decide) | (intro n h; cases h)
/-- Numbers in memory are of 64 bits. -/
theorem Sl.i64s {F : Nat → Prop} {w : World} {v : Value} {ts : List Int} (h : Sl F w v ts) : ∀ n ∈ ts, I64 n := by
  intro n hn
  obtain ⟨i, hi, rfl⟩ := List.getElem_of_mem hn
  obtain ⟨a, cap, _, _, _, _, hr⟩ := h
  obtain ⟨b, off, _, _, _, cs, ⟨_, hw⟩, _⟩ := hr i hi
  exact hw
def opOk (b : Bool) : Int := if b then 0 else 8
end Go.Proofs.YtjllaogechckoaaDoor
