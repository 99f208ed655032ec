/- Layer 9: bytes as strings; the law's examples. -/
import Derived.Test.YtafcdabiplcjiaaGreatL09j
import Derived.Laws.BytesArg
namespace Go.Proofs.YtafcdabiplcjiaaGreat
open Go.RowKit
set_option linter.unusedSimpArgs false
set_option linter.unusedVariables false

/-- w' is w with more memory: found by instances. -/
class GrowC (w w' : World) : Prop where
  g : Grow w w'
instance (w : World) : GrowC w w := ⟨Grow.refl _⟩
instance {w w' : World} {x : Ext} [h : GrowC w w'] : GrowC w (ext w' x) := ⟨h.g.trans (grow_ext _ _)⟩
instance {w w' : World} {o : Obj} [h : GrowC w w'] : GrowC w (w'.alloc o) := ⟨h.g.alloc o⟩
instance {w w' : World} [h : GrowC w w'] : GrowC w w'.drew := ⟨h.g.drew⟩
def strB (l : List Nat) : ByteArray := ⟨(l.map fun n => UInt8.ofNat n).toArray⟩
theorem strB_nums (l : List Nat) : strOfNums (l.map fun n : Nat => (n : Int)) = strB l := by
  unfold strOfNums strB; congr 2; rw [List.map_map]; rfl
theorem conv_str {F : Nat → Prop} {w : World} {a : Option Addr} {n c : Nat} {bs : List Nat} (hs : Sl F w (.slice a n c) bs) : (convert 27 9 (.slice a n c)).run Tryz.prog w = .ok (.string (strB bs)) w := by
  have hl := hs.len
  by_cases hn : n = 0
  · subst hn
    obtain rfl : bs = [] := List.eq_nil_of_length_eq_zero hl.symm
    cases a with
    | none => exact run_convert_bytes_nil w 27 5 Tryz.underlying27 Tryz.underlying5 0 c 9 Tryz.underlying9
    | some a =>
      obtain ⟨b, off, e⟩ := a
      cases e with
      | none => exact run_convert_bytes_arg w 27 5 Tryz.underlying27 Tryz.underlying5 b off 0 c [] rfl (fun i hi => by omega) 9 Tryz.underlying9
      | some e =>
        rw [run_convert_bytes_string w 27 9 5 _ 0 c Tryz.underlying27 Tryz.underlying5 Tryz.underlying9, run_bytesToString w _ 0 c [] (by simp [loadCells, loadCellsFrom])]
        rfl
  · obtain ⟨b, off, x, cs, rfl, _⟩ := hs.get 0 (by omega)
    rw [run_convert_bytes_arg w 27 5 Tryz.underlying27 Tryz.underlying5 b off n c (bs.map fun n : Nat => (n : Int)) (by simp [hl]) (fun i hi => by
      obtain ⟨b', off', x, cs, ha, hx, hlt, ⟨rfl, hw⟩, hc⟩ := hs.get i hi
      simp only [Option.some.injEq, Addr.mk.injEq, and_true] at ha
      obtain ⟨rfl, rfl⟩ := ha
      have := hc 0 (by simp)
      simp only [sz_nat, Nat.mul_one, Nat.add_zero] at this
      rw [this]
      simp [List.getD_eq_getElem?_getD, hx.out]) 9 Tryz.underlying9, strB_nums]
theorem conv_at {F : Nat → Prop} {w : World} {a : Option Addr} {n c : Nat} {bs : List Nat} (hs : Sl F w (.slice a n c) bs) : ∀ (w' : World) [GrowC w w'], (convert 27 9 (.slice a n c)).run Tryz.prog w' = .ok (.string (strB bs)) w' :=
  fun w' h => conv_str (hs.mono h.g)
theorem strB_toList (l : List Nat) : (strB l).toList = l.map fun n => UInt8.ofNat n := by unfold strB; rw [ByteArray.toList_mk]
theorem strB_inj {l m : List Nat} (hl : ∀ x ∈ l, x < 256) (hm : ∀ x ∈ m, x < 256) (h : (strB l).toList = (strB m).toList) : l = m := by
  rw [strB_toList, strB_toList] at h
  induction l generalizing m with
  | nil => cases m with
    | nil => rfl
    | cons y m => simp at h
  | cons x l ih => cases m with
    | nil => simp at h
    | cons y m =>
      simp only [List.map_cons, List.cons.injEq] at h
      have e1 : x = y := by
        have := congrArg UInt8.toNat h.1
        have hx := hl x (by simp); have hy := hm y (by simp)
        simp at this; omega
      rw [e1, ih (fun x hx => hl x (by simp [hx])) (fun x hx => hm x (by simp [hx])) h.2]
abbrev ju3 : Ju := ⟨3, opd0, 0, 0, 0, [], ⟨0, false, 0⟩⟩
def oneF : Fn := ⟨0, false, [⟨1, 0⟩], [⟨[], ju3⟩]⟩
def oneP : Pr := ⟨[oneF]⟩
theorem one_bytes : prL oneP = [1, 0, 0, 1, 0, 1, 0, 3] ∧ prR oneP = 0 ∧ fnL oneF = [0, 0, 1, 0, 1, 0, 3] ∧ fnR oneF = 0 := by decide +kernel
theorem oneF_wf : oneF.wf := ⟨⟨by decide, by decide⟩⟩
end Go.Proofs.YtafcdabiplcjiaaGreat
