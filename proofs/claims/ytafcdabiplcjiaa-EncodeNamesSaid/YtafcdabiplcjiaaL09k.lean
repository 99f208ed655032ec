/- Layer 9: bytes as strings; the law's examples. -/
import Derived.Test.YtafcdabiplcjiaaL09j
import Derived.Laws.BytesArg
namespace Go.Proofs.Ytafcdabiplcjiaa
open Go.RowKit
set_option linter.unusedSimpArgs false
set_option linter.unusedVariables false

/-- w' is w with more memory: found by instances. -/
class GrowC (w w' : World) : Prop where
  g : Grow w w'
instance (w : World) : GrowC w w := ⟨Grow.refl _⟩
instance {w w' : World} {x : Ext} [h : GrowC w w'] : GrowC w (ext w' x) := ⟨h.g.trans (grow_ext _ _)⟩
instance {w w' : World} {o : Obj} [h : GrowC w w'] : GrowC w (w'.alloc o) := ⟨h.g.alloc o⟩
instance {w w' : World} [h : GrowC w w'] : GrowC w w'.drew := ⟨h.g.drew⟩
def strB (l : List Nat) : ByteArray := ⟨(l.map fun n => UInt8.ofNat n).toArray⟩
theorem strB_nums (l : List Nat) : strOfNums (l.map fun n : Nat => (n : Int)) = strB l := by
  unfold strOfNums strB; congr 2; rw [List.map_map]; rfl
theorem conv_str {F : Nat → Prop} {w : World} {a : Option Addr} {n c : Nat} {bs : List Nat} (hs : Sl F w (.slice a n c) bs) : (convert 27 9 (.slice a n c)).run Try.prog w = .ok (.string (strB bs)) w := by
  have hl := hs.len
  by_cases hn : n = 0
  · subst hn
    obtain rfl : bs = [] := List.eq_nil_of_length_eq_zero hl.symm
    cases a with
    | none => exact run_convert_bytes_nil w 27 5 Try.underlying27 Try.underlying5 0 c 9 Try.underlying9
    | some a =>
      obtain ⟨b, off, e⟩ := a
      cases e with
      | none => exact run_convert_bytes_arg w 27 5 Try.underlying27 Try.underlying5 b off 0 c [] rfl (fun i hi => by omega) 9 Try.underlying9
      | some e =>
        rw [run_convert_bytes_string w 27 9 5 _ 0 c Try.underlying27 Try.underlying5 Try.underlying9, run_bytesToString w _ 0 c [] (by simp [loadCells, loadCellsFrom])]
        rfl
  · obtain ⟨b, off, x, cs, rfl, _⟩ := hs.get 0 (by omega)
    rw [run_convert_bytes_arg w 27 5 Try.underlying27 Try.underlying5 b off n c (bs.map fun n : Nat => (n : Int)) (by simp [hl]) (fun i hi => by
      obtain ⟨b', off', x, cs, ha, hx, hlt, ⟨rfl, hw⟩, hc⟩ := hs.get i hi
      simp only [Option.some.injEq, Addr.mk.injEq, and_true] at ha
      obtain ⟨rfl, rfl⟩ := ha
      have := hc 0 (by simp)
      simp only [sz_nat, Nat.mul_one, Nat.add_zero] at this
      rw [this]
      simp [List.getD_eq_getElem?_getD, hx.out]) 9 Try.underlying9, strB_nums]
theorem conv_at {F : Nat → Prop} {w : World} {a : Option Addr} {n c : Nat} {bs : List Nat} (hs : Sl F w (.slice a n c) bs) : ∀ (w' : World) [GrowC w w'], (convert 27 9 (.slice a n c)).run Try.prog w' = .ok (.string (strB bs)) w' :=
  fun w' h => conv_str (hs.mono h.g)
theorem strB_toList (l : List Nat) : (strB l).toList = l.map fun n => UInt8.ofNat n := by unfold strB; rw [ByteArray.toList_mk]
theorem strB_inj {l m : List Nat} (hl : ∀ x ∈ l, x < 256) (hm : ∀ x ∈ m, x < 256) (h : (strB l).toList = (strB m).toList) : l = m := by
  rw [strB_toList, strB_toList] at h
  induction l generalizing m with
  | nil => cases m with
    | nil => rfl
    | cons y m => simp at h
  | cons x l ih => cases m with
    | nil => simp at h
    | cons y m =>
      simp only [List.map_cons, List.cons.injEq] at h
      have e1 : x = y := by
        have := congrArg UInt8.toNat h.1
        have hx := hl x (by simp); have hy := hm y (by simp)
        simp at this; omega
      rw [e1, ih (fun x hx => hl x (by simp [hx])) (fun x hx => hm x (by simp [hx])) h.2]
abbrev ju3 : Ju := ⟨3, opd0, 0, 0, 0, [], ⟨0, false, 0⟩⟩
def oneF : Fn := ⟨0, false, [⟨1, 0⟩], [⟨[], ju3⟩]⟩
set_option maxHeartbeats 1000000 in
theorem law09_one (w : World) : Calls Try.prog 20 #[] w (RetP w fun v w' => ∃ la ln lc ba bn bc, v = oneF.v (.slice la ln lc) (.slice ba bn bc) ∧ Sl (Fresh w) w' (.slice la ln lc) oneF.locals ∧ Sl (Fresh w) w' (.slice ba bn bc) oneF.blocks) := by
  have i0 : I64 0 := ⟨by decide, by decide⟩
  go_enter Try.func20, Try.ntmps20
  go_wp2_with fail
  refine postP_of (v := .agg #[.int .i64 0, .bool false, .slice (some ⟨w.heap.size + 1, 0, none⟩) 1 1, .slice (some ⟨w.heap.size + 1 + 1, 0, none⟩) 1 1]) (by simp only [results, Try.results20]; go_simp) rfl (by (repeat (first | (with_reducible exact Grow.refl _) | assumption | refine Grow.ext ?_ _ | refine Grow.alloc ?_ _ | refine Grow.drew ?_ | refine Grow.setCell ?_ (by first | (simp; done) | (simp; omega)) _ | refine Grow.trans ?_ (by assumption)))) ⟨_, _, _, _, _, _, rfl, ?_, ?_⟩
  · exact Sl.one (by simp [Fr]) (by simp) (by omega) (by omega) ⟨rfl, ⟨⟨by decide, by decide⟩, ⟨by decide, by decide⟩⟩⟩ (by (repeat (refine CellsAt.cons (by go_simp) ?_)); exact CellsAt.nil _ _ _)
  · exact Sl.one (by simp [Fr] <;> omega) (by simp) (by omega) (by omega) ⟨none, 0, 0, none, 0, 0, rfl, ⟨⟨⟨by decide, by decide⟩, ⟨⟨by decide, by decide⟩, i0, ⟨i0, ⟨by decide, by decide⟩⟩⟩, i0, i0, i0, ⟨i0, ⟨by decide, by decide⟩⟩⟩⟩, Sl.nil _ _, Sl.nil _ _⟩ (by (repeat (refine CellsAt.cons (by go_simp) ?_)); exact CellsAt.nil _ _ _)
def oneP : Pr := ⟨[oneF]⟩
theorem one_bytes : prL oneP = [1, 0, 0, 1, 0, 1, 0, 3] ∧ prR oneP = 0 ∧ fnL oneF = [0, 0, 1, 0, 1, 0, 3] ∧ fnR oneF = 0 := by decide +kernel
theorem oneF_wf : oneF.wf := ⟨⟨by decide, by decide⟩⟩
set_option maxHeartbeats 1000000 in
theorem law09_alive (w : World) : Calls Try.prog 15 #[] w (Ret w (.bool true)) := by
  have Hb := Lib.hid one_bytes
  have e1 : strB [1, 0, 0, 1, 0, 1, 0, 3] = ⟨#[1, 0, 0, 1, 0, 1, 0, 3]⟩ := by kernel_rfl
  have e2 : strB [0, 0, 1, 0, 1, 0, 3] = ⟨#[0, 0, 1, 0, 1, 0, 3]⟩ := by kernel_rfl
  go_enter Try.func15, Try.ntmps15
  go_wp2_with (first
    | (go_at_call 20; (refine (law09_one _).mono ?_); rintro e w1 ⟨_, rfl, ⟨la, ln, lc, ba, bn, bc, rfl, hl1, hb1⟩, hg1⟩; obtain ⟨x1, rfl⟩ := ext_of_grow hg1; clear hg1)
    | (go_at_call 16; (refine (encode_Bytes oneP _ _ (Sl.one (F := Old _) (x := oneF) (by simp [Old]) (by simp) (by omega) (by omega) ⟨la, ln, lc, ba, bn, bc, rfl, oneF_wf, (hl1.mono (by (repeat (first | (with_reducible exact Grow.refl _) | assumption | refine Grow.ext ?_ _ | refine Grow.alloc ?_ _ | refine Grow.drew ?_ | refine Grow.setCell ?_ (by first | (simp; done) | (simp; omega)) _ | refine Grow.trans ?_ (by assumption))))).old, (hb1.mono (by (repeat (first | (with_reducible exact Grow.refl _) | assumption | refine Grow.ext ?_ _ | refine Grow.alloc ?_ _ | refine Grow.drew ?_ | refine Grow.setCell ?_ (by first | (simp; done) | (simp; omega)) _ | refine Grow.trans ?_ (by assumption))))).old⟩ (by (repeat (refine CellsAt.cons (by go_simp) ?_)); exact CellsAt.nil _ _ _))).mono ?_); rintro e w3 ⟨_, rfl, ⟨u3, rfl, hs3⟩, hg3⟩; rw [Hb.out.1] at hs3; rw [Hb.out.2.1]; obtain ⟨a3, n3, c3, rfl, Hn3, hm3, hcap3, hcm3, hs3⟩ := hs3.open; obtain ⟨x3, rfl⟩ := ext_of_grow hg3; clear hg3; have hcv3 := conv_at hs3; rw [e1] at hcv3)
    | (go_at_call 11; (refine (encode_Func oneF _ _ _ oneF_wf (hl1.mono (by (repeat (first | (with_reducible exact Grow.refl _) | assumption | refine Grow.ext ?_ _ | refine Grow.alloc ?_ _ | refine Grow.drew ?_ | refine Grow.setCell ?_ (by first | (simp; done) | (simp; omega)) _ | refine Grow.trans ?_ (by assumption))))) (hb1.mono (by (repeat (first | (with_reducible exact Grow.refl _) | assumption | refine Grow.ext ?_ _ | refine Grow.alloc ?_ _ | refine Grow.drew ?_ | refine Grow.setCell ?_ (by first | (simp; done) | (simp; omega)) _ | refine Grow.trans ?_ (by assumption)))))).mono ?_); rintro e w4 ⟨_, rfl, ⟨u4, rfl, hs4⟩, hg4⟩; rw [Hb.out.2.2.1] at hs4; rw [Hb.out.2.2.2]; obtain ⟨a4, n4, c4, rfl, Hn4, hm4, hcap4, hcm4, hs4⟩ := hs4.open; obtain ⟨x4, rfl⟩ := ext_of_grow hg4; clear hg4; have hcv4 := conv_at hs4; rw [e2] at hcv4))
  go_ret
  exact Ret.bool rfl (by (repeat (first | (with_reducible exact Grow.refl _) | assumption | refine Grow.ext ?_ _ | refine Grow.alloc ?_ _ | refine Grow.drew ?_ | refine Grow.setCell ?_ (by first | (simp; done) | (simp; omega)) _ | refine Grow.trans ?_ (by assumption))))
end Go.Proofs.Ytafcdabiplcjiaa
