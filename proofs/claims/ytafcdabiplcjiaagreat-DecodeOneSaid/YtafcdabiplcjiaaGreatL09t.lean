/- Layer 9: the law that programs are written as the reference writes them. -/
import Derived.Test.YtafcdabiplcjiaaGreatL09s
import Derived.Test.YtafcdabiplcjiaaGreatL08u
import Derived.Test.YtafcdabiplcjiaaGreatL08w
namespace Go.Proofs.YtafcdabiplcjiaaGreat
open Go.RowKit
set_option linter.unusedSimpArgs false
set_option linter.unusedVariables false

set_option maxRecDepth 100000 in
set_option maxHeartbeats 4000000 in
theorem ref09_All (p : Pr) (pv : Value) (w : World) {F : Nat → Prop} (hp : Sl F w pv p.funcs) (hok : prErr p = 0) :
    Calls Tryz.prog 17 #[p.v pv] w (RetP w fun v w' => Own (fun _ => False) w.heap.size 5 w' v (encPr p)) := by
  obtain ⟨a, n, cap, rfl, Hn, hm, hcap, hcm, hp⟩ := hp.open
  have H8 := Lib.hid (pr_ok hok)
  clear hok
  have hn8 : n ≤ 8 := by rw [Hn.out]; exact H8.out.2.1
  have hq1 : (vput ((n : Int)).toNat).length ≤ 10 := vput_le _
  go_enter Tryz.func17, Tryz.ntmps17
  go_wp2_with (first | (go_at_call 34; ((with_reducible refine (ref09_num n (by omega) (by omega) _).mono ?_); rintro e w1 ⟨_, rfl, ho1, hg1⟩; obtain ⟨a1, n1, c1, rfl, Hn1, hn1, ho1⟩ := ho1.open'; obtain ⟨x1, rfl⟩ := ext_of_grow hg1; clear hg1)))
  have ho1' := ho1.low' (base' := w.heap.size + 1) (by simp)
  go_loopw [3, 4] (fun ov i wr => ∃ (k : Nat) (x : Ext), k ≤ n ∧ i = .int .i64 k ∧ wr = ext (w.alloc (Obj.cells #[.slice a n cap] 24)) x ∧ Own (fun _ => False) (w.heap.size + 1) 5 wr ov (vput ((n : Int)).toNat ++ (p.funcs.take k).flatMap encFn)) (fun _ i _ => n - (intOf i).toNat)
  case atStart => exact ⟨0, x1, Nat.zero_le _, rfl, rfl, by simpa using ho1'⟩
  clear ho1 ho1'
  case round =>
    obtain ⟨k, x, hk, rfl, rfl, how⟩ := hrel
    obtain ⟨ao, no, co, rfl, Hno, hno, how⟩ := how.open'
    have hx0 : (ext (w.alloc (Obj.cells #[.slice a n cap] 24)) x).heap.size = w.heap.size + 1 + x.k := by simp
    have hl : (vput ((n : Int)).toNat ++ (p.funcs.take k).flatMap encFn).length ≤ 640010 := by
      have e2 := encFns_le H8.out.2.2.1 k H8.out.2.1
      rw [List.length_append]; omega
    by_cases hlt : k < n
    · obtain ⟨b_f, off_f, f, f_locals_a, f_locals_n, f_locals_c, f_blocks_a, f_blocks_n, f_blocks_c, rfl, ⟨Hg_f, hl_f, hw_f, f_locals, f_blocks, c_f0, c_f1, c_f2, c_f3, r_f0⟩⟩ := hp.fn k hlt
      have Hfe := Lib.hid (H8.out.2.2.1 f (List.mem_of_getElem? Hg_f.out))
      have hqf := encFn_len Hfe.out
      have Hsn : Hid (vput ((n : Int)).toNat ++ (p.funcs.take (k + 1)).flatMap encFn = vput ((n : Int)).toNat ++ (p.funcs.take k).flatMap encFn ++ encFn f) := Lib.hid (by rw [flatMap_take Hg_f, List.append_assoc])
      obtain ⟨bk, Hbk⟩ : ∃ bk, Hid (bk = vput ((n : Int)).toNat ++ (p.funcs.take k).flatMap encFn) := ⟨_, Lib.hid rfl⟩
      rw [← Hbk.out] at hl how Hsn Hno
      go_wp2_with (first | (go_at_call 35; ((with_reducible refine (ref09_Written f _ _ hw_f (fnE_of Hfe.out) _ (f_locals.mono (by (repeat (first | (with_reducible exact Grow.refl _) | assumption | refine Grow.ext ?_ _ | refine Grow.alloc ?_ _ | refine Grow.drew ?_ | refine Grow.setCell ?_ (by first | (simp; done) | (simp; omega)) _ | refine Grow.trans ?_ (by assumption))))) (f_blocks.mono (by (repeat (first | (with_reducible exact Grow.refl _) | assumption | refine Grow.ext ?_ _ | refine Grow.alloc ?_ _ | refine Grow.drew ?_ | refine Grow.setCell ?_ (by first | (simp; done) | (simp; omega)) _ | refine Grow.trans ?_ (by assumption)))))).mono ?_); rintro e w8 ⟨_, rfl, ho8, hg8⟩; obtain ⟨a8, n8, c8, rfl, Hn8, hn8, ho8⟩ := ho8.open'; obtain ⟨x8, rfl⟩ := ext_of_grow hg8; clear hg8)) | (at_builtin; (refine wpList_appH (W := w.alloc (Obj.cells #[.slice (some ⟨b_f, off_f, none⟩) n cap] 24)) slT_u8 rfl rfl rfl rfl (by (repeat (first | (with_reducible exact Grow.refl _) | assumption | refine Grow.ext ?_ _ | refine Grow.alloc ?_ _ | refine Grow.drew ?_ | refine Grow.setCell ?_ (by first | (simp; done) | (simp; omega)) _ | refine Grow.trans ?_ (by assumption)))) (by first | (simp; done) | (simp; omega)) (by first | (simp; done) | (simp; omega)) (how.mono (by (repeat (first | (with_reducible exact Grow.refl _) | assumption | refine Grow.ext ?_ _ | refine Grow.alloc ?_ _ | refine Grow.drew ?_ | refine Grow.setCell ?_ (by first | (simp; done) | (simp; omega)) _ | refine Grow.trans ?_ (by assumption))))) (ho8.sl.mono (by (repeat (first | (with_reducible exact Grow.refl _) | assumption | refine Grow.ext ?_ _ | refine Grow.alloc ?_ _ | refine Grow.drew ?_ | refine Grow.setCell ?_ (by first | (simp; done) | (simp; omega)) _ | refine Grow.trans ?_ (by assumption))))) (by have eq := Hn8.out; (try simp only [List.length_append]); omega) ?_); intro v9 x9 ho9 ha9 hz9 hv9; obtain ⟨a9, n9, c9, rfl, Hn9, hn9, ho9⟩ := ho9.open'))
      go_roundw
      case rel => exact ⟨k + 1, x9, by omega, by go_num, rfl, by rw [Hsn.out]; exact ho9⟩
      case measure => simp [intOf]; omega
    · obtain rfl : k = n := by omega
      have hend : p.funcs.take k = p.funcs := List.take_of_length_le (by rw [← Hn.out]; omega)
      have Hall : Hid (vput ((k : Int)).toNat ++ p.funcs.flatMap encFn = encPr p) := Lib.hid (by unfold encPr; rw [← Hn.out]; rfl)
      rw [hend, Hall.out] at how
      go_wp2_with fail
      exact postP_of (by simp only [results, Tryz.results17]; go_simp <;> rfl) rfl (by (repeat (first | (with_reducible exact Grow.refl _) | assumption | refine Grow.ext ?_ _ | refine Grow.alloc ?_ _ | refine Grow.drew ?_ | refine Grow.setCell ?_ (by first | (simp; done) | (simp; omega)) _ | refine Grow.trans ?_ (by assumption)))) (how.low' (by simp))
theorem encPr_len {p : Pr} (h : prErr p = 0) : (encPr p).length ≤ 640010 := by
  have H8 := pr_ok h
  have e1 := vput_le p.funcs.length
  have e2 := encFns_le H8.2.2.1 p.funcs.length H8.2.1
  rw [List.take_length] at e2
  unfold encPr; rw [List.length_append]; omega
set_option maxRecDepth 100000 in
set_option maxHeartbeats 2000000 in
theorem ref09_Bytes (p : Pr) (pv : Value) (w : World) {F : Nat → Prop} (hp : Sl F w pv p.funcs) :
    Calls Tryz.prog 11 #[p.v pv] w (RetP w fun v w' => ∃ u, v = .tuple #[u, .int .i64 (prR p)] ∧ Sl (Fresh w) w' u (prL p)) := by
  obtain ⟨a, n, cap, rfl, Hn, hm, hcap, hcm, hp⟩ := hp.open
  cases he : (prErr p != 0)
  · have Hok : Hid (prErr p = 0) := Lib.hid (by simpa using he)
    obtain ⟨X, HX⟩ : ∃ X, Hid (X = (encPr p).length) := ⟨_, Lib.hid rfl⟩
    have hx8 : X ≤ 640010 := by rw [HX.out]; exact encPr_len Hok.out
    by_cases hx : X ≤ 4000
    · have Hs : Hid (prL p = encPr p ∧ prR p = 0) := Lib.hid (by
        unfold prL prR doneL doneE; rw [if_pos Hok.out, if_pos Hok.out, if_neg (by rw [← HX.out]; omega), if_neg (by rw [← HX.out]; omega)]; exact ⟨rfl, rfl⟩)
      go_enter Tryz.func11, Tryz.ntmps11
      go_wp2_with (first | (go_at_call 15; ((with_reducible refine (ref08_Check p _ _ (hp.mono (by (repeat (first | (with_reducible exact Grow.refl _) | assumption | refine Grow.ext ?_ _ | refine Grow.alloc ?_ _ | refine Grow.drew ?_ | refine Grow.setCell ?_ (by first | (simp; done) | (simp; omega)) _ | refine Grow.trans ?_ (by assumption)))))).mono ?_); rintro e w1 ⟨rfl, hb1⟩; obtain ⟨x1, rfl⟩ := ext_of_grow hb1; clear hb1)) | ((go_at_call 17; ((with_reducible refine (ref09_All p _ _ (hp.mono (by (repeat (first | (with_reducible exact Grow.refl _) | assumption | refine Grow.ext ?_ _ | refine Grow.alloc ?_ _ | refine Grow.drew ?_ | refine Grow.setCell ?_ (by first | (simp; done) | (simp; omega)) _ | refine Grow.trans ?_ (by assumption))))) Hok.out).mono ?_); rintro e w2 ⟨_, rfl, ho2, hg2⟩; obtain ⟨a2, n2, c2, rfl, Hn2, hn2, ho2⟩ := ho2.open'; obtain ⟨x2, rfl⟩ := ext_of_grow hg2; clear hg2)); obtain rfl : n2 = X := (by rw [Hn2.out, HX.out])))
      refine postP_of (by simp only [results, Tryz.results11]; go_simp <;> rfl) rfl (by (repeat (first | (with_reducible exact Grow.refl _) | assumption | refine Grow.ext ?_ _ | refine Grow.alloc ?_ _ | refine Grow.drew ?_ | refine Grow.setCell ?_ (by first | (simp; done) | (simp; omega)) _ | refine Grow.trans ?_ (by assumption)))) ⟨_, by rw [Hs.out.2], ?_⟩
      rw [Hs.out.1]; exact ho2.sl.wide (fun k _ hk => Or.inr (by have := hk.resolve_left id; simp at this; omega))
    · have Hs : Hid (prL p = [] ∧ prR p = 18) := Lib.hid (by
        unfold prL prR doneL doneE; rw [if_pos Hok.out, if_pos Hok.out, if_pos (by rw [← HX.out]; omega), if_pos (by rw [← HX.out]; omega)]; exact ⟨rfl, rfl⟩)
      go_enter Tryz.func11, Tryz.ntmps11
      go_wp2_with (first | (go_at_call 15; ((with_reducible refine (ref08_Check p _ _ (hp.mono (by (repeat (first | (with_reducible exact Grow.refl _) | assumption | refine Grow.ext ?_ _ | refine Grow.alloc ?_ _ | refine Grow.drew ?_ | refine Grow.setCell ?_ (by first | (simp; done) | (simp; omega)) _ | refine Grow.trans ?_ (by assumption)))))).mono ?_); rintro e w1 ⟨rfl, hb1⟩; obtain ⟨x1, rfl⟩ := ext_of_grow hb1; clear hb1)) | ((go_at_call 17; ((with_reducible refine (ref09_All p _ _ (hp.mono (by (repeat (first | (with_reducible exact Grow.refl _) | assumption | refine Grow.ext ?_ _ | refine Grow.alloc ?_ _ | refine Grow.drew ?_ | refine Grow.setCell ?_ (by first | (simp; done) | (simp; omega)) _ | refine Grow.trans ?_ (by assumption))))) Hok.out).mono ?_); rintro e w2 ⟨_, rfl, ho2, hg2⟩; obtain ⟨a2, n2, c2, rfl, Hn2, hn2, ho2⟩ := ho2.open'; obtain ⟨x2, rfl⟩ := ext_of_grow hg2; clear hg2)); obtain rfl : n2 = X := (by rw [Hn2.out, HX.out])))
      refine postP_of (by simp only [results, Tryz.results11]; go_simp <;> rfl) rfl (by (repeat (first | (with_reducible exact Grow.refl _) | assumption | refine Grow.ext ?_ _ | refine Grow.alloc ?_ _ | refine Grow.drew ?_ | refine Grow.setCell ?_ (by first | (simp; done) | (simp; omega)) _ | refine Grow.trans ?_ (by assumption)))) ⟨_, by rw [Hs.out.2], ?_⟩
      rw [Hs.out.1]; exact Sl.nil _ _
  · have He : Hid (prR p = prErr p ∧ prL p = []) := Lib.hid (by have h : ¬ prErr p = 0 := (by simpa using he); unfold prR prL; rw [if_neg h, if_neg h]; exact ⟨rfl, rfl⟩)
    go_enter Tryz.func11, Tryz.ntmps11
    go_wp2_with (first | (go_at_call 15; ((with_reducible refine (ref08_Check p _ _ (hp.mono (by (repeat (first | (with_reducible exact Grow.refl _) | assumption | refine Grow.ext ?_ _ | refine Grow.alloc ?_ _ | refine Grow.drew ?_ | refine Grow.setCell ?_ (by first | (simp; done) | (simp; omega)) _ | refine Grow.trans ?_ (by assumption)))))).mono ?_); rintro e w1 ⟨rfl, hb1⟩; obtain ⟨x1, rfl⟩ := ext_of_grow hb1; clear hb1)) | (go_at_call 15; ((with_reducible refine (ref08_Check p _ _ (hp.mono (by (repeat (first | (with_reducible exact Grow.refl _) | assumption | refine Grow.ext ?_ _ | refine Grow.alloc ?_ _ | refine Grow.drew ?_ | refine Grow.setCell ?_ (by first | (simp; done) | (simp; omega)) _ | refine Grow.trans ?_ (by assumption)))))).mono ?_); rintro e w2 ⟨rfl, hb2⟩; obtain ⟨x2, rfl⟩ := ext_of_grow hb2; clear hb2)))
    refine postP_of (by simp only [results, Tryz.results11]; go_simp <;> rfl) rfl (by (repeat (first | (with_reducible exact Grow.refl _) | assumption | refine Grow.ext ?_ _ | refine Grow.alloc ?_ _ | refine Grow.drew ?_ | refine Grow.setCell ?_ (by first | (simp; done) | (simp; omega)) _ | refine Grow.trans ?_ (by assumption)))) ⟨_, by rw [He.out.1], ?_⟩
    rw [He.out.2]; exact Sl.nil _ _
set_option maxHeartbeats 1000000 in
theorem ref09_Size (p : Pr) (pv : Value) (w : World) {F : Nat → Prop} (hp : Sl F w pv p.funcs) :
    Calls Tryz.prog 13 #[p.v pv] w (Ret w (.tuple #[.int .i64 (prL p).length, .int .i64 (prR p)])) := by
  obtain ⟨a, n, cap, rfl, Hn, hm, hcap, hcm, hp⟩ := hp.open
  go_enter Tryz.func13, Tryz.ntmps13
  go_wp2_with (first
    | (go_at_call 11; (refine (ref09_Bytes p _ _ (hp.mono (by (repeat (first | (with_reducible exact Grow.refl _) | assumption | refine Grow.ext ?_ _ | refine Grow.alloc ?_ _ | refine Grow.drew ?_ | refine Grow.setCell ?_ (by first | (simp; done) | (simp; omega)) _ | refine Grow.trans ?_ (by assumption)))))).mono ?_); rintro e w3 ⟨_, rfl, ⟨u, rfl, hs3⟩, hb3⟩; obtain ⟨a3, n3, c3, rfl, Hn3, hm3, hcap3, hcm3, hs3⟩ := hs3.open; obtain ⟨x3, rfl⟩ := ext_of_grow hb3; clear hb3))
  go_ret2
  exact Ret.mk (by first | rfl | (rw [← Hn3.out]; rfl) | (rw [Hn3.out]; rfl)) (by (repeat (first | (with_reducible exact Grow.refl _) | assumption | refine Grow.ext ?_ _ | refine Grow.alloc ?_ _ | refine Grow.drew ?_ | refine Grow.setCell ?_ (by first | (simp; done) | (simp; omega)) _ | refine Grow.trans ?_ (by assumption))))
set_option maxRecDepth 100000 in
set_option maxHeartbeats 4000000 in
theorem law_EncodePrograms (p : Pr) (pv : Value) (w : World) {F : Nat → Prop} (hpw : p.wf) (hp : Sl F w pv p.funcs) :
    Calls Tryz.prog 3 #[p.v pv] w (Ret w (.bool true)) := by
  obtain ⟨a, n, cap, rfl, Hn, hm, hcap, hcm, hp⟩ := hp.open
  cases hg : bigPr 12 p
  · have Hg := Lib.hid hg
    go_enter Tryz.func3, Tryz.ntmps3
    go_wp2_with (first
      | (go_at_call 8; ((with_reducible refine (ref08_Great p _ _ (hp.mono (by (repeat (first | (with_reducible exact Grow.refl _) | assumption | refine Grow.ext ?_ _ | refine Grow.alloc ?_ _ | refine Grow.drew ?_ | refine Grow.setCell ?_ (by first | (simp; done) | (simp; omega)) _ | refine Grow.trans ?_ (by assumption)))))).mono ?_); rintro e w1 ⟨rfl, hb1⟩; obtain ⟨x1, rfl⟩ := ext_of_grow hb1; clear hb1))
      | (go_at_call 9; ((with_reducible refine (Twin_sl p _ _ (hp.mono (by (repeat (first | (with_reducible exact Grow.refl _) | assumption | refine Grow.ext ?_ _ | refine Grow.alloc ?_ _ | refine Grow.drew ?_ | refine Grow.setCell ?_ (by first | (simp; done) | (simp; omega)) _ | refine Grow.trans ?_ (by assumption))))) Hg.out).mono ?_); rintro e w2 ⟨_, rfl, ⟨ua, un, uc, rfl, hs⟩, hb2⟩; obtain ⟨x2, rfl⟩ := ext_of_grow hb2; clear hb2))
      | (go_at_call 10; (with_reducible refine (encode_Bytes p _ _ (hs.mono (by (repeat (first | (with_reducible exact Grow.refl _) | assumption | refine Grow.ext ?_ _ | refine Grow.alloc ?_ _ | refine Grow.drew ?_ | refine Grow.setCell ?_ (by first | (simp; done) | (simp; omega)) _ | refine Grow.trans ?_ (by assumption)))))).mono ?_); rintro e w4 ⟨_, rfl, ⟨u4, rfl, hs4⟩, hg4⟩; obtain ⟨a4, n4, c4, rfl, Hn4, hm4, hcap4, hcm4, hs4⟩ := hs4.open; obtain ⟨x4, rfl⟩ := ext_of_grow hg4; clear hg4; have hcv4 := conv_at hs4)
      | (go_at_call 11; (with_reducible refine (ref09_Bytes p _ _ (hp.mono (by (repeat (first | (with_reducible exact Grow.refl _) | assumption | refine Grow.ext ?_ _ | refine Grow.alloc ?_ _ | refine Grow.drew ?_ | refine Grow.setCell ?_ (by first | (simp; done) | (simp; omega)) _ | refine Grow.trans ?_ (by assumption)))))).mono ?_); rintro e w5 ⟨_, rfl, ⟨u5, rfl, hs5⟩, hg5⟩; obtain ⟨a5, n5, c5, rfl, Hn5, hm5, hcap5, hcm5, hs5⟩ := hs5.open; obtain ⟨x5, rfl⟩ := ext_of_grow hg5; clear hg5; have hcv5 := conv_at hs5)
      | (go_at_call 12; ((with_reducible refine (encode_Size p _ _ (hs.mono (by (repeat (first | (with_reducible exact Grow.refl _) | assumption | refine Grow.ext ?_ _ | refine Grow.alloc ?_ _ | refine Grow.drew ?_ | refine Grow.setCell ?_ (by first | (simp; done) | (simp; omega)) _ | refine Grow.trans ?_ (by assumption)))))).mono ?_); rintro e w6 ⟨rfl, hb6⟩; obtain ⟨x6, rfl⟩ := ext_of_grow hb6; clear hb6))
      | (go_at_call 13; ((with_reducible refine (ref09_Size p _ _ (hp.mono (by (repeat (first | (with_reducible exact Grow.refl _) | assumption | refine Grow.ext ?_ _ | refine Grow.alloc ?_ _ | refine Grow.drew ?_ | refine Grow.setCell ?_ (by first | (simp; done) | (simp; omega)) _ | refine Grow.trans ?_ (by assumption)))))).mono ?_); rintro e w7 ⟨rfl, hb7⟩; obtain ⟨x7, rfl⟩ := ext_of_grow hb7; clear hb7))
      | (go_at_call 14; ((with_reducible refine (Same_yes p _ _ _ (hs.mono (by (repeat (first | (with_reducible exact Grow.refl _) | assumption | refine Grow.ext ?_ _ | refine Grow.alloc ?_ _ | refine Grow.drew ?_ | refine Grow.setCell ?_ (by first | (simp; done) | (simp; omega)) _ | refine Grow.trans ?_ (by assumption))))) (hp.mono (by (repeat (first | (with_reducible exact Grow.refl _) | assumption | refine Grow.ext ?_ _ | refine Grow.alloc ?_ _ | refine Grow.drew ?_ | refine Grow.setCell ?_ (by first | (simp; done) | (simp; omega)) _ | refine Grow.trans ?_ (by assumption)))))).mono ?_); rintro e w8 ⟨rfl, hb8⟩; obtain ⟨x8, rfl⟩ := ext_of_grow hb8; clear hb8)))
    go_ret
    exact Ret.bool (by simp) (by (repeat (first | (with_reducible exact Grow.refl _) | assumption | refine Grow.ext ?_ _ | refine Grow.alloc ?_ _ | refine Grow.drew ?_ | refine Grow.setCell ?_ (by first | (simp; done) | (simp; omega)) _ | refine Grow.trans ?_ (by assumption))))
  · go_enter Tryz.func3, Tryz.ntmps3
    go_wp2_with (first | (go_at_call 8; ((with_reducible refine (ref08_Great p _ _ (hp.mono (by (repeat (first | (with_reducible exact Grow.refl _) | assumption | refine Grow.ext ?_ _ | refine Grow.alloc ?_ _ | refine Grow.drew ?_ | refine Grow.setCell ?_ (by first | (simp; done) | (simp; omega)) _ | refine Grow.trans ?_ (by assumption)))))).mono ?_); rintro e w1 ⟨rfl, hb1⟩; obtain ⟨x1, rfl⟩ := ext_of_grow hb1; clear hb1)))
    go_ret
    exact Ret.bool rfl (by (repeat (first | (with_reducible exact Grow.refl _) | assumption | refine Grow.ext ?_ _ | refine Grow.alloc ?_ _ | refine Grow.drew ?_ | refine Grow.setCell ?_ (by first | (simp; done) | (simp; omega)) _ | refine Grow.trans ?_ (by assumption))))
end Go.Proofs.YtafcdabiplcjiaaGreat
