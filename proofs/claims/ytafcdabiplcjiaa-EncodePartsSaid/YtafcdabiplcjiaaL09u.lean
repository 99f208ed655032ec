/- Layer 9: the law that a program's bytes are those of its functions, one behind the other. -/
import Derived.Test.YtafcdabiplcjiaaL09s
import Derived.Test.YtafcdabiplcjiaaLG08
import Derived.Test.YtafcdabiplcjiaaL08d
namespace Go.Proofs.Ytafcdabiplcjiaa
open Go.RowKit
set_option linter.unusedSimpArgs false
set_option linter.unusedVariables false

def bigB (f : Fn) : Bool := decide (4000 < (encFn f).length)
theorem bigB_true {f : Fn} (he : fnErr f = 0) (h : bigB f = true) : fnL f = [] ∧ fnR f = 18 := by
  unfold bigB at h; simp only [decide_eq_true_eq] at h
  unfold fnL fnR doneL doneE; rw [if_pos he, if_pos he, if_pos h, if_pos h]; exact ⟨rfl, rfl⟩
theorem bigB_false {f : Fn} (he : fnErr f = 0) (h : bigB f = false) : fnL f = encFn f ∧ fnR f = 0 := by
  unfold bigB at h; simp only [decide_eq_false_iff_not] at h
  unfold fnL fnR doneL doneE; rw [if_pos he, if_pos he, if_neg h, if_neg h]; exact ⟨rfl, rfl⟩
theorem any_take {α : Type} {l : List α} {p : α → Bool} {k : Nat} {x : α} (h : Hid (l[k]? = some x)) : (l.take (k + 1)).any p = ((l.take k).any p || p x) := by
  rw [List.take_add_one, h.out]; simp [List.any_append]
theorem small_all {l : List Fn} (he : ∀ f ∈ l, fnErr f = 0) (h : l.any bigB = false) : l.flatMap fnL = l.flatMap encFn := by
  induction l with
  | nil => rfl
  | cons f l ih =>
    simp only [List.any_cons, Bool.or_eq_false_iff] at h
    rw [List.flatMap_cons, List.flatMap_cons, (bigB_false (he f (by simp)) h.1).1, ih (fun g hg => he g (by simp [hg])) h.2]
theorem encIn {p : Pr} {f : Fn} (h : f ∈ p.funcs) : (encFn f).length ≤ (encPr p).length := by
  unfold encPr; rw [List.length_append]
  obtain ⟨s, t, e⟩ := List.append_of_mem h
  rw [e, List.flatMap_append, List.flatMap_cons]; simp only [List.length_append]; omega
theorem fnL_le (f : Fn) : (fnL f).length ≤ 4000 := by unfold fnL doneL; split; split; simp; omega; simp
set_option maxRecDepth 100000 in
set_option maxHeartbeats 4000000 in
theorem law_EncodeParts (p : Pr) (pv : Value) (w : World) {F : Nat → Prop} (hpw : p.wf) (hp : Sl F w pv p.funcs) :
    Calls Try.prog 6 #[p.v pv] w (Ret w (.bool true)) := by
  obtain ⟨a, n, cap, rfl, Hn, hm, hcap, hcm, hp⟩ := hp.open
  cases hg : bigPr 12 p
  · cases hpe : (prErr p != 0)
    · have Hok : Hid (prErr p = 0) := Lib.hid (by simpa using hpe)
      have H8 := Lib.hid (pr_ok Hok.out)
      have hn8 : n ≤ 8 := by rw [Hn.out]; exact H8.out.2.1
      have hq1 : (vput ((n : Int)).toNat).length ≤ 10 := vput_le _
      have hn64 : n < 18446744073709551616 := by omega
      go_enter Try.func6, Try.ntmps6
      go_wp2_with (first | (go_at_call 13; ((with_reducible refine (ref08_Great p _ _ (hp.mono (by (repeat (first | (with_reducible exact Grow.refl _) | assumption | refine Grow.ext ?_ _ | refine Grow.alloc ?_ _ | refine Grow.drew ?_ | refine Grow.setCell ?_ (by first | (simp; done) | (simp; omega)) _ | refine Grow.trans ?_ (by assumption)))))).mono ?_); rintro e w1 ⟨rfl, hb1⟩; obtain ⟨x1, rfl⟩ := ext_of_grow hb1; clear hb1)) | (go_at_call 14; ((with_reducible refine (ref08_Check p _ _ (hp.mono (by (repeat (first | (with_reducible exact Grow.refl _) | assumption | refine Grow.ext ?_ _ | refine Grow.alloc ?_ _ | refine Grow.drew ?_ | refine Grow.setCell ?_ (by first | (simp; done) | (simp; omega)) _ | refine Grow.trans ?_ (by assumption)))))).mono ?_); rintro e w2 ⟨rfl, hb2⟩; obtain ⟨x2, rfl⟩ := ext_of_grow hb2; clear hb2)) | (go_at_call 23; ((with_reducible refine (number_Put n hn64 _).mono ?_); rintro e w3 ⟨_, rfl, ho3, hg3⟩; obtain ⟨a3, n3, c3, rfl, Hn3, hn3, ho3⟩ := ho3.open'; obtain ⟨x3, rfl⟩ := ext_of_grow hg3; clear hg3)))
      have ho3' := ho3.low' (base' := w.heap.size + 1) (by simp; omega)
      obtain ⟨y0, hy0⟩ := ext_of_grow (W := w.alloc (Obj.cells #[.slice a n cap] 35)) (w := ext (ext (ext (w.alloc (Obj.cells #[.slice a n cap] 35)) x1) x2) x3) (by (repeat (first | (with_reducible exact Grow.refl _) | assumption | refine Grow.ext ?_ _ | refine Grow.alloc ?_ _ | refine Grow.drew ?_ | refine Grow.setCell ?_ (by first | (simp; done) | (simp; omega)) _ | refine Grow.trans ?_ (by assumption))))
      go_loopw [3, 4, 5] (fun ov fv i wr => ∃ (k : Nat) (x : Ext) (fb : Bool), k ≤ n ∧ i = .int .i64 k ∧ fv = .bool fb ∧ wr = ext (w.alloc (Obj.cells #[.slice a n cap] 35)) x ∧ Own (fun _ => False) (w.heap.size + 1) 5 wr ov (vput n ++ (p.funcs.take k).flatMap fnL) ∧ Hid (fb = (p.funcs.take k).any bigB)) (fun _ _ i _ => n - (intOf i).toNat)
      case atStart => exact ⟨0, y0, false, Nat.zero_le _, rfl, rfl, hy0, by simpa using ho3', Lib.hid rfl⟩
      clear ho3 ho3' hy0
      case round =>
        obtain ⟨k, x, fb, hk, rfl, rfl, rfl, how, Hfb⟩ := hrel
        obtain ⟨ao, no, co, rfl, Hno, hno, how⟩ := how.open'
        have hx0 : (ext (w.alloc (Obj.cells #[.slice a n cap] 35)) x).heap.size = w.heap.size + 1 + x.k := by simp
        have hl : (vput n ++ (p.funcs.take k).flatMap fnL).length ≤ 32010 := by
          have e1 := flatMap_le (l := p.funcs.take k) (f := fnL) (m := 4000) (fun f _ => fnL_le f)
          have e2 := vput_le n
          rw [List.length_take] at e1; rw [List.length_append]; omega
        by_cases hlt : k < n
        · obtain ⟨b_f, off_f, f, f_locals_a, f_locals_n, f_locals_c, f_blocks_a, f_blocks_n, f_blocks_c, rfl, ⟨Hg_f, hl_f, hw_f, f_locals, f_blocks, c_f0, c_f1, c_f2, c_f3, r_f0⟩⟩ := hp.fn k hlt
          have Hfe := Lib.hid (H8.out.2.2.1 f (List.mem_of_getElem? Hg_f.out))
          have hqf := fnL_le f
          have Hsn : Hid (vput n ++ (p.funcs.take (k + 1)).flatMap fnL = vput n ++ (p.funcs.take k).flatMap fnL ++ fnL f) := Lib.hid (by rw [flatMap_take Hg_f, List.append_assoc])
          have Hfs : Hid ((p.funcs.take (k + 1)).any bigB = (fb || bigB f)) := Lib.hid (by rw [any_take Hg_f, ← Hfb.out])
          obtain ⟨bk, Hbk⟩ : ∃ bk, Hid (bk = vput n ++ (p.funcs.take k).flatMap fnL) := ⟨_, Lib.hid rfl⟩
          rw [← Hbk.out] at hl how Hsn Hno
          clear Hfb
          cases hbig : bigB f
          · have Hv := Lib.hid (bigB_false Hfe.out hbig).2
            have Hfs' : Hid ((p.funcs.take (k + 1)).any bigB = fb) := Lib.hid (by rw [Hfs.out, hbig]; simp)
            cases fb
            all_goals
              go_wp2_with (first | (go_at_call 11; (with_reducible refine (encode_Func f _ _ _ hw_f (f_locals.mono (by (repeat (first | (with_reducible exact Grow.refl _) | assumption | refine Grow.ext ?_ _ | refine Grow.alloc ?_ _ | refine Grow.drew ?_ | refine Grow.setCell ?_ (by first | (simp; done) | (simp; omega)) _ | refine Grow.trans ?_ (by assumption))))) (f_blocks.mono (by (repeat (first | (with_reducible exact Grow.refl _) | assumption | refine Grow.ext ?_ _ | refine Grow.alloc ?_ _ | refine Grow.drew ?_ | refine Grow.setCell ?_ (by first | (simp; done) | (simp; omega)) _ | refine Grow.trans ?_ (by assumption)))))).mono ?_); rintro e w8 ⟨_, rfl, ⟨u8, rfl, hs8⟩, hg8⟩; rw [Hv.out]; obtain ⟨a8, n8, c8, rfl, Hn8, hm8, hcap8, hcm8, hs8⟩ := hs8.open; obtain ⟨x8, rfl⟩ := ext_of_grow hg8; clear hg8) | (at_builtin; (refine wpList_appH (W := w.alloc (Obj.cells #[.slice (some ⟨b_f, off_f, none⟩) n cap] 35)) slT_u8 rfl rfl rfl rfl (by (repeat (first | (with_reducible exact Grow.refl _) | assumption | refine Grow.ext ?_ _ | refine Grow.alloc ?_ _ | refine Grow.drew ?_ | refine Grow.setCell ?_ (by first | (simp; done) | (simp; omega)) _ | refine Grow.trans ?_ (by assumption)))) (by first | (simp; done) | (simp; omega)) (by first | (simp; done) | (simp; omega)) (how.mono (by (repeat (first | (with_reducible exact Grow.refl _) | assumption | refine Grow.ext ?_ _ | refine Grow.alloc ?_ _ | refine Grow.drew ?_ | refine Grow.setCell ?_ (by first | (simp; done) | (simp; omega)) _ | refine Grow.trans ?_ (by assumption))))) (hs8.mono (by (repeat (first | (with_reducible exact Grow.refl _) | assumption | refine Grow.ext ?_ _ | refine Grow.alloc ?_ _ | refine Grow.drew ?_ | refine Grow.setCell ?_ (by first | (simp; done) | (simp; omega)) _ | refine Grow.trans ?_ (by assumption))))) (by have eq := Hn8.out; (try simp only [List.length_append]); omega) ?_); intro v9 x9 ho9 ha9 hz9 hv9; obtain ⟨a9, n9, c9, rfl, Hn9, hn9, ho9⟩ := ho9.open'))
              go_roundw
              case rel => exact ⟨k + 1, x9, _, by omega, by go_num, rfl, rfl, by rw [Hsn.out]; exact ho9, Lib.hid Hfs'.out.symm⟩
              case measure => simp [intOf]; omega
          · have Hv := Lib.hid (bigB_true Hfe.out hbig).2
            have Hfs' : Hid ((p.funcs.take (k + 1)).any bigB = true) := Lib.hid (by rw [Hfs.out, hbig]; simp)
            cases fb
            all_goals
              go_wp2_with (first | (go_at_call 11; (with_reducible refine (encode_Func f _ _ _ hw_f (f_locals.mono (by (repeat (first | (with_reducible exact Grow.refl _) | assumption | refine Grow.ext ?_ _ | refine Grow.alloc ?_ _ | refine Grow.drew ?_ | refine Grow.setCell ?_ (by first | (simp; done) | (simp; omega)) _ | refine Grow.trans ?_ (by assumption))))) (f_blocks.mono (by (repeat (first | (with_reducible exact Grow.refl _) | assumption | refine Grow.ext ?_ _ | refine Grow.alloc ?_ _ | refine Grow.drew ?_ | refine Grow.setCell ?_ (by first | (simp; done) | (simp; omega)) _ | refine Grow.trans ?_ (by assumption)))))).mono ?_); rintro e w8 ⟨_, rfl, ⟨u8, rfl, hs8⟩, hg8⟩; rw [Hv.out]; obtain ⟨a8, n8, c8, rfl, Hn8, hm8, hcap8, hcm8, hs8⟩ := hs8.open; obtain ⟨x8, rfl⟩ := ext_of_grow hg8; clear hg8) | (at_builtin; (refine wpList_appH (W := w.alloc (Obj.cells #[.slice (some ⟨b_f, off_f, none⟩) n cap] 35)) slT_u8 rfl rfl rfl rfl (by (repeat (first | (with_reducible exact Grow.refl _) | assumption | refine Grow.ext ?_ _ | refine Grow.alloc ?_ _ | refine Grow.drew ?_ | refine Grow.setCell ?_ (by first | (simp; done) | (simp; omega)) _ | refine Grow.trans ?_ (by assumption)))) (by first | (simp; done) | (simp; omega)) (by first | (simp; done) | (simp; omega)) (how.mono (by (repeat (first | (with_reducible exact Grow.refl _) | assumption | refine Grow.ext ?_ _ | refine Grow.alloc ?_ _ | refine Grow.drew ?_ | refine Grow.setCell ?_ (by first | (simp; done) | (simp; omega)) _ | refine Grow.trans ?_ (by assumption))))) (hs8.mono (by (repeat (first | (with_reducible exact Grow.refl _) | assumption | refine Grow.ext ?_ _ | refine Grow.alloc ?_ _ | refine Grow.drew ?_ | refine Grow.setCell ?_ (by first | (simp; done) | (simp; omega)) _ | refine Grow.trans ?_ (by assumption))))) (by have eq := Hn8.out; (try simp only [List.length_append]); omega) ?_); intro v9 x9 ho9 ha9 hz9 hv9; obtain ⟨a9, n9, c9, rfl, Hn9, hn9, ho9⟩ := ho9.open'))
              go_roundw
              case rel => exact ⟨k + 1, x9, _, by omega, by go_num, rfl, rfl, by rw [Hsn.out]; exact ho9, Lib.hid Hfs'.out.symm⟩
              case measure => simp [intOf]; omega
        · obtain rfl : k = n := by omega
          have hend : p.funcs.take k = p.funcs := List.take_of_length_le (by rw [← Hn.out]; omega)
          rw [hend] at how Hno
          have Hfb' : Hid (fb = p.funcs.any bigB) := Lib.hid (by rw [Hfb.out, hend])
          clear Hfb
          cases fb
          · have Hall : Hid (vput k ++ p.funcs.flatMap fnL = encPr p) := Lib.hid (by rw [small_all H8.out.2.2.1 Hfb'.out.symm]; unfold encPr; rw [← Hn.out])
            rw [Hall.out] at how Hno
            obtain ⟨X, HX⟩ : ∃ X, Hid (X = (encPr p).length) := ⟨_, Lib.hid rfl⟩
            obtain rfl : no = X := by rw [Hno.out, HX.out]
            have hcvo := conv_at how.sl
            by_cases hx : 4000 < no
            · have Hs : Hid (prL p = [] ∧ prR p = 18) := Lib.hid (by
                unfold prL prR doneL doneE; rw [if_pos Hok.out, if_pos Hok.out, if_pos (by rw [← HX.out]; omega), if_pos (by rw [← HX.out]; omega)]; exact ⟨rfl, rfl⟩)
              go_wp2_with (first
                | (go_at_call 16; (with_reducible refine (encode_Bytes p _ _ (hp.mono (by (repeat (first | (with_reducible exact Grow.refl _) | assumption | refine Grow.ext ?_ _ | refine Grow.alloc ?_ _ | refine Grow.drew ?_ | refine Grow.setCell ?_ (by first | (simp; done) | (simp; omega)) _ | refine Grow.trans ?_ (by assumption)))))).mono ?_); rintro e w5 ⟨_, rfl, ⟨u5, rfl, hs5⟩, hg5⟩; rw [Hs.out.1] at hs5; rw [Hs.out.2]; obtain ⟨a5, n5, c5, rfl, Hn5, hm5, hcap5, hcm5, hs5⟩ := hs5.open; obtain ⟨x5, rfl⟩ := ext_of_grow hg5; clear hg5; obtain rfl : n5 = 0 := Hn5.out)
                | (go_at_call 21; (with_reducible refine (encode_Size p _ _ (hp.mono (by (repeat (first | (with_reducible exact Grow.refl _) | assumption | refine Grow.ext ?_ _ | refine Grow.alloc ?_ _ | refine Grow.drew ?_ | refine Grow.setCell ?_ (by first | (simp; done) | (simp; omega)) _ | refine Grow.trans ?_ (by assumption)))))).mono ?_); rw [Hs.out.1, Hs.out.2]; rintro e w6 ⟨rfl, hg6⟩; obtain ⟨x6, rfl⟩ := ext_of_grow hg6; clear hg6)
                | (go_at_call 15; ((with_reducible refine (law09_alive _).mono ?_); rintro e w9 ⟨rfl, hb9⟩; obtain ⟨x9, rfl⟩ := ext_of_grow hb9; clear hb9)))
              go_ret
              exact Ret.bool rfl (by (repeat (first | (with_reducible exact Grow.refl _) | assumption | refine Grow.ext ?_ _ | refine Grow.alloc ?_ _ | refine Grow.drew ?_ | refine Grow.setCell ?_ (by first | (simp; done) | (simp; omega)) _ | refine Grow.trans ?_ (by assumption))))
            · have Hs : Hid (prL p = encPr p ∧ prR p = 0) := Lib.hid (by
                unfold prL prR doneL doneE; rw [if_pos Hok.out, if_pos Hok.out, if_neg (by rw [← HX.out]; omega), if_neg (by rw [← HX.out]; omega)]; exact ⟨rfl, rfl⟩)
              go_wp2_with (first
                | (go_at_call 16; (with_reducible refine (encode_Bytes p _ _ (hp.mono (by (repeat (first | (with_reducible exact Grow.refl _) | assumption | refine Grow.ext ?_ _ | refine Grow.alloc ?_ _ | refine Grow.drew ?_ | refine Grow.setCell ?_ (by first | (simp; done) | (simp; omega)) _ | refine Grow.trans ?_ (by assumption)))))).mono ?_); rintro e w5 ⟨_, rfl, ⟨u5, rfl, hs5⟩, hg5⟩; rw [Hs.out.1] at hs5; rw [Hs.out.2]; obtain ⟨a5, n5, c5, rfl, Hn5, hm5, hcap5, hcm5, hs5⟩ := hs5.open; obtain ⟨x5, rfl⟩ := ext_of_grow hg5; clear hg5; have hcv5 := conv_at hs5)
                | (go_at_call 21; (with_reducible refine (encode_Size p _ _ (hp.mono (by (repeat (first | (with_reducible exact Grow.refl _) | assumption | refine Grow.ext ?_ _ | refine Grow.alloc ?_ _ | refine Grow.drew ?_ | refine Grow.setCell ?_ (by first | (simp; done) | (simp; omega)) _ | refine Grow.trans ?_ (by assumption)))))).mono ?_); rw [Hs.out.1, Hs.out.2, ← HX.out]; rintro e w6 ⟨rfl, hg6⟩; obtain ⟨x6, rfl⟩ := ext_of_grow hg6; clear hg6)
                | (go_at_call 15; ((with_reducible refine (law09_alive _).mono ?_); rintro e w9 ⟨rfl, hb9⟩; obtain ⟨x9, rfl⟩ := ext_of_grow hb9; clear hb9)))
              go_ret
              exact Ret.bool (by simp) (by (repeat (first | (with_reducible exact Grow.refl _) | assumption | refine Grow.ext ?_ _ | refine Grow.alloc ?_ _ | refine Grow.drew ?_ | refine Grow.setCell ?_ (by first | (simp; done) | (simp; omega)) _ | refine Grow.trans ?_ (by assumption))))
          · have Hs : Hid (prL p = [] ∧ prR p = 18) := Lib.hid (by
              obtain ⟨f, hf, hb⟩ := List.any_eq_true.1 Hfb'.out.symm
              unfold bigB at hb; simp only [decide_eq_true_eq] at hb
              have := encIn hf
              unfold prL prR doneL doneE; rw [if_pos Hok.out, if_pos Hok.out, if_pos (by omega), if_pos (by omega)]; exact ⟨rfl, rfl⟩)
            go_wp2_with (first
              | (go_at_call 16; (with_reducible refine (encode_Bytes p _ _ (hp.mono (by (repeat (first | (with_reducible exact Grow.refl _) | assumption | refine Grow.ext ?_ _ | refine Grow.alloc ?_ _ | refine Grow.drew ?_ | refine Grow.setCell ?_ (by first | (simp; done) | (simp; omega)) _ | refine Grow.trans ?_ (by assumption)))))).mono ?_); rintro e w5 ⟨_, rfl, ⟨u5, rfl, hs5⟩, hg5⟩; rw [Hs.out.1] at hs5; rw [Hs.out.2]; obtain ⟨a5, n5, c5, rfl, Hn5, hm5, hcap5, hcm5, hs5⟩ := hs5.open; obtain ⟨x5, rfl⟩ := ext_of_grow hg5; clear hg5; obtain rfl : n5 = 0 := Hn5.out)
              | (go_at_call 21; (with_reducible refine (encode_Size p _ _ (hp.mono (by (repeat (first | (with_reducible exact Grow.refl _) | assumption | refine Grow.ext ?_ _ | refine Grow.alloc ?_ _ | refine Grow.drew ?_ | refine Grow.setCell ?_ (by first | (simp; done) | (simp; omega)) _ | refine Grow.trans ?_ (by assumption)))))).mono ?_); rw [Hs.out.1, Hs.out.2]; rintro e w6 ⟨rfl, hg6⟩; obtain ⟨x6, rfl⟩ := ext_of_grow hg6; clear hg6)
              | (go_at_call 15; ((with_reducible refine (law09_alive _).mono ?_); rintro e w9 ⟨rfl, hb9⟩; obtain ⟨x9, rfl⟩ := ext_of_grow hb9; clear hb9)))
            go_ret
            exact Ret.bool rfl (by (repeat (first | (with_reducible exact Grow.refl _) | assumption | refine Grow.ext ?_ _ | refine Grow.alloc ?_ _ | refine Grow.drew ?_ | refine Grow.setCell ?_ (by first | (simp; done) | (simp; omega)) _ | refine Grow.trans ?_ (by assumption))))
    · go_enter Try.func6, Try.ntmps6
      go_wp2_with (first | (go_at_call 13; ((with_reducible refine (ref08_Great p _ _ (hp.mono (by (repeat (first | (with_reducible exact Grow.refl _) | assumption | refine Grow.ext ?_ _ | refine Grow.alloc ?_ _ | refine Grow.drew ?_ | refine Grow.setCell ?_ (by first | (simp; done) | (simp; omega)) _ | refine Grow.trans ?_ (by assumption)))))).mono ?_); rintro e w1 ⟨rfl, hb1⟩; obtain ⟨x1, rfl⟩ := ext_of_grow hb1; clear hb1)) | (go_at_call 14; ((with_reducible refine (ref08_Check p _ _ (hp.mono (by (repeat (first | (with_reducible exact Grow.refl _) | assumption | refine Grow.ext ?_ _ | refine Grow.alloc ?_ _ | refine Grow.drew ?_ | refine Grow.setCell ?_ (by first | (simp; done) | (simp; omega)) _ | refine Grow.trans ?_ (by assumption)))))).mono ?_); rintro e w2 ⟨rfl, hb2⟩; obtain ⟨x2, rfl⟩ := ext_of_grow hb2; clear hb2)) | (go_at_call 15; ((with_reducible refine (law09_alive _).mono ?_); rintro e w9 ⟨rfl, hb9⟩; obtain ⟨x9, rfl⟩ := ext_of_grow hb9; clear hb9)))
      go_ret
      exact Ret.bool rfl (by (repeat (first | (with_reducible exact Grow.refl _) | assumption | refine Grow.ext ?_ _ | refine Grow.alloc ?_ _ | refine Grow.drew ?_ | refine Grow.setCell ?_ (by first | (simp; done) | (simp; omega)) _ | refine Grow.trans ?_ (by assumption))))
  · go_enter Try.func6, Try.ntmps6
    go_wp2_with (first | (go_at_call 13; ((with_reducible refine (ref08_Great p _ _ (hp.mono (by (repeat (first | (with_reducible exact Grow.refl _) | assumption | refine Grow.ext ?_ _ | refine Grow.alloc ?_ _ | refine Grow.drew ?_ | refine Grow.setCell ?_ (by first | (simp; done) | (simp; omega)) _ | refine Grow.trans ?_ (by assumption)))))).mono ?_); rintro e w1 ⟨rfl, hb1⟩; obtain ⟨x1, rfl⟩ := ext_of_grow hb1; clear hb1)) | (go_at_call 15; ((with_reducible refine (law09_alive _).mono ?_); rintro e w9 ⟨rfl, hb9⟩; obtain ⟨x9, rfl⟩ := ext_of_grow hb9; clear hb9)))
    go_ret
    exact Ret.bool rfl (by (repeat (first | (with_reducible exact Grow.refl _) | assumption | refine Grow.ext ?_ _ | refine Grow.alloc ?_ _ | refine Grow.drew ?_ | refine Grow.setCell ?_ (by first | (simp; done) | (simp; omega)) _ | refine Grow.trans ?_ (by assumption))))
end Go.Proofs.Ytafcdabiplcjiaa
