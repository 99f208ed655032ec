/- Layer 8: the law of sizes and inputs. -/
import Derived.Test.YtiikhfjdpaofdaaL08l
import Derived.Test.YtiikhfjdpaofdaaL08d
import Derived.Test.YtiikhfjdpaofdaaLG08
namespace Go.Proofs.Ytiikhfjdpaofdaa
open Go.RowKit
set_option linter.unusedSimpArgs false
set_option linter.unusedVariables false

theorem isInt_eq {t : Ty} (h : isInt t = true) : t = ⟨1, 0⟩ := by
  unfold isInt at h; simp only [decide_eq_true_eq] at h
  obtain ⟨k, o⟩ := t; simp only [] at h; rw [h.1, h.2]
set_option maxRecDepth 100000 in
set_option maxHeartbeats 4000000 in
theorem law_ProgramSizes (p : Pr) (pv : Value) (w : World) {F : Nat → Prop} (hpw : p.wf) (hp : Sl F w pv p.funcs) :
    Calls Try.prog 8 #[p.v pv] w (Ret w (.bool true)) := by
  obtain ⟨a, n, cap, rfl, Hn, hm, hcap, hcm, hp⟩ := hp.open
  cases hg : bigPr 12 p
  · cases hpe : (prErr p != 0)
    · have Hok : Hid (prErr p = 0) := Lib.hid (by simpa using hpe)
      have H8 := Lib.hid (pr_ok Hok.out)
      have hn8 : n ≤ 8 := by rw [Hn.out]; exact H8.out.2.1
      have hn0 : 0 < n := by rw [Hn.out]; exact H8.out.1
      obtain ⟨b_g, off_g, g, g_locals_a, g_locals_n, g_locals_c, g_blocks_a, g_blocks_n, g_blocks_c, rfl, ⟨Hg_g, hl_g, hw_g, g_locals, g_blocks, c_g0, c_g1, c_g2, c_g3, r_g0⟩⟩ := hp.fn 0 hn0
      simp only [Nat.zero_mul, Nat.add_zero] at c_g0 c_g1 c_g2 c_g3 r_g0
      have Hpar := Lib.hid (made_par (fn_good (H8.out.2.2.1 g (List.mem_of_getElem? Hg_g.out))).2.1)
      have Hin : Hid (inputsP p = (g.params, 0)) := Lib.hid (by unfold inputsP; rw [if_neg (by simpa using Hok.out), List.getD_eq_getElem?_getD, Hg_g.out]; rfl)
      have Hall : Hid (((g.locals.drop 1).take g.params.toNat).all isInt = true) := Lib.hid (by
        have := H8.out.2.2.2.1; rw [List.getD_eq_getElem?_getD, Hg_g.out] at this; exact this)
      have Hlen := Lib.hid g_locals.len
      have hmg : g_locals_n ≤ 9223372036854775807 := by obtain ⟨_, _, _, he, _, hq, h1, h2, _⟩ := g_locals.open; injection he with _ e2 e3; omega
      obtain ⟨S, hS⟩ : ∃ S, prPts p.funcs = S := ⟨_, rfl⟩
      have Hsz : Hid (sizeP p = ((S : Int), 0)) := Lib.hid (by unfold sizeP; rw [if_neg (by simpa using Hok.out), hS])
      have HS := Lib.hid hS
      obtain ⟨par, uns, locals, blocks⟩ := g
      obtain ⟨q, rfl⟩ := Int.eq_ofNat_of_zero_le Hpar.out.1
      have hql : q + 1 ≤ g_locals_n := by have h1 : (q : Int) < (locals.length : Int) := Hpar.out.2.2; have h2 : g_locals_n = locals.length := Hlen.out; omega
      have hq8 : q ≤ 8 := by have h1 : (q : Int) ≤ 8 := Hpar.out.2.1; omega
      have C4 : ∀ w' (hq : Sl F w' (.slice (some ⟨b_g, off_g, none⟩) n cap) p.funcs), Calls Try.prog 17 #[p.v (.slice (some ⟨b_g, off_g, none⟩) n cap)] w' (Ret w' (.tuple #[.int .i64 q, .int .i64 0])) := fun w' hq => by have := program_Inputs p _ w' hq; rw [Hin.out] at this; exact this
      go_enter Try.func8, Try.ntmps8
      go_wp2_with (first | (go_at_call 15; ((with_reducible refine (ref08_Great p _ _ (hp.mono (by (repeat (first | (with_reducible exact Grow.refl _) | assumption | refine Grow.ext ?_ _ | refine Grow.alloc ?_ _ | refine Grow.drew ?_ | refine Grow.setCell ?_ (by first | (simp; done) | (simp; omega)) _ | refine Grow.trans ?_ (by assumption)))))).mono ?_); rintro e w1 ⟨rfl, hb1⟩; obtain ⟨x1, rfl⟩ := ext_of_grow hb1; clear hb1)) | (go_at_call 26; ((with_reducible refine (ref08_Check p _ _ (hp.mono (by (repeat (first | (with_reducible exact Grow.refl _) | assumption | refine Grow.ext ?_ _ | refine Grow.alloc ?_ _ | refine Grow.drew ?_ | refine Grow.setCell ?_ (by first | (simp; done) | (simp; omega)) _ | refine Grow.trans ?_ (by assumption)))))).mono ?_); rintro e w2 ⟨rfl, hb2⟩; obtain ⟨x2, rfl⟩ := ext_of_grow hb2; clear hb2)) | (go_at_call 17; ((with_reducible refine (C4 _ (hp.mono (by (repeat (first | (with_reducible exact Grow.refl _) | assumption | refine Grow.ext ?_ _ | refine Grow.alloc ?_ _ | refine Grow.drew ?_ | refine Grow.setCell ?_ (by first | (simp; done) | (simp; omega)) _ | refine Grow.trans ?_ (by assumption)))))).mono ?_); rintro e w3 ⟨rfl, hb3⟩; obtain ⟨x3, rfl⟩ := ext_of_grow hb3; clear hb3)) | (go_at_call 19; ((with_reducible refine (size_v p _ _ (hp.mono (by (repeat (first | (with_reducible exact Grow.refl _) | assumption | refine Grow.ext ?_ _ | refine Grow.alloc ?_ _ | refine Grow.drew ?_ | refine Grow.setCell ?_ (by first | (simp; done) | (simp; omega)) _ | refine Grow.trans ?_ (by assumption))))) Hsz.out).mono ?_); rintro e w4 ⟨rfl, hb4⟩; obtain ⟨x4, rfl⟩ := ext_of_grow hb4; clear hb4)))
      go_loopw [7, 8] (fun s i wr => ∃ (k m : Nat), k ≤ n ∧ i = .int .i64 k ∧ s = .int .i64 m ∧ m ≤ 5000 ∧ Hid (m = prPts (p.funcs.take k)) ∧ Grow (ext (ext (ext (ext (w.alloc (Obj.cells #[.slice (some ⟨b_g, off_g, none⟩) n cap] 24)) x1) x2) x3) x4) wr) (fun _ i _ => n - (intOf i).toNat)
      case atStart => exact ⟨0, 0, Nat.zero_le _, rfl, rfl, by omega, Lib.hid (by simp [prPts]), (by (repeat (first | (with_reducible exact Grow.refl _) | assumption | refine Grow.ext ?_ _ | refine Grow.alloc ?_ _ | refine Grow.drew ?_ | refine Grow.setCell ?_ (by first | (simp; done) | (simp; omega)) _ | refine Grow.trans ?_ (by assumption))))⟩
      case round =>
        obtain ⟨k, m, hk, rfl, rfl, hm1000, Hm, hb1⟩ := hrel
        obtain ⟨y1, rfl⟩ := ext_of_grow hb1
        by_cases hlt : k < n
        · (obtain ⟨b_f, off_f, f, f_locals_a, f_locals_n, f_locals_c, f_blocks_a, f_blocks_n, f_blocks_c, he_f, ⟨Hg_f, hl_f, hw_f, f_locals, f_blocks, c_f0, c_f1, c_f2, c_f3, r_f0⟩⟩ := hp.fn k hlt; simp only [Option.some.injEq, Addr.mk.injEq, and_true] at he_f; obtain ⟨rfl, rfl⟩ := he_f)
          have Hsn := Lib.hid (prPts_snoc Hg_f)
          have Hfe := Lib.hid (H8.out.2.2.1 f (List.mem_of_getElem? Hg_f.out))
          have Hle := Lib.hid (prPts_le (l := p.funcs.take (k + 1)) (fun f hf => H8.out.2.2.1 f (List.mem_of_mem_take hf)))
          obtain ⟨s, hs⟩ : ∃ s, fnPts f = s := ⟨_, rfl⟩
          have hle : m + s ≤ 5000 := by
            have e1 := Hm.out; have e2 := Hsn.out; have e3 := Hle.out; rw [List.length_take] at e3; omega
          go_wp2_with (first | (go_at_call 34; ((with_reducible refine (fnshape_Size_at f _ _ _ hw_f (f_locals.mono (by (repeat (first | (with_reducible exact Grow.refl _) | assumption | refine Grow.ext ?_ _ | refine Grow.alloc ?_ _ | refine Grow.drew ?_ | refine Grow.setCell ?_ (by first | (simp; done) | (simp; omega)) _ | refine Grow.trans ?_ (by assumption))))) (f_blocks.mono (by (repeat (first | (with_reducible exact Grow.refl _) | assumption | refine Grow.ext ?_ _ | refine Grow.alloc ?_ _ | refine Grow.drew ?_ | refine Grow.setCell ?_ (by first | (simp; done) | (simp; omega)) _ | refine Grow.trans ?_ (by assumption))))) Hfe.out hs).mono ?_); rintro e w5 ⟨rfl, hb5⟩; obtain ⟨x5, rfl⟩ := ext_of_grow hb5; clear hb5)))
          go_roundw
          case rel => exact ⟨k + 1, m + s, by omega, by go_num, by go_num, by omega, Lib.hid (by rw [Hsn.out, Hm.out, hs]), (by (repeat (first | (with_reducible exact Grow.refl _) | assumption | refine Grow.ext ?_ _ | refine Grow.alloc ?_ _ | refine Grow.drew ?_ | refine Grow.setCell ?_ (by first | (simp; done) | (simp; omega)) _ | refine Grow.trans ?_ (by assumption))))⟩
          case measure => simp [intOf]; omega
        · obtain rfl : m = S := by rw [Hm.out, List.take_of_length_le (by rw [← Hn.out]; omega)]; exact HS.out
          go_wp2_with fail
          go_loopw [11] (fun i wr => ∃ (k : Nat), 1 ≤ k ∧ k ≤ q + 1 ∧ i = .int .i64 k ∧ Grow (ext (ext (ext (ext (w.alloc (Obj.cells #[.slice (some ⟨b_g, off_g, none⟩) n cap] 24)) x1) x2) x3) x4) wr) (fun i _ => q + 1 - (intOf i).toNat)
          case atStart => exact ⟨1, Nat.le_refl _, by omega, rfl, (by (repeat (first | (with_reducible exact Grow.refl _) | assumption | refine Grow.ext ?_ _ | refine Grow.alloc ?_ _ | refine Grow.drew ?_ | refine Grow.setCell ?_ (by first | (simp; done) | (simp; omega)) _ | refine Grow.trans ?_ (by assumption))))⟩
          case round =>
            obtain ⟨k2, hk1, hk2, rfl, hb2⟩ := hrel
            obtain ⟨y2, rfl⟩ := ext_of_grow hb2
            by_cases hlt2 : k2 ≤ q
            · have hkl : k2 < g_locals_n := by omega
              obtain ⟨b_t, off_t, t, rfl, ⟨Hg_t, hl_t, hw_t, c_t0, c_t1, r_t0⟩⟩ := g_locals.ty k2 hkl
              obtain rfl : t = ⟨1, 0⟩ := isInt_eq (by
                have hall : ((locals.drop 1).take q).all isInt = true := Hall.out
                refine List.all_eq_true.1 hall t (List.mem_of_getElem? (i := k2 - 1) ?_)
                rw [List.getElem?_take_of_lt (by omega), List.getElem?_drop, show 1 + (k2 - 1) = k2 by omega]
                exact Hg_t.out)
              go_wp2_with fail
              go_roundw
              case rel => exact ⟨k2 + 1, by omega, by omega, by go_num, (by (repeat (first | (with_reducible exact Grow.refl _) | assumption | refine Grow.ext ?_ _ | refine Grow.alloc ?_ _ | refine Grow.drew ?_ | refine Grow.setCell ?_ (by first | (simp; done) | (simp; omega)) _ | refine Grow.trans ?_ (by assumption))))⟩
              case measure => simp [intOf]; omega
            · go_wp2_with (first | (go_at_call 31; ((with_reducible refine (law08_alive _).mono ?_); rintro e w6 ⟨rfl, hb6⟩; obtain ⟨x6, rfl⟩ := ext_of_grow hb6; clear hb6)))
              go_ret
              exact Ret.bool rfl (by (repeat (first | (with_reducible exact Grow.refl _) | assumption | refine Grow.ext ?_ _ | refine Grow.alloc ?_ _ | refine Grow.drew ?_ | refine Grow.setCell ?_ (by first | (simp; done) | (simp; omega)) _ | refine Grow.trans ?_ (by assumption))))
    · go_enter Try.func8, Try.ntmps8
      go_wp2_with (first | (go_at_call 15; ((with_reducible refine (ref08_Great p _ _ (hp.mono (by (repeat (first | (with_reducible exact Grow.refl _) | assumption | refine Grow.ext ?_ _ | refine Grow.alloc ?_ _ | refine Grow.drew ?_ | refine Grow.setCell ?_ (by first | (simp; done) | (simp; omega)) _ | refine Grow.trans ?_ (by assumption)))))).mono ?_); rintro e w1 ⟨rfl, hb1⟩; obtain ⟨x1, rfl⟩ := ext_of_grow hb1; clear hb1)) | (go_at_call 26; ((with_reducible refine (ref08_Check p _ _ (hp.mono (by (repeat (first | (with_reducible exact Grow.refl _) | assumption | refine Grow.ext ?_ _ | refine Grow.alloc ?_ _ | refine Grow.drew ?_ | refine Grow.setCell ?_ (by first | (simp; done) | (simp; omega)) _ | refine Grow.trans ?_ (by assumption)))))).mono ?_); rintro e w2 ⟨rfl, hb2⟩; obtain ⟨x2, rfl⟩ := ext_of_grow hb2; clear hb2)) | (go_at_call 31; ((with_reducible refine (law08_alive _).mono ?_); rintro e w3 ⟨rfl, hb3⟩; obtain ⟨x3, rfl⟩ := ext_of_grow hb3; clear hb3)))
      go_ret
      exact Ret.bool rfl (by (repeat (first | (with_reducible exact Grow.refl _) | assumption | refine Grow.ext ?_ _ | refine Grow.alloc ?_ _ | refine Grow.drew ?_ | refine Grow.setCell ?_ (by first | (simp; done) | (simp; omega)) _ | refine Grow.trans ?_ (by assumption))))
  · go_enter Try.func8, Try.ntmps8
    go_wp2_with (first | (go_at_call 15; ((with_reducible refine (ref08_Great p _ _ (hp.mono (by (repeat (first | (with_reducible exact Grow.refl _) | assumption | refine Grow.ext ?_ _ | refine Grow.alloc ?_ _ | refine Grow.drew ?_ | refine Grow.setCell ?_ (by first | (simp; done) | (simp; omega)) _ | refine Grow.trans ?_ (by assumption)))))).mono ?_); rintro e w1 ⟨rfl, hb1⟩; obtain ⟨x1, rfl⟩ := ext_of_grow hb1; clear hb1)) | (go_at_call 31; ((with_reducible refine (law08_alive _).mono ?_); rintro e w3 ⟨rfl, hb3⟩; obtain ⟨x3, rfl⟩ := ext_of_grow hb3; clear hb3)))
    go_ret
    exact Ret.bool rfl (by (repeat (first | (with_reducible exact Grow.refl _) | assumption | refine Grow.ext ?_ _ | refine Grow.alloc ?_ _ | refine Grow.drew ?_ | refine Grow.setCell ?_ (by first | (simp; done) | (simp; omega)) _ | refine Grow.trans ?_ (by assumption))))
end Go.Proofs.Ytiikhfjdpaofdaa
