/- Layer 45, the reference: a guess at a text's verdict; a conflict. -/
import Derived.Test.YtjllaogechckoaaDoorX45c
import Derived.Test.YtjllaogechckoaaDoorQT45
import Derived.Deep.DeepCutAuto
import Derived.Deep.CutBlock
namespace Go.Proofs.YtjllaogechckoaaDoor
open Go.RowKit
set_option linter.unusedSimpArgs false
set_option linter.unusedVariables false

theorem gs_bo {s x0 x1 x3 x5 x6 x7 x8 : Bs} (hn : (parts s).length = 9) (h0 : (parts s)[0]? = some x0) (h1 : (parts s)[1]? = some x1) (h3 : (parts s)[3]? = some x3) (h5 : (parts s)[5]? = some x5) (h6 : (parts s)[6]? = some x6) (h7 : (parts s)[7]? = some x7) (h8 : (parts s)[8]? = some x8)
    (hb : (x0 == t_borrow) = true) (hl : 1 < x1.length) : guessP s = vbo (refNum (x1.drop 1)) (refNum x3) (refNum x5) (plD x8) (x6 == t_write) (x7 == t_deep) := by
  have e : x0 = t_borrow := beq_iff_eq.1 hb
  unfold guessP
  rw [nth_of h0, nth_of h1, nth_of h3, nth_of h5, nth_of h6, nth_of h7, nth_of h8, e, if_neg (by decide), if_neg (by omega), if_neg (by omega), if_pos ⟨hn, rfl, hl⟩]
  rfl
theorem plD_wf (s : Bs) : (plD s).wf := by
  unfold plD
  cases h : plFind s with
  | none => exact ⟨by unfold I64; dsimp only [Option.getD]; omega, by unfold U8; dsimp only [Option.getD]; omega⟩
  | some p => exact plOk_wf (plFind_some h).1
theorem vbo_ok (n0 n1 n2 : Int) (pl : Pl) (a b : Bool) (h0 : I64 n0) (h1 : I64 n1) (h2 : I64 n2) (hp : pl.wf) : (vbo n0 n1 n2 pl a b).ok :=
  ⟨by unfold U8; dsimp only; omega, by unfold I64; dsimp only; omega, h0, h1, h2, hp, by unfold U8; dsimp only; omega, by unfold I64; dsimp only; omega, (by intro n h; cases h), (by intro n h; cases h)⟩
set_option maxRecDepth 100000 in
set_option maxHeartbeats 8000000 in
theorem guess_borrow (s x0 x1 x3 x5 x6 x7 x8 : Bs) (hs : s.length ≤ 900000) (hn : (parts s).length = 9) (h0 : (parts s)[0]? = some x0) (h1 : (parts s)[1]? = some x1) (h3 : (parts s)[3]? = some x3) (h5 : (parts s)[5]? = some x5) (h6 : (parts s)[6]? = some x6) (h7 : (parts s)[7]? = some x7) (h8 : (parts s)[8]? = some x8)
    (hb : (x0 == t_borrow) = true) (hl : 1 < x1.length) (w : World) : Calls Tryd.prog 31 #[.string (str s)] w (RetP w (GsR w (guessP s))) := by
  rw [gs_bo hn h0 h1 h3 h5 h6 h7 h8 hb hl]
  have hp := plD_wf x8
  have i1 := refNum_i64 (x1.drop 1)
  have i3 := refNum_i64 x3
  have i5 := refNum_i64 x5
  have HN1 := Lib.hid (fun w => ref45_number (x1.drop 1) (by have := part_small h1; simp; omega) w)
  have HN3 := Lib.hid (fun w => ref45_number x3 (by have := part_small h3; omega) w)
  have HN5 := Lib.hid (fun w => ref45_number x5 (by have := part_small h5; omega) w)
  have HP := Lib.hid (fun w => ref03_Read x8 w)
  have q0 : (x0 == t_inputs) = false := by rw [beq_iff_eq.1 hb]; rfl
  have q1 : (x0 == t_form) = false := by rw [beq_iff_eq.1 hb]; rfl
  have q2 : (x0 == t_type) = false := by rw [beq_iff_eq.1 hb]; rfl
  have hly : decide ((x1.length : Int) > 1) = true := decide_eq_true (by omega)
  have hlI : (1 : Int) ≤ x1.length := by omega
  have hss : (str x1).size = x1.length := str_size x1
  have hcut : (str x1).extract 1 x1.length = str (x1.drop 1) := by rw [str_cut, List.take_of_length_le (by simp)]
  obtain ⟨y1, Hy1⟩ : ∃ y, Hid (x1.drop 1 = y) := ⟨_, Lib.hid rfl⟩
  rw [Hy1.out] at HN1 hcut i1 ⊢
  obtain ⟨n1, Hn1⟩ : ∃ y, Hid (refNum y1 = y) := ⟨_, Lib.hid rfl⟩
  obtain ⟨n3, Hn3⟩ : ∃ y, Hid (refNum x3 = y) := ⟨_, Lib.hid rfl⟩
  obtain ⟨n5, Hn5⟩ : ∃ y, Hid (refNum x5 = y) := ⟨_, Lib.hid rfl⟩
  obtain ⟨pl, Hpl⟩ : ∃ y, Hid (plD x8 = y) := ⟨_, Lib.hid rfl⟩
  obtain ⟨pe, Hpe⟩ : ∃ y, Hid (plE x8 = y) := ⟨_, Lib.hid rfl⟩
  obtain ⟨wb, Hwb⟩ : ∃ y, (x6 == t_write) = y := ⟨_, rfl⟩
  obtain ⟨db, Hdb⟩ : ∃ y, (x7 == t_deep) = y := ⟨_, rfl⟩
  rw [Hn1.out] at HN1 i1
  rw [Hn3.out] at HN3 i3
  rw [Hn5.out] at HN5 i5
  rw [Hpl.out, Hpe.out] at HP
  rw [Hpl.out] at hp
  rw [Hn1.out, Hn3.out, Hn5.out, Hpl.out, Hwb, Hdb]
  have Hp := Lib.hid (parts_c s hs hn)
  have H := Lib.hid (And.intro h0 (And.intro h1 (And.intro h3 (And.intro h5 (And.intro h6 (And.intro h7 h8))))))
  have hok := Lib.hid (vbo_ok n1 n3 n5 pl wb db i1 i3 i5 hp)
  clear h0 h1 h3 h5 h6 h7 h8 hn Hy1 Hn1 Hn3 Hn5 Hpl Hpe
  go_enter Tryd.func31, Tryd.ntmps31
  go_upto_region 11 with (first
    | (go_at_call 49; ((with_reducible refine (Hp.out _).mono ?_); rintro e w1 ⟨_, rfl, ⟨b, off, c, rfl, hlt, hcs, hsl⟩, hg1⟩; have k0 : w1.cell? ⟨b, off, none⟩ = _ := hcs 0 _ H.out.1; have k1 := hcs 1 _ H.out.2.1; have k3 := hcs 3 _ H.out.2.2.1; have k5 := hcs 5 _ H.out.2.2.2.1; have k6 := hcs 6 _ H.out.2.2.2.2.1; have k7 := hcs 7 _ H.out.2.2.2.2.2.1; have k8 := hcs 8 _ H.out.2.2.2.2.2.2; clear hcs hsl; obtain ⟨x1, rfl⟩ := ext_of_grow hg1; clear hg1))
    | (go_at_call 51; ((with_reducible refine (HP.out _).mono ?_); rintro e w2 ⟨rfl, hb2⟩; obtain ⟨x2, rfl⟩ := ext_of_grow hb2; clear hb2)))
  (refine wp_region_ext_tail 25 (by kernel_rfl) (by kernel_rfl) ?_; simp only [List.take_succ_cons, List.take_zero, List.drop_succ_cons, List.drop_zero]; (repeat (any_goals (first | go_big_quiet_step (first | (go_at_call 50; with_reducible refine ext_call (HN1.out _)) | (go_at_call 50; with_reducible refine ext_call (HN3.out _)) | (go_at_call 50; with_reducible refine ext_call (HN5.out _))) | (refine wpQuiet_step (fun K hK => ?_); go_simp; split <;> (refine hK _ ?_; clear hK K))))); all_goals (refine wpQuiet_nil ?_; intro w11 hb11; obtain ⟨x11, rfl⟩ := ext_of_grow hb11; clear hb11))
  all_goals
    go_wp2_with fail
    refine postP_of (v := (vbo n1 n3 n5 pl wb db).v (.slice none 0 0) (.slice none 0 0)) (by simp only [results, Tryd.results31]; go_simp) rfl (by (repeat (first | (with_reducible exact Grow.refl _) | assumption | refine Grow.ext ?_ _ | refine Grow.alloc ?_ _ | refine Grow.drew ?_ | refine Grow.setCell ?_ (by first | (simp; done) | (simp; omega)) _ | refine Grow.trans ?_ (by assumption)))) (GsR.nil hok.out rfl rfl)
end Go.Proofs.YtjllaogechckoaaDoor
