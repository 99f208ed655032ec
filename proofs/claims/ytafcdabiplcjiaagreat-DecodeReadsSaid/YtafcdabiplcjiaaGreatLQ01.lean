/- Layers 1 and 10: numbers are read by the reference. Layer 10: the reference's reader: numbers, places, operands. Printed by gen10q.py. Layer 10: the reference's reader: rvalues, statements. Printed by gen10q.py. -/
import Derived.Test.YtafcdabiplcjiaaGreatL10y
import Derived.Test.YtafcdabiplcjiaaGreatL09n
namespace Go.Proofs.YtafcdabiplcjiaaGreat
open Go.RowKit
set_option linter.unusedSimpArgs false
set_option linter.unusedVariables false

set_option maxRecDepth 100000 in
set_option maxHeartbeats 8000000 in
theorem ref01_Get (v : Value) (b : List Nat) (at' : Nat) (w : World) {F : Nat → Prop} (hs : Sl F w v b) (hat : at' ≤ b.length) :
    Calls Tryz.prog 67 #[v, .int .i64 at'] w (Ret w (.tuple #[.int .u64 (vget (b.drop at')).1, .int .i64 (getNext at' (vget (b.drop at'))), .int .i64 (vget (b.drop at')).2.2])) := by
  obtain ⟨a, n, cap, rfl, Hn, hm, hcap, hcm, hs⟩ := hs.open
  have hatn : at' ≤ n := by rw [Hn.out]; exact hat
  clear hat
  obtain ⟨g, Hg⟩ : ∃ g, Hid (g = vget (b.drop at')) := ⟨_, Lib.hid rfl⟩
  rw [← Hg.out]
  have hd1 : decide ((at' : Int) < 0) = false := by simp
  go_enter Tryz.func67, Tryz.ntmps67
  go_wp2_with fail
  go_loopw [1, 7, 8, 9] (fun av nv bv iv wr => ∃ (i acc B : Nat), i ≤ n - at' ∧ av = .int .i64 ((at' : Int) + (i : Int)) ∧ iv = .int .i64 i ∧ nv = .int .u64 acc ∧ bv = .int .u64 B ∧ Grow w wr ∧ Hid (g = vgetL i acc (b.drop (at' + i))) ∧ i ≤ 9 ∧ Hid (acc < 128 ^ i ∧ B = 128 ^ i)) (fun _ _ _ iv _ => n - at' - (intOf iv).toNat)
  case atStart => exact ⟨0, 0, 1, Nat.zero_le _, by simp, rfl, rfl, rfl, (by (repeat (first | (with_reducible exact Grow.refl _) | assumption | refine Grow.ext ?_ _ | refine Grow.alloc ?_ _ | refine Grow.drew ?_ | refine Grow.setCell ?_ (by first | (simp; done) | (simp; omega)) _ | refine Grow.trans ?_ (by assumption)))), Lib.hid (by rw [Hg.out]; rfl), by omega, Lib.hid ⟨by decide, rfl⟩⟩
  case round =>
    obtain ⟨i, acc, B, hi, rfl, rfl, rfl, rfl, hb1, Hv, hi9, HB⟩ := hrel
    obtain ⟨y1, rfl⟩ := ext_of_grow hb1
    have hi10 : decide ((i : Int) < 10) = true := by simp; omega
    by_cases hlt : i < n - at'
    · obtain ⟨bc, oc, c, rfl, Hc, hlc, hc8, hcc⟩ := hs.byte (at' + i) (by omega)
      have Hd : Hid (b.drop (at' + i) = c :: b.drop (at' + (i + 1))) := Lib.hid (by rw [drop_cons Hc]; rfl)
      have Hstep : Hid (g = if (i = 9 ∧ 1 < c) ∨ (c = 0 ∧ 0 < i) then (0, 0, 12) else if c < 128 then (acc + c * 128 ^ i, i + 1, 0) else vgetL (i + 1) (acc + c % 128 * 128 ^ i) (b.drop (at' + (i + 1)))) := Lib.hid (by rw [Hv.out, Hd.out, vgetL])
      obtain ⟨V, HV⟩ : ∃ V, Hid (V = acc + c % 128 * 128 ^ i) := ⟨_, Lib.hid rfl⟩
      clear Hv Hd Hc
      have hX : Hid (i ≤ 8 ∨ c ≤ 1 → c % 128 * B < 18446744073709551616 ∧ acc + c % 128 * B < 18446744073709551616) := Lib.hid (fun h => by
        have hacc := HB.out.1
        rw [← HB.out.2] at hacc
        rcases h with h8 | h1
        · have h2 : B ≤ 128 ^ 8 := by rw [HB.out.2]; exact Nat.pow_le_pow_right (by omega) h8
          have h3 : c % 128 * B ≤ 127 * 128 ^ 8 := Nat.mul_le_mul (by omega) h2
          omega
        · have h2 : B ≤ 128 ^ 9 := by rw [HB.out.2]; exact Nat.pow_le_pow_right (by omega) hi9
          have h3 : c % 128 * B ≤ 1 * 128 ^ 9 := Nat.mul_le_mul (by omega) h2
          omega)
      obtain ⟨X, HX⟩ : ∃ X, Hid (X = c % 128 * B) := ⟨_, Lib.hid rfl⟩
      have HVX : Hid (V = acc + X) := Lib.hid (by rw [HV.out, HX.out, HB.out.2])
      have hw1 : i ≤ 8 ∨ c ≤ 1 → IntKind.u64.wrap ((c : Int) % 128 * (B : Int)) = (X : Int) := fun h => by
        have e0 : (c : Int) % 128 * (B : Int) = ((c % 128 * B : Nat) : Int) := by push_cast; rfl
        rw [e0, IntKind.wrap_u64, Int.emod_eq_of_lt (by omega) (by have := (hX.out h).1; omega), HX.out]
      have hw2 : i ≤ 8 ∨ c ≤ 1 → IntKind.u64.wrap ((acc : Int) + (X : Int)) = (V : Int) := fun h => by
        rw [IntKind.wrap_u64, HVX.out, Int.emod_eq_of_lt (by omega) (by have := (hX.out h).2; rw [← HX.out] at this; omega)]; push_cast; rfl
      by_cases h9 : i = 9 ∧ 1 < c
      · obtain ⟨rfl, h1c⟩ := h9
        have Hs : Hid (g = (0, 0, 12)) := Lib.hid (by rw [Hstep.out, if_pos (by omega)])
        clear Hstep HV HB hw1 hw2 hX HX HVX
        go_wp2_with fail
        go_ret3
        exact ⟨by rw [Hs.out, getNext_err at' 0 0 12 (by decide)]; simp, (by (repeat (first | (with_reducible exact Grow.refl _) | assumption | refine Grow.ext ?_ _ | refine Grow.alloc ?_ _ | refine Grow.drew ?_ | refine Grow.setCell ?_ (by first | (simp; done) | (simp; omega)) _ | refine Grow.trans ?_ (by assumption))))⟩
      have hi8 : i ≤ 8 ∨ c ≤ 1 := by omega
      have hw1 := hw1 hi8
      have hw2 := hw2 hi8
      by_cases h128 : c < 128
      · by_cases h0 : c = 0 ∧ 0 < i
        · obtain ⟨rfl, hi0⟩ := h0
          have Hs : Hid (g = (0, 0, 12)) := Lib.hid (by rw [Hstep.out, if_pos (by omega)])
          clear Hstep HV HB hX HX HVX
          rcases hi8 with hi8 | -
          all_goals
            go_wp2_with fail
            all_goals go_ret3
            all_goals exact ⟨by rw [Hs.out, getNext_err at' 0 0 12 (by decide)]; simp, (by (repeat (first | (with_reducible exact Grow.refl _) | assumption | refine Grow.ext ?_ _ | refine Grow.alloc ?_ _ | refine Grow.drew ?_ | refine Grow.setCell ?_ (by first | (simp; done) | (simp; omega)) _ | refine Grow.trans ?_ (by assumption))))⟩
        · by_cases h0c : c = 0
          · subst h0c
            obtain rfl : i = 0 := by omega
            obtain rfl : acc = 0 := Nat.lt_one_iff.1 HB.out.1
            obtain rfl : B = 1 := HB.out.2
            have Hs : Hid (g = (0, 0 + 1, 0)) := Lib.hid (by rw [Hstep.out, if_neg (by omega), if_pos (by omega)])
            have hcc0 : w.cell? ⟨bc, oc + at', none⟩ = some (.int .u8 0) := hcc
            clear Hstep HV HB hX HX HVX hw1 hw2
            go_wp2_with fail
            go_ret3
            exact ⟨by rw [Hs.out, getNext_ok at' 0 0]; simp, (by (repeat (first | (with_reducible exact Grow.refl _) | assumption | refine Grow.ext ?_ _ | refine Grow.alloc ?_ _ | refine Grow.drew ?_ | refine Grow.setCell ?_ (by first | (simp; done) | (simp; omega)) _ | refine Grow.trans ?_ (by assumption))))⟩
          · have Hs : Hid (g = (V, i + 1, 0)) := Lib.hid (by rw [Hstep.out, if_neg (by omega), if_pos h128, HV.out, Nat.mod_eq_of_lt h128])
            clear Hstep HV HB hX HX HVX
            rcases hi8 with hi8 | hc1
            all_goals
              go_wp2_with fail
              all_goals go_ret3
              all_goals exact ⟨by rw [Hs.out, getNext_ok at' V i]; first | rfl | (simp; done) | (simp; omega), (by (repeat (first | (with_reducible exact Grow.refl _) | assumption | refine Grow.ext ?_ _ | refine Grow.alloc ?_ _ | refine Grow.drew ?_ | refine Grow.setCell ?_ (by first | (simp; done) | (simp; omega)) _ | refine Grow.trans ?_ (by assumption))))⟩
      · have hi8' : i ≤ 8 := by omega
        have Hs : Hid (g = vgetL (i + 1) V (b.drop (at' + (i + 1)))) := Lib.hid (by rw [Hstep.out, if_neg (by omega), if_neg (by omega), HV.out])
        obtain ⟨B2, HB2⟩ : ∃ B2, Hid (B2 = B * 128) := ⟨_, Lib.hid rfl⟩
        have hb9 : B ≤ 128 ^ 8 := by rw [HB.out.2]; exact Nat.pow_le_pow_right (by omega) hi8'
        have hw3 : IntKind.u64.wrap ((B : Int) * 128) = (B2 : Int) := by
          rw [IntKind.wrap_u64, HB2.out, Int.emod_eq_of_lt (by omega) (by omega)]; push_cast; rfl
        have HVb : Hid (V < 128 ^ (i + 1) ∧ B2 = 128 ^ (i + 1)) := Lib.hid (by
          have h1 := HB.out.1
          refine ⟨?_, by rw [HB2.out, HB.out.2, Nat.pow_succ]⟩
          rw [HV.out, Nat.pow_succ]
          have : c % 128 * 128 ^ i ≤ 127 * 128 ^ i := Nat.mul_le_mul_right _ (by omega)
          omega)
        clear Hstep HV HB hX HX HVX hb9
        go_wp2_with fail
        go_roundw
        case rel => exact ⟨i + 1, V, B2, by omega, by go_num, by go_num, by go_num, by go_num, (by (repeat (first | (with_reducible exact Grow.refl _) | assumption | refine Grow.ext ?_ _ | refine Grow.alloc ?_ _ | refine Grow.drew ?_ | refine Grow.setCell ?_ (by first | (simp; done) | (simp; omega)) _ | refine Grow.trans ?_ (by assumption)))), Hs, by omega, HVb⟩
        case measure => simp [intOf]; omega
    · have Hd : Hid (g = (0, 0, 24)) := Lib.hid (by rw [Hv.out, List.drop_eq_nil_of_le (by rw [← Hn.out]; omega)]; rfl)
      have hge : decide ((n : Int) ≤ at' + i) = true := by simp; omega
      clear Hv HB
      go_wp2_with fail
      go_ret3
      exact ⟨by rw [Hd.out, getNext_err at' 0 0 24 (by decide)]; simp, (by (repeat (first | (with_reducible exact Grow.refl _) | assumption | refine Grow.ext ?_ _ | refine Grow.alloc ?_ _ | refine Grow.drew ?_ | refine Grow.setCell ?_ (by first | (simp; done) | (simp; omega)) _ | refine Grow.trans ?_ (by assumption))))⟩
theorem ref01_Back (n : Nat) (hn : n < 18446744073709551616) (w : World) : Calls Tryz.prog 147 #[.int .u64 n] w (Ret w (.int .i64 (foldB n))) := by
  obtain ⟨m, hm2⟩ : ∃ m, n = 2 * m ∨ n = 2 * m + 1 := ⟨n / 2, by omega⟩
  rcases hm2 with rfl | rfl
  · have hf : foldB (2 * m) = m := by unfold foldB; rw [if_pos (by omega)]; omega
    rw [hf]
    have h1 : ((2 * m : Nat) : Int) / 2 = m := by omega
    go_enter Tryz.func147, Tryz.ntmps147
    go_wp2_with fail
    go_ret
    exact Ret.int (by first | rfl | (simp; done) | (simp; omega)) (by (repeat (first | (with_reducible exact Grow.refl _) | assumption | refine Grow.ext ?_ _ | refine Grow.alloc ?_ _ | refine Grow.drew ?_ | refine Grow.setCell ?_ (by first | (simp; done) | (simp; omega)) _ | refine Grow.trans ?_ (by assumption))))
  · have hf : foldB (2 * m + 1) = -(m : Int) - 1 := by unfold foldB; rw [if_neg (by omega)]; omega
    rw [hf]
    have h1' : (2 * (m : Int) + 1) / 2 = m := by omega
    go_enter Tryz.func147, Tryz.ntmps147
    go_wp2_with fail
    go_ret
    exact Ret.int (by first | rfl | (simp; done) | (simp; omega)) (by (repeat (first | (with_reducible exact Grow.refl _) | assumption | refine Grow.ext ?_ _ | refine Grow.alloc ?_ _ | refine Grow.drew ?_ | refine Grow.setCell ?_ (by first | (simp; done) | (simp; omega)) _ | refine Grow.trans ?_ (by assumption))))
set_option maxHeartbeats 2000000 in
theorem ref01_GetSigned (v : Value) (b : List Nat) (at' : Nat) (w : World) {F : Nat → Prop} (hs : Sl F w v b) (hat : at' ≤ b.length) :
    Calls Tryz.prog 143 #[v, .int .i64 at'] w (Ret w (.tuple #[.int .i64 (foldB (vget (b.drop at')).1), .int .i64 (getNext at' (vget (b.drop at'))), .int .i64 (vget (b.drop at')).2.2])) := by
  have hby := hs.bytes
  obtain ⟨a, n, cap, rfl, Hn, hm, hcap, hcm, hs⟩ := hs.open
  have hlt := vget_lt (l := b.drop at') (fun x hx => hby x (List.mem_of_mem_drop hx))
  obtain ⟨u, hu⟩ : ∃ u, (vget (b.drop at')).1 = u := ⟨_, rfl⟩
  obtain ⟨nx, hnx⟩ : ∃ nx, getNext at' (vget (b.drop at')) = nx := ⟨_, rfl⟩
  obtain ⟨er, her⟩ : ∃ er, (vget (b.drop at')).2.2 = er := ⟨_, rfl⟩
  have Hc : Hid (∀ w' (q : Sl F w' (.slice a n cap) b), Calls Tryz.prog 67 #[.slice a n cap, .int .i64 at'] w' (Ret w' (.tuple #[.int .u64 u, .int .i64 nx, .int .i64 er]))) := Lib.hid (fun w' q => by have := ref01_Get _ b at' w' q hat; rw [hu, hnx, her] at this; exact this)
  by_cases he : er = 0
  · subst he
    have Hk : Hid (∀ w', Calls Tryz.prog 147 #[.int .u64 u] w' (Ret w' (.int .i64 (foldB u)))) := Lib.hid (fun w' => ref01_Back u (by rw [← hu]; exact hlt) w')
    obtain ⟨m, hm2⟩ : ∃ m, foldB u = m := ⟨_, rfl⟩
    rw [hm2] at Hk
    rw [hu, hnx, her, hm2]
    clear hu hnx her hlt hm2
    go_enter Tryz.func143, Tryz.ntmps143
    go_wp2_with (first | (go_at_call 67; ((with_reducible refine (Hc.out _ (hs.mono (by (repeat (first | (with_reducible exact Grow.refl _) | assumption | refine Grow.ext ?_ _ | refine Grow.alloc ?_ _ | refine Grow.drew ?_ | refine Grow.setCell ?_ (by first | (simp; done) | (simp; omega)) _ | refine Grow.trans ?_ (by assumption)))))).mono ?_); rintro e w1 ⟨rfl, hb1⟩; obtain ⟨x1, rfl⟩ := ext_of_grow hb1; clear hb1)) | (go_at_call 147; ((with_reducible refine (Hk.out _).mono ?_); rintro e w2 ⟨rfl, hb2⟩; obtain ⟨x2, rfl⟩ := ext_of_grow hb2; clear hb2)))
    go_ret3
    exact ⟨rfl, (by (repeat (first | (with_reducible exact Grow.refl _) | assumption | refine Grow.ext ?_ _ | refine Grow.alloc ?_ _ | refine Grow.drew ?_ | refine Grow.setCell ?_ (by first | (simp; done) | (simp; omega)) _ | refine Grow.trans ?_ (by assumption))))⟩
  · have h0 : foldB u = 0 := by
      have h4 : (vget (b.drop at')).1 = 0 := vgetL_zero _ _ _ (by rw [show vgetL 0 0 (b.drop at') = vget (b.drop at') from rfl, her]; exact he)
      rw [hu] at h4; subst h4; simp [foldB]
    have h1 : nx = 0 := by rw [← hnx]; unfold getNext; rw [if_neg (by rw [her]; exact he)]
    have he1 : (er == 0) = false := by simp [he]
    have he2 : (er != 0) = true := by simp [he]
    rw [hu, hnx, her, h0]
    subst h1
    clear hu hnx her hlt h0 he
    go_enter Tryz.func143, Tryz.ntmps143
    go_wp2_with (first | (go_at_call 67; ((with_reducible refine (Hc.out _ (hs.mono (by (repeat (first | (with_reducible exact Grow.refl _) | assumption | refine Grow.ext ?_ _ | refine Grow.alloc ?_ _ | refine Grow.drew ?_ | refine Grow.setCell ?_ (by first | (simp; done) | (simp; omega)) _ | refine Grow.trans ?_ (by assumption)))))).mono ?_); rintro e w1 ⟨rfl, hb1⟩; obtain ⟨x1, rfl⟩ := ext_of_grow hb1; clear hb1)))
    go_ret3
    exact ⟨rfl, (by (repeat (first | (with_reducible exact Grow.refl _) | assumption | refine Grow.ext ?_ _ | refine Grow.alloc ?_ _ | refine Grow.drew ?_ | refine Grow.setCell ?_ (by first | (simp; done) | (simp; omega)) _ | refine Grow.trans ?_ (by assumption))))⟩
set_option maxRecDepth 100000 in
set_option maxHeartbeats 4000000 in
theorem ref10_num {rb : Nat} {bv : Value} {b : List Nat} {W : RS → World} (h : RdW 90 rb bv b W) (s : RS) (hs : s.at' ≤ b.length) (lo hi : Nat) (hlo : lo < 1000) (hhi : hi < 1000) :
    Calls Tryz.prog 38 #[.pointer (some ⟨rb, 0, none⟩), .int .i64 lo, .int .i64 hi] (W s) (Rdn W (.int .i64 (rdNum b lo hi s).1) (rdNum b lo hi s).2) := by
  obtain ⟨a, n, cap, rfl, Hn, hm, hcap, hcm, hsl⟩ := (h.sl s).open
  obtain ⟨at', e⟩ := s
  simp only at hs
  haveI hltw : ∀ s, LtW rb (W s) := fun s => ⟨h.lt s⟩
  have hc0 : ∀ s, (W s).cell? ⟨rb, 0, none⟩ = some (.slice a n cap) := fun s => by simp [World.cell?, h.box s]
  have hc1 : ∀ s, (W s).cell? ⟨rb, 1, none⟩ = some (.int .i64 s.at') := fun s => by simp [World.cell?, h.box s]
  have hc2 : ∀ s, (W s).cell? ⟨rb, 2, none⟩ = some (.int .i64 s.e) := fun s => by simp [World.cell?, h.box s]
  have hf1 : ∀ s, (W s).frozen? ⟨rb, 1, none⟩ = false := fun s => by simp [World.frozen?, h.box s]
  have hf2 : ∀ s, (W s).frozen? ⟨rb, 2, none⟩ = false := fun s => by simp [World.frozen?, h.box s]
  have hsA := h.setAt
  have hsE := h.setE
  by_cases he : e = 0
  · subst he
    have hlt := vget_lt (hsl.drop_byte at')
    obtain ⟨u, hu⟩ : ∃ u, (vget (b.drop at')).1 = u := ⟨_, rfl⟩
    obtain ⟨nx, hnx⟩ : ∃ nx, getNext at' (vget (b.drop at')) = nx := ⟨_, rfl⟩
    obtain ⟨er, her⟩ : ∃ er, (vget (b.drop at')).2.2 = er := ⟨_, rfl⟩
    have Hc : Hid (∀ w' (q : Sl (fun k => k ≠ rb) w' (.slice a n cap) b), Calls Tryz.prog 67 #[.slice a n cap, .int .i64 at'] w' (Ret w' (.tuple #[.int .u64 u, .int .i64 nx, .int .i64 er]))) := Lib.hid (fun w' q => by have := ref01_Get _ b at' w' q hs; rw [hu, hnx, her] at this; exact this)
    by_cases her0 : er = 0
    · subst her0
      obtain ⟨nk, hnk⟩ : ∃ nk : Nat, nx = nk ∧ nk = at' + (vget (b.drop at')).2.1 := ⟨_, by rw [← hnx]; unfold getNext; rw [if_pos her], rfl⟩
      obtain ⟨rfl, hnk⟩ := hnk
      by_cases hrg : u < lo ∨ hi < u
      · have Hr : Hid (rdNum b lo hi ⟨at', 0⟩ = (lo, ⟨at', 16⟩)) := Lib.hid (by unfold rdNum; rw [if_neg (by simp), if_neg (by simp only; rw [her]; simp), if_pos (by simp only; rw [hu]; exact hrg)])
        rw [hu] at hlt
        clear hu hnx her hnk
        rw [Hr.out]
        rcases hrg with hrg | hrg
        all_goals
          go_enter Tryz.func38, Tryz.ntmps38
          go_wp2_with fail
          (refine wp_region_ext (by kernel_rfl) (by kernel_rfl) ?_; (repeat (any_goals (first | go_big_quiet_step (first | (go_at_call 67; refine ext_call (Hc.out _ (hsl.mono (by (repeat (first | (with_reducible exact Grow.refl _) | assumption | refine Grow.ext ?_ _ | refine Grow.alloc ?_ _ | refine Grow.drew ?_ | refine Grow.setCell ?_ (by first | (simp; done) | (simp; omega)) _ | refine Grow.trans ?_ (by assumption)))))))) | (refine wpQuiet_step (fun K hK => ?_); go_simp; split <;> (refine hK _ ?_; clear hK K))))); all_goals (refine wpQuiet_nil ?_; intro w3 hb3; obtain ⟨x3, rfl⟩ := ext_of_grow hb3; clear hb3))
          go_wp2_with fail
          all_goals (go_ret; exact ⟨rfl, _, rfl⟩)
      · have Hr : Hid (rdNum b lo hi ⟨at', 0⟩ = (u, ⟨nk, 0⟩)) := Lib.hid (by unfold rdNum; rw [if_neg (by simp), if_neg (by simp only; rw [her]; simp), if_neg (by simp only; rw [hu]; exact hrg)]; simp only; rw [hu, hnk])
        have hr1 : ¬ u < lo := by omega
        have hr2 : ¬ hi < u := by omega
        rw [hu] at hlt
        clear hu hnx her hnk hrg
        rw [Hr.out]
        go_enter Tryz.func38, Tryz.ntmps38
        go_wp2_with fail
        (refine wp_region_ext (by kernel_rfl) (by kernel_rfl) ?_; (repeat (any_goals (first | go_big_quiet_step (first | (go_at_call 67; refine ext_call (Hc.out _ (hsl.mono (by (repeat (first | (with_reducible exact Grow.refl _) | assumption | refine Grow.ext ?_ _ | refine Grow.alloc ?_ _ | refine Grow.drew ?_ | refine Grow.setCell ?_ (by first | (simp; done) | (simp; omega)) _ | refine Grow.trans ?_ (by assumption)))))))) | (refine wpQuiet_step (fun K hK => ?_); go_simp; split <;> (refine hK _ ?_; clear hK K))))); all_goals (refine wpQuiet_nil ?_; intro w3 hb3; obtain ⟨x3, rfl⟩ := ext_of_grow hb3; clear hb3))
        go_wp2_with fail
        go_ret
        exact ⟨rfl, _, rfl⟩
    · have Hr : Hid (rdNum b lo hi ⟨at', 0⟩ = (lo, ⟨at', er⟩)) := Lib.hid (by unfold rdNum; rw [if_neg (by simp), if_pos (by simp only; rw [her]; exact her0)]; simp only; rw [her])
      have her1 : (er == 0) = false := by simp [her0]
      have her2 : (er != 0) = true := by simp [her0]
      rw [hu] at hlt
      clear hu hnx her her0
      rw [Hr.out]
      go_enter Tryz.func38, Tryz.ntmps38
      go_wp2_with fail
      (refine wp_region_ext (by kernel_rfl) (by kernel_rfl) ?_; (repeat (any_goals (first | go_big_quiet_step (first | (go_at_call 67; refine ext_call (Hc.out _ (hsl.mono (by (repeat (first | (with_reducible exact Grow.refl _) | assumption | refine Grow.ext ?_ _ | refine Grow.alloc ?_ _ | refine Grow.drew ?_ | refine Grow.setCell ?_ (by first | (simp; done) | (simp; omega)) _ | refine Grow.trans ?_ (by assumption)))))))) | (refine wpQuiet_step (fun K hK => ?_); go_simp; split <;> (refine hK _ ?_; clear hK K))))); all_goals (refine wpQuiet_nil ?_; intro w3 hb3; obtain ⟨x3, rfl⟩ := ext_of_grow hb3; clear hb3))
      go_wp2_with fail
      go_ret
      exact ⟨rfl, _, rfl⟩
  · have Hr : Hid (rdNum b lo hi ⟨at', e⟩ = (lo, ⟨at', e⟩)) := Lib.hid (by unfold rdNum; rw [if_pos he])
    have he1 : (e != 0) = true := by simp [he]
    rw [Hr.out]
    clear he
    go_enter Tryz.func38, Tryz.ntmps38
    go_wp2_with fail
    go_ret
    exact ⟨rfl, ⟨(W ⟨at', e⟩).drawn, #[]⟩, (ext_selfw _).symm⟩
theorem rqSg_at {b : List Nat} {s : RS} (hb : ∀ x ∈ b, x < 256) (hs : s.at' ≤ b.length) : (rqSg b s).2.at' ≤ b.length := by
  unfold rqSg
  split
  · exact hs
  · split
    · exact hs
    · have hz := vget_back (l := b.drop s.at') (fun x hx => hb x (List.mem_of_mem_drop hx)) (n := (vget (b.drop s.at')).1) (k := (vget (b.drop s.at')).2.1) (Prod.ext rfl (Prod.ext rfl (show (vget (b.drop s.at')).2.2 = 0 by omega)))
      have := hz.2.2.2
      simp only [List.length_drop] at this
      simp only
      omega
set_option maxRecDepth 100000 in
set_option maxHeartbeats 4000000 in
theorem ref10_signed {rb : Nat} {bv : Value} {b : List Nat} {W : RS → World} (h : RdW 90 rb bv b W) (s : RS) (hs : s.at' ≤ b.length) :
    Calls Tryz.prog 130 #[.pointer (some ⟨rb, 0, none⟩)] (W s) (Rdn W (.int .i64 (rqSg b s).1) (rqSg b s).2) := by
  obtain ⟨a, n, cap, rfl, Hn, hm, hcap, hcm, hsl⟩ := (h.sl s).open
  obtain ⟨at', e⟩ := s
  simp only at hs
  haveI hltw : ∀ s, LtW rb (W s) := fun s => ⟨h.lt s⟩
  have hc0 : ∀ s, (W s).cell? ⟨rb, 0, none⟩ = some (.slice a n cap) := fun s => by simp [World.cell?, h.box s]
  have hc1 : ∀ s, (W s).cell? ⟨rb, 1, none⟩ = some (.int .i64 s.at') := fun s => by simp [World.cell?, h.box s]
  have hc2 : ∀ s, (W s).cell? ⟨rb, 2, none⟩ = some (.int .i64 s.e) := fun s => by simp [World.cell?, h.box s]
  have hf1 : ∀ s, (W s).frozen? ⟨rb, 1, none⟩ = false := fun s => by simp [World.frozen?, h.box s]
  have hf2 : ∀ s, (W s).frozen? ⟨rb, 2, none⟩ = false := fun s => by simp [World.frozen?, h.box s]
  have hsA := h.setAt
  have hsE := h.setE
  by_cases he : e = 0
  · subst he
    obtain ⟨er, her⟩ : ∃ er, (vget (b.drop at')).2.2 = er := ⟨_, rfl⟩
    have Hc : Hid (∀ w' (q : Sl (fun k => k ≠ rb) w' (.slice a n cap) b), Calls Tryz.prog 143 #[.slice a n cap, .int .i64 at'] w' (Ret w' (.tuple #[.int .i64 (foldB (vget (b.drop at')).1), .int .i64 (getNext at' (vget (b.drop at'))), .int .i64 er]))) := Lib.hid (fun w' q => by have := ref01_GetSigned _ b at' w' q hs; rw [her] at this; exact this)
    obtain ⟨m, hm2⟩ : ∃ m, foldB (vget (b.drop at')).1 = m := ⟨_, rfl⟩
    obtain ⟨nx, hnx⟩ : ∃ nx, getNext at' (vget (b.drop at')) = nx := ⟨_, rfl⟩
    by_cases her0 : er = 0
    · subst her0
      obtain ⟨nk, hnk⟩ : ∃ nk : Nat, nx = nk ∧ nk = at' + (vget (b.drop at')).2.1 := ⟨_, by rw [← hnx]; unfold getNext; rw [if_pos her], rfl⟩
      obtain ⟨rfl, hnk⟩ := hnk
      have Hr : Hid (rqSg b ⟨at', 0⟩ = (m, ⟨nk, 0⟩)) := Lib.hid (by unfold rqSg; rw [if_neg (by simp), if_neg (by simp only; rw [her]; simp)]; simp only; rw [hm2, hnk])
      rw [hm2, hnx] at Hc
      clear hnx her hnk hm2
      rw [Hr.out]
      go_enter Tryz.func130, Tryz.ntmps130
      go_wp2_with fail
      (refine wp_region_ext (by kernel_rfl) (by kernel_rfl) ?_; (repeat (any_goals (first | go_big_quiet_step (first | (go_at_call 143; refine ext_call (Hc.out _ (hsl.mono (by (repeat (first | (with_reducible exact Grow.refl _) | assumption | refine Grow.ext ?_ _ | refine Grow.alloc ?_ _ | refine Grow.drew ?_ | refine Grow.setCell ?_ (by first | (simp; done) | (simp; omega)) _ | refine Grow.trans ?_ (by assumption)))))))) | (refine wpQuiet_step (fun K hK => ?_); go_simp; split <;> (refine hK _ ?_; clear hK K))))); all_goals (refine wpQuiet_nil ?_; intro w3 hb3; obtain ⟨x3, rfl⟩ := ext_of_grow hb3; clear hb3))
      go_wp2_with fail
      go_ret
      exact ⟨rfl, _, rfl⟩
    · have Hr : Hid (rqSg b ⟨at', 0⟩ = (0, ⟨at', er⟩)) := Lib.hid (by unfold rqSg; rw [if_neg (by simp), if_pos (by simp only; rw [her]; exact her0)]; simp only; rw [her])
      have her1 : (er == 0) = false := by simp [her0]
      have her2 : (er != 0) = true := by simp [her0]
      rw [hm2, hnx] at Hc
      clear hnx her her0 hm2
      rw [Hr.out]
      go_enter Tryz.func130, Tryz.ntmps130
      go_wp2_with fail
      (refine wp_region_ext (by kernel_rfl) (by kernel_rfl) ?_; (repeat (any_goals (first | go_big_quiet_step (first | (go_at_call 143; refine ext_call (Hc.out _ (hsl.mono (by (repeat (first | (with_reducible exact Grow.refl _) | assumption | refine Grow.ext ?_ _ | refine Grow.alloc ?_ _ | refine Grow.drew ?_ | refine Grow.setCell ?_ (by first | (simp; done) | (simp; omega)) _ | refine Grow.trans ?_ (by assumption)))))))) | (refine wpQuiet_step (fun K hK => ?_); go_simp; split <;> (refine hK _ ?_; clear hK K))))); all_goals (refine wpQuiet_nil ?_; intro w3 hb3; obtain ⟨x3, rfl⟩ := ext_of_grow hb3; clear hb3))
      go_wp2_with fail
      go_ret
      exact ⟨rfl, _, rfl⟩
  · have Hr : Hid (rqSg b ⟨at', e⟩ = (0, ⟨at', e⟩)) := Lib.hid (by unfold rqSg; rw [if_pos he])
    have he1 : (e != 0) = true := by simp [he]
    rw [Hr.out]
    clear he
    go_enter Tryz.func130, Tryz.ntmps130
    go_wp2_with fail
    go_ret
    exact ⟨rfl, ⟨(W ⟨at', e⟩).drawn, #[]⟩, (ext_selfw _).symm⟩
set_option maxHeartbeats 2000000 in
theorem ref10_place {rb : Nat} {bv : Value} {b : List Nat} {W : RS → World} (h : RdW 90 rb bv b W) (s : RS) (hs : s.at' ≤ b.length) :
    Calls Tryz.prog 101 #[.pointer (some ⟨rb, 0, none⟩)] (W s) (Rdn W (rdPl b s).1.v (rdPl b s).2) := by
  haveI hltw : ∀ s, LtW rb (W s) := fun s => ⟨h.lt s⟩
  haveI hsz : ∀ s0 s1, EqW (W s1).heap.size (W s0) := fun s0 s1 => h.szW s1 s0
  obtain ⟨q, Hq⟩ : ∃ q, Hid (q = rdNum b 0 95 s) := ⟨_, Lib.hid rfl⟩
  have Hc : Hid (∀ o, Calls Tryz.prog 38 #[.pointer (some ⟨rb, 0, none⟩), .int .i64 0, .int .i64 95] ((W s).alloc o) (fun e w' => e = .returned (.int .i64 q.1) ∧ ∃ y, w' = ext ((W q.2).alloc o) y)) := Lib.hid (fun o => by rw [Hq.out]; exact ref10_num (h.alloc o) s hs 0 95 (by omega) (by omega))
  have hq1 : q.1 ≤ 95 := by rw [Hq.out]; exact (rdNum_le (by omega)).2
  have Hr : Hid (rdPl b s = (⟨(q.1 / 6 : Nat), decide (3 ≤ q.1 % 6), (q.1 % 3 : Nat)⟩, q.2)) := Lib.hid (by rw [Hq.out]; rfl)
  obtain ⟨u, s1⟩ := q
  simp only at hq1
  rw [Hr.out]
  clear Hq
  go_enter Tryz.func101, Tryz.ntmps101
  go_wp2_with (first
    | (go_at_call 38; ((with_reducible refine (Hc.out _).mono ?_); rintro e w1 ⟨rfl, x1, rfl⟩)))
  (try simp only [Exit.inBlock, Exit.then])
  refine postR_of (by simp only [results, Tryz.results101]; go_simp <;> rfl) rfl (by (repeat (first | (with_reducible exact Grow.refl _) | assumption | refine Grow.ext ?_ _ | refine Grow.alloc ?_ _ | refine Grow.drew ?_ | refine Grow.setCell ?_ (by first | (simp; done) | (simp; omega)) _ | refine Grow.trans ?_ (by assumption)))) ?_
  show _ = Value.agg #[_, _, _]
  simp
  omega
theorem rqOpd_at {b : List Nat} {s : RS} (hb : ∀ x ∈ b, x < 256) (hs : s.at' ≤ b.length) : (rqOpd b s).2.at' ≤ b.length := by
  unfold rqOpd
  split
  · exact rqSg_at hb (rdNum_at hb hs)
  · exact rdPl_at hb (rdNum_at hb hs)

set_option maxRecDepth 100000 in
set_option maxHeartbeats 8000000 in
theorem ref10_operand {rb : Nat} {bv : Value} {b : List Nat} {W : RS → World} (h : RdW 90 rb bv b W) (s : RS) (hs : s.at' ≤ b.length) :
    Calls Tryz.prog 103 #[.pointer (some ⟨rb, 0, none⟩)] (W s) (Rdn W (rqOpd b s).1.v (rqOpd b s).2) := by
  haveI hltw : ∀ s, LtW rb (W s) := fun s => ⟨h.lt s⟩
  haveI hsz : ∀ s0 s1, EqW (W s1).heap.size (W s0) := fun s0 s1 => h.szW s1 s0
  have hb : ∀ x ∈ b, x < 256 := by have := (h.sl s).drop_byte 0; rwa [List.drop_zero] at this
  obtain ⟨q0, Hq0⟩ : ∃ q, Hid (q = rdNum b 1 3 s) := ⟨_, Lib.hid rfl⟩
  have Hc0 : Hid (∀ W2, RdW 90 rb bv b W2 → Calls Tryz.prog 38 #[.pointer (some ⟨rb, 0, none⟩), .int .i64 1, .int .i64 3] (W2 s) (Rdn W2 (.int .i64 q0.1) q0.2)) := Lib.hid (fun W2 h2 => by rw [Hq0.out]; exact ref10_num h2 s hs 1 3 (by omega) (by omega))
  have hz0 : q0.2.at' ≤ b.length := by rw [Hq0.out]; exact rdNum_at hb hs
  have hq0 : 1 ≤ q0.1 ∧ q0.1 ≤ 3 := by rw [Hq0.out]; exact rdNum_le (by omega)
  have hk : q0.1 = 1 ∨ q0.1 = 2 ∨ q0.1 = 3 := by omega
  clear hq0
  rcases hk with hk | hk | hk
  · obtain ⟨q1, Hq1⟩ : ∃ q, Hid (q = rqSg b q0.2) := ⟨_, Lib.hid rfl⟩
    have Hc1 : Hid (∀ W2, RdW 90 rb bv b W2 → Calls Tryz.prog 130 #[.pointer (some ⟨rb, 0, none⟩)] (W2 q0.2) (Rdn W2 (.int .i64 q1.1) q1.2)) := Lib.hid (fun W2 h2 => by rw [Hq1.out]; exact ref10_signed h2 q0.2 hz0)
    have hz1 : q1.2.at' ≤ b.length := by rw [Hq1.out]; exact rqSg_at hb hz0
    have Hr : Hid (rqOpd b s = (⟨1, q1.1, ⟨0, false, 0⟩⟩, q1.2)) := Lib.hid (by unfold rqOpd; simp only [← Hq0.out]; (try rw [if_neg (by rw [hk]; decide)]); (try rw [if_neg (by rw [hk]; decide)]); (try rw [if_neg (by rw [hk]; decide)]); (try rw [if_neg (by rw [hk]; decide)]); (try rw [if_neg (by rw [hk]; decide)]); (try rw [if_pos hk]); try simp only [← Hq1.out]; (first | done | rfl | (rw [hk]; rfl)))
    rw [Hr.out]
    clear Hr hb hz0 hz1
    clear Hq1 Hq0
    obtain ⟨u0, s0⟩ := q0
    obtain ⟨u1, s1⟩ := q1
    simp only at hk
    subst hk
    go_enter Tryz.func103, Tryz.ntmps103
    go_wp2_with (first
      | (go_at_call 38; ((with_reducible refine (Hc0.out _ (h.alloc _)).mono ?_); rintro e w1 ⟨rfl, x0, rfl⟩; (try dsimp only [])))
      | (go_at_call 130; ((with_reducible refine (Hc1.out _ (((h.alloc _).ext _).alloc _)).mono ?_); rintro e w1 ⟨rfl, x1, rfl⟩; (try dsimp only []))))
    (try simp only [Exit.inBlock, Exit.then])
    refine postR_of (by simp only [results, Tryz.results103]; go_simp <;> rfl) rfl (by (repeat (first | (with_reducible exact Grow.refl _) | assumption | refine Grow.ext ?_ _ | refine Grow.alloc ?_ _ | refine Grow.drew ?_ | refine Grow.setCell ?_ (by first | (simp; done) | (simp; omega)) _ | refine Grow.trans ?_ (by assumption)))) ?_
    rfl
  · obtain ⟨q1, Hq1⟩ : ∃ q, Hid (q = rdPl b q0.2) := ⟨_, Lib.hid rfl⟩
    have Hc1 : Hid (∀ W2, RdW 90 rb bv b W2 → Calls Tryz.prog 101 #[.pointer (some ⟨rb, 0, none⟩)] (W2 q0.2) (Rdn W2 q1.1.v q1.2)) := Lib.hid (fun W2 h2 => by rw [Hq1.out]; exact ref10_place h2 q0.2 hz0)
    have hz1 : q1.2.at' ≤ b.length := by rw [Hq1.out]; exact rdPl_at hb hz0
    have Hr : Hid (rqOpd b s = (⟨2, 0, q1.1⟩, q1.2)) := Lib.hid (by unfold rqOpd; simp only [← Hq0.out]; (try rw [if_neg (by rw [hk]; decide)]); (try rw [if_neg (by rw [hk]; decide)]); (try rw [if_neg (by rw [hk]; decide)]); (try rw [if_neg (by rw [hk]; decide)]); (try rw [if_neg (by rw [hk]; decide)]); (try rw [if_pos hk]); try simp only [← Hq1.out]; (first | done | rfl | (rw [hk]; rfl)))
    rw [Hr.out]
    clear Hr hb hz0 hz1
    clear Hq1 Hq0
    obtain ⟨u0, s0⟩ := q0
    obtain ⟨⟨l1, d1, f1⟩, s1⟩ := q1
    simp only at hk
    subst hk
    go_enter Tryz.func103, Tryz.ntmps103
    go_wp2_with (first
      | (go_at_call 38; ((with_reducible refine (Hc0.out _ (h.alloc _)).mono ?_); rintro e w1 ⟨rfl, x0, rfl⟩; (try dsimp only [])))
      | (go_at_call 101; ((with_reducible refine (Hc1.out _ (((h.alloc _).ext _).alloc _)).mono ?_); rintro e w1 ⟨rfl, x1, rfl⟩; (try dsimp only []))))
    (try simp only [Exit.inBlock, Exit.then])
    refine postR_of (by simp only [results, Tryz.results103]; go_simp <;> rfl) rfl (by (repeat (first | (with_reducible exact Grow.refl _) | assumption | refine Grow.ext ?_ _ | refine Grow.alloc ?_ _ | refine Grow.drew ?_ | refine Grow.setCell ?_ (by first | (simp; done) | (simp; omega)) _ | refine Grow.trans ?_ (by assumption)))) ?_
    rfl
  · obtain ⟨q1, Hq1⟩ : ∃ q, Hid (q = rdPl b q0.2) := ⟨_, Lib.hid rfl⟩
    have Hc1 : Hid (∀ W2, RdW 90 rb bv b W2 → Calls Tryz.prog 101 #[.pointer (some ⟨rb, 0, none⟩)] (W2 q0.2) (Rdn W2 q1.1.v q1.2)) := Lib.hid (fun W2 h2 => by rw [Hq1.out]; exact ref10_place h2 q0.2 hz0)
    have hz1 : q1.2.at' ≤ b.length := by rw [Hq1.out]; exact rdPl_at hb hz0
    have Hr : Hid (rqOpd b s = (⟨3, 0, q1.1⟩, q1.2)) := Lib.hid (by unfold rqOpd; simp only [← Hq0.out]; (try rw [if_neg (by rw [hk]; decide)]); (try rw [if_neg (by rw [hk]; decide)]); (try rw [if_neg (by rw [hk]; decide)]); (try rw [if_neg (by rw [hk]; decide)]); (try rw [if_neg (by rw [hk]; decide)]); (try rw [if_pos hk]); try simp only [← Hq1.out]; (first | done | rfl | (rw [hk]; rfl)))
    rw [Hr.out]
    clear Hr hb hz0 hz1
    clear Hq1 Hq0
    obtain ⟨u0, s0⟩ := q0
    obtain ⟨⟨l1, d1, f1⟩, s1⟩ := q1
    simp only at hk
    subst hk
    go_enter Tryz.func103, Tryz.ntmps103
    go_wp2_with (first
      | (go_at_call 38; ((with_reducible refine (Hc0.out _ (h.alloc _)).mono ?_); rintro e w1 ⟨rfl, x0, rfl⟩; (try dsimp only [])))
      | (go_at_call 101; ((with_reducible refine (Hc1.out _ (((h.alloc _).ext _).alloc _)).mono ?_); rintro e w1 ⟨rfl, x1, rfl⟩; (try dsimp only []))))
    (try simp only [Exit.inBlock, Exit.then])
    refine postR_of (by simp only [results, Tryz.results103]; go_simp <;> rfl) rfl (by (repeat (first | (with_reducible exact Grow.refl _) | assumption | refine Grow.ext ?_ _ | refine Grow.alloc ?_ _ | refine Grow.drew ?_ | refine Grow.setCell ?_ (by first | (simp; done) | (simp; omega)) _ | refine Grow.trans ?_ (by assumption)))) ?_
    rfl
theorem rqRv_at {b : List Nat} {s : RS} (hb : ∀ x ∈ b, x < 256) (hs : s.at' ≤ b.length) : (rqRv b s).2.at' ≤ b.length := by
  have h0 := rdNum_at (lo := 1) (hi := 5) hb hs
  unfold rqRv
  (repeat' split)
  · exact rqOpd_at hb h0
  · exact rqOpd_at hb (rqOpd_at hb (rdNum_at hb h0))
  · exact rqOpd_at hb (rqOpd_at hb h0)
  · exact rdPl_at hb (rdNum_at hb h0)
  · exact rdPl_at hb h0
set_option maxRecDepth 100000 in
set_option maxHeartbeats 8000000 in
theorem ref10_rvalue {rb : Nat} {bv : Value} {b : List Nat} {W : RS → World} (h : RdW 90 rb bv b W) (s : RS) (hs : s.at' ≤ b.length) :
    Calls Tryz.prog 102 #[.pointer (some ⟨rb, 0, none⟩)] (W s) (Rdn W (rqRv b s).1.v (rqRv b s).2) := by
  haveI hltw : ∀ s, LtW rb (W s) := fun s => ⟨h.lt s⟩
  haveI hsz : ∀ s0 s1, EqW (W s1).heap.size (W s0) := fun s0 s1 => h.szW s1 s0
  have hb : ∀ x ∈ b, x < 256 := by have := (h.sl s).drop_byte 0; rwa [List.drop_zero] at this
  obtain ⟨q0, Hq0⟩ : ∃ q, Hid (q = rdNum b 1 5 s) := ⟨_, Lib.hid rfl⟩
  have Hc0 : Hid (∀ W2, RdW 90 rb bv b W2 → Calls Tryz.prog 38 #[.pointer (some ⟨rb, 0, none⟩), .int .i64 1, .int .i64 5] (W2 s) (Rdn W2 (.int .i64 q0.1) q0.2)) := Lib.hid (fun W2 h2 => by rw [Hq0.out]; exact ref10_num h2 s hs 1 5 (by omega) (by omega))
  have hz0 : q0.2.at' ≤ b.length := by rw [Hq0.out]; exact rdNum_at hb hs
  have hq0 : 1 ≤ q0.1 ∧ q0.1 ≤ 5 := by rw [Hq0.out]; exact rdNum_le (by omega)
  have hk : q0.1 = 1 ∨ q0.1 = 2 ∨ q0.1 = 3 ∨ q0.1 = 4 ∨ q0.1 = 5 := by omega
  clear hq0
  rcases hk with hk | hk | hk | hk | hk
  · obtain ⟨q1, Hq1⟩ : ∃ q, Hid (q = rqOpd b q0.2) := ⟨_, Lib.hid rfl⟩
    have Hc1 : Hid (∀ W2, RdW 90 rb bv b W2 → Calls Tryz.prog 103 #[.pointer (some ⟨rb, 0, none⟩)] (W2 q0.2) (Rdn W2 q1.1.v q1.2)) := Lib.hid (fun W2 h2 => by rw [Hq1.out]; exact ref10_operand h2 q0.2 hz0)
    have hz1 : q1.2.at' ≤ b.length := by rw [Hq1.out]; exact rqOpd_at hb hz0
    have Hr : Hid (rqRv b s = (⟨1, 0, 0, q1.1, ⟨0, 0, ⟨0, false, 0⟩⟩, ⟨0, false, 0⟩⟩, q1.2)) := Lib.hid (by unfold rqRv; simp only [← Hq0.out]; (try rw [if_neg (by rw [hk]; decide)]); (try rw [if_neg (by rw [hk]; decide)]); (try rw [if_neg (by rw [hk]; decide)]); (try rw [if_neg (by rw [hk]; decide)]); (try rw [if_neg (by rw [hk]; decide)]); (try rw [if_pos hk]); try simp only [← Hq1.out]; (first | done | rfl | (rw [hk]; rfl)))
    rw [Hr.out]
    clear Hr hb hz0 hz1
    clear Hq1 Hq0
    obtain ⟨u0, s0⟩ := q0
    obtain ⟨⟨k1, n1, ⟨l1, d1, f1⟩⟩, s1⟩ := q1
    simp only at hk
    subst hk
    go_enter Tryz.func102, Tryz.ntmps102
    go_wp2_with (first
      | (go_at_call 38; ((with_reducible refine (Hc0.out _ (h.alloc _)).mono ?_); rintro e w1 ⟨rfl, x0, rfl⟩; (try dsimp only [])))
      | (go_at_call 103; ((with_reducible refine (Hc1.out _ (((h.alloc _).ext _).alloc _)).mono ?_); rintro e w1 ⟨rfl, x1, rfl⟩; (try dsimp only []))))
    (try simp only [Exit.inBlock, Exit.then])
    refine postR_of (by simp only [results, Tryz.results102]; go_simp <;> rfl) rfl (by (repeat (first | (with_reducible exact Grow.refl _) | assumption | refine Grow.ext ?_ _ | refine Grow.alloc ?_ _ | refine Grow.drew ?_ | refine Grow.setCell ?_ (by first | (simp; done) | (simp; omega)) _ | refine Grow.trans ?_ (by assumption)))) ?_
    rfl
  · obtain ⟨q1, Hq1⟩ : ∃ q, Hid (q = rdNum b 1 6 q0.2) := ⟨_, Lib.hid rfl⟩
    have Hc1 : Hid (∀ W2, RdW 90 rb bv b W2 → Calls Tryz.prog 38 #[.pointer (some ⟨rb, 0, none⟩), .int .i64 1, .int .i64 6] (W2 q0.2) (Rdn W2 (.int .i64 q1.1) q1.2)) := Lib.hid (fun W2 h2 => by rw [Hq1.out]; exact ref10_num h2 q0.2 hz0 1 6 (by omega) (by omega))
    have hz1 : q1.2.at' ≤ b.length := by rw [Hq1.out]; exact rdNum_at hb hz0
    have hq1 : 1 ≤ q1.1 ∧ q1.1 ≤ 6 := by rw [Hq1.out]; exact rdNum_le (by omega)
    obtain ⟨q2, Hq2⟩ : ∃ q, Hid (q = rqOpd b q1.2) := ⟨_, Lib.hid rfl⟩
    have Hc2 : Hid (∀ W2, RdW 90 rb bv b W2 → Calls Tryz.prog 103 #[.pointer (some ⟨rb, 0, none⟩)] (W2 q1.2) (Rdn W2 q2.1.v q2.2)) := Lib.hid (fun W2 h2 => by rw [Hq2.out]; exact ref10_operand h2 q1.2 hz1)
    have hz2 : q2.2.at' ≤ b.length := by rw [Hq2.out]; exact rqOpd_at hb hz1
    obtain ⟨q3, Hq3⟩ : ∃ q, Hid (q = rqOpd b q2.2) := ⟨_, Lib.hid rfl⟩
    have Hc3 : Hid (∀ W2, RdW 90 rb bv b W2 → Calls Tryz.prog 103 #[.pointer (some ⟨rb, 0, none⟩)] (W2 q2.2) (Rdn W2 q3.1.v q3.2)) := Lib.hid (fun W2 h2 => by rw [Hq3.out]; exact ref10_operand h2 q2.2 hz2)
    have hz3 : q3.2.at' ≤ b.length := by rw [Hq3.out]; exact rqOpd_at hb hz2
    have Hr : Hid (rqRv b s = (⟨2, q1.1, 0, q2.1, q3.1, ⟨0, false, 0⟩⟩, q3.2)) := Lib.hid (by unfold rqRv; simp only [← Hq0.out]; (try rw [if_neg (by rw [hk]; decide)]); (try rw [if_neg (by rw [hk]; decide)]); (try rw [if_neg (by rw [hk]; decide)]); (try rw [if_neg (by rw [hk]; decide)]); (try rw [if_neg (by rw [hk]; decide)]); (try rw [if_pos hk]); try simp only [← Hq1.out]; try simp only [← Hq2.out]; try simp only [← Hq3.out]; (first | done | rfl | (rw [hk]; rfl)))
    rw [Hr.out]
    clear Hr hb hz0 hz1 hz2 hz3
    clear Hq3 Hq2 Hq1 Hq0
    obtain ⟨u0, s0⟩ := q0
    obtain ⟨u1, s1⟩ := q1
    obtain ⟨⟨k2, n2, ⟨l2, d2, f2⟩⟩, s2⟩ := q2
    obtain ⟨⟨k3, n3, ⟨l3, d3, f3⟩⟩, s3⟩ := q3
    simp only at hq1
    simp only at hk
    subst hk
    go_enter Tryz.func102, Tryz.ntmps102
    go_wp2_with (first
      | (go_at_call 38; ((with_reducible refine (Hc0.out _ (h.alloc _)).mono ?_); rintro e w1 ⟨rfl, x0, rfl⟩; (try dsimp only [])))
      | (go_at_call 38; ((with_reducible refine (Hc1.out _ (((h.alloc _).ext _).alloc _)).mono ?_); rintro e w1 ⟨rfl, x1, rfl⟩; (try dsimp only [])))
      | (go_at_call 103; ((with_reducible refine (Hc2.out _ ((((h.alloc _).ext _).alloc _).ext _)).mono ?_); rintro e w1 ⟨rfl, x2, rfl⟩; (try dsimp only [])))
      | (go_at_call 103; ((with_reducible refine (Hc3.out _ (((((h.alloc _).ext _).alloc _).ext _).ext _)).mono ?_); rintro e w1 ⟨rfl, x3, rfl⟩; (try dsimp only []))))
    (try simp only [Exit.inBlock, Exit.then])
    refine postR_of (by simp only [results, Tryz.results102]; go_simp <;> rfl) rfl (by (repeat (first | (with_reducible exact Grow.refl _) | assumption | refine Grow.ext ?_ _ | refine Grow.alloc ?_ _ | refine Grow.drew ?_ | refine Grow.setCell ?_ (by first | (simp; done) | (simp; omega)) _ | refine Grow.trans ?_ (by assumption)))) ?_
    rfl
  · obtain ⟨q1, Hq1⟩ : ∃ q, Hid (q = rqOpd b q0.2) := ⟨_, Lib.hid rfl⟩
    have Hc1 : Hid (∀ W2, RdW 90 rb bv b W2 → Calls Tryz.prog 103 #[.pointer (some ⟨rb, 0, none⟩)] (W2 q0.2) (Rdn W2 q1.1.v q1.2)) := Lib.hid (fun W2 h2 => by rw [Hq1.out]; exact ref10_operand h2 q0.2 hz0)
    have hz1 : q1.2.at' ≤ b.length := by rw [Hq1.out]; exact rqOpd_at hb hz0
    obtain ⟨q2, Hq2⟩ : ∃ q, Hid (q = rqOpd b q1.2) := ⟨_, Lib.hid rfl⟩
    have Hc2 : Hid (∀ W2, RdW 90 rb bv b W2 → Calls Tryz.prog 103 #[.pointer (some ⟨rb, 0, none⟩)] (W2 q1.2) (Rdn W2 q2.1.v q2.2)) := Lib.hid (fun W2 h2 => by rw [Hq2.out]; exact ref10_operand h2 q1.2 hz1)
    have hz2 : q2.2.at' ≤ b.length := by rw [Hq2.out]; exact rqOpd_at hb hz1
    have Hr : Hid (rqRv b s = (⟨3, 0, 0, q1.1, q2.1, ⟨0, false, 0⟩⟩, q2.2)) := Lib.hid (by unfold rqRv; simp only [← Hq0.out]; (try rw [if_neg (by rw [hk]; decide)]); (try rw [if_neg (by rw [hk]; decide)]); (try rw [if_neg (by rw [hk]; decide)]); (try rw [if_neg (by rw [hk]; decide)]); (try rw [if_neg (by rw [hk]; decide)]); (try rw [if_pos hk]); try simp only [← Hq1.out]; try simp only [← Hq2.out]; (first | done | rfl | (rw [hk]; rfl)))
    rw [Hr.out]
    clear Hr hb hz0 hz1 hz2
    clear Hq2 Hq1 Hq0
    obtain ⟨u0, s0⟩ := q0
    obtain ⟨⟨k1, n1, ⟨l1, d1, f1⟩⟩, s1⟩ := q1
    obtain ⟨⟨k2, n2, ⟨l2, d2, f2⟩⟩, s2⟩ := q2
    simp only at hk
    subst hk
    go_enter Tryz.func102, Tryz.ntmps102
    go_wp2_with (first
      | (go_at_call 38; ((with_reducible refine (Hc0.out _ (h.alloc _)).mono ?_); rintro e w1 ⟨rfl, x0, rfl⟩; (try dsimp only [])))
      | (go_at_call 103; ((with_reducible refine (Hc1.out _ (((h.alloc _).ext _).alloc _)).mono ?_); rintro e w1 ⟨rfl, x1, rfl⟩; (try dsimp only [])))
      | (go_at_call 103; ((with_reducible refine (Hc2.out _ ((((h.alloc _).ext _).alloc _).ext _)).mono ?_); rintro e w1 ⟨rfl, x2, rfl⟩; (try dsimp only []))))
    (try simp only [Exit.inBlock, Exit.then])
    refine postR_of (by simp only [results, Tryz.results102]; go_simp <;> rfl) rfl (by (repeat (first | (with_reducible exact Grow.refl _) | assumption | refine Grow.ext ?_ _ | refine Grow.alloc ?_ _ | refine Grow.drew ?_ | refine Grow.setCell ?_ (by first | (simp; done) | (simp; omega)) _ | refine Grow.trans ?_ (by assumption)))) ?_
    rfl
  · obtain ⟨q1, Hq1⟩ : ∃ q, Hid (q = rdNum b 1 3 q0.2) := ⟨_, Lib.hid rfl⟩
    have Hc1 : Hid (∀ W2, RdW 90 rb bv b W2 → Calls Tryz.prog 38 #[.pointer (some ⟨rb, 0, none⟩), .int .i64 1, .int .i64 3] (W2 q0.2) (Rdn W2 (.int .i64 q1.1) q1.2)) := Lib.hid (fun W2 h2 => by rw [Hq1.out]; exact ref10_num h2 q0.2 hz0 1 3 (by omega) (by omega))
    have hz1 : q1.2.at' ≤ b.length := by rw [Hq1.out]; exact rdNum_at hb hz0
    have hq1 : 1 ≤ q1.1 ∧ q1.1 ≤ 3 := by rw [Hq1.out]; exact rdNum_le (by omega)
    obtain ⟨q2, Hq2⟩ : ∃ q, Hid (q = rdPl b q1.2) := ⟨_, Lib.hid rfl⟩
    have Hc2 : Hid (∀ W2, RdW 90 rb bv b W2 → Calls Tryz.prog 101 #[.pointer (some ⟨rb, 0, none⟩)] (W2 q1.2) (Rdn W2 q2.1.v q2.2)) := Lib.hid (fun W2 h2 => by rw [Hq2.out]; exact ref10_place h2 q1.2 hz1)
    have hz2 : q2.2.at' ≤ b.length := by rw [Hq2.out]; exact rdPl_at hb hz1
    have Hr : Hid (rqRv b s = (⟨4, 0, q1.1, ⟨0, 0, ⟨0, false, 0⟩⟩, ⟨0, 0, ⟨0, false, 0⟩⟩, q2.1⟩, q2.2)) := Lib.hid (by unfold rqRv; simp only [← Hq0.out]; (try rw [if_neg (by rw [hk]; decide)]); (try rw [if_neg (by rw [hk]; decide)]); (try rw [if_neg (by rw [hk]; decide)]); (try rw [if_neg (by rw [hk]; decide)]); (try rw [if_neg (by rw [hk]; decide)]); (try rw [if_pos hk]); try simp only [← Hq1.out]; try simp only [← Hq2.out]; (first | done | rfl | (rw [hk]; rfl)))
    rw [Hr.out]
    clear Hr hb hz0 hz1 hz2
    clear Hq2 Hq1 Hq0
    obtain ⟨u0, s0⟩ := q0
    obtain ⟨u1, s1⟩ := q1
    obtain ⟨⟨l2, d2, f2⟩, s2⟩ := q2
    simp only at hq1
    simp only at hk
    subst hk
    go_enter Tryz.func102, Tryz.ntmps102
    go_wp2_with (first
      | (go_at_call 38; ((with_reducible refine (Hc0.out _ (h.alloc _)).mono ?_); rintro e w1 ⟨rfl, x0, rfl⟩; (try dsimp only [])))
      | (go_at_call 38; ((with_reducible refine (Hc1.out _ (((h.alloc _).ext _).alloc _)).mono ?_); rintro e w1 ⟨rfl, x1, rfl⟩; (try dsimp only [])))
      | (go_at_call 101; ((with_reducible refine (Hc2.out _ ((((h.alloc _).ext _).alloc _).ext _)).mono ?_); rintro e w1 ⟨rfl, x2, rfl⟩; (try dsimp only []))))
    (try simp only [Exit.inBlock, Exit.then])
    refine postR_of (by simp only [results, Tryz.results102]; go_simp <;> rfl) rfl (by (repeat (first | (with_reducible exact Grow.refl _) | assumption | refine Grow.ext ?_ _ | refine Grow.alloc ?_ _ | refine Grow.drew ?_ | refine Grow.setCell ?_ (by first | (simp; done) | (simp; omega)) _ | refine Grow.trans ?_ (by assumption)))) ?_
    rfl
  · obtain ⟨q1, Hq1⟩ : ∃ q, Hid (q = rdPl b q0.2) := ⟨_, Lib.hid rfl⟩
    have Hc1 : Hid (∀ W2, RdW 90 rb bv b W2 → Calls Tryz.prog 101 #[.pointer (some ⟨rb, 0, none⟩)] (W2 q0.2) (Rdn W2 q1.1.v q1.2)) := Lib.hid (fun W2 h2 => by rw [Hq1.out]; exact ref10_place h2 q0.2 hz0)
    have hz1 : q1.2.at' ≤ b.length := by rw [Hq1.out]; exact rdPl_at hb hz0
    have Hr : Hid (rqRv b s = (⟨5, 0, 0, ⟨0, 0, ⟨0, false, 0⟩⟩, ⟨0, 0, ⟨0, false, 0⟩⟩, q1.1⟩, q1.2)) := Lib.hid (by unfold rqRv; simp only [← Hq0.out]; (try rw [if_neg (by rw [hk]; decide)]); (try rw [if_neg (by rw [hk]; decide)]); (try rw [if_neg (by rw [hk]; decide)]); (try rw [if_neg (by rw [hk]; decide)]); (try rw [if_neg (by rw [hk]; decide)]); (try rw [if_pos hk]); try simp only [← Hq1.out]; (first | done | rfl | (rw [hk]; rfl)))
    rw [Hr.out]
    clear Hr hb hz0 hz1
    clear Hq1 Hq0
    obtain ⟨u0, s0⟩ := q0
    obtain ⟨⟨l1, d1, f1⟩, s1⟩ := q1
    simp only at hk
    subst hk
    go_enter Tryz.func102, Tryz.ntmps102
    go_wp2_with (first
      | (go_at_call 38; ((with_reducible refine (Hc0.out _ (h.alloc _)).mono ?_); rintro e w1 ⟨rfl, x0, rfl⟩; (try dsimp only [])))
      | (go_at_call 101; ((with_reducible refine (Hc1.out _ (((h.alloc _).ext _).alloc _)).mono ?_); rintro e w1 ⟨rfl, x1, rfl⟩; (try dsimp only []))))
    (try simp only [Exit.inBlock, Exit.then])
    refine postR_of (by simp only [results, Tryz.results102]; go_simp <;> rfl) rfl (by (repeat (first | (with_reducible exact Grow.refl _) | assumption | refine Grow.ext ?_ _ | refine Grow.alloc ?_ _ | refine Grow.drew ?_ | refine Grow.setCell ?_ (by first | (simp; done) | (simp; omega)) _ | refine Grow.trans ?_ (by assumption)))) ?_
    rfl
theorem rqSt_at {b : List Nat} {s : RS} (hb : ∀ x ∈ b, x < 256) (hs : s.at' ≤ b.length) : (rqSt b s).2.at' ≤ b.length := by
  have h0 := rdNum_at (lo := 1) (hi := 4) hb hs
  unfold rqSt
  (repeat' split)
  · exact rqRv_at hb (rdPl_at hb h0)
  · exact rdNum_at hb h0
  · exact rqOpd_at hb h0
set_option maxRecDepth 100000 in
set_option maxHeartbeats 8000000 in
theorem ref10_stmt {rb : Nat} {bv : Value} {b : List Nat} {W : RS → World} (h : RdW 90 rb bv b W) (s : RS) (hs : s.at' ≤ b.length) :
    Calls Tryz.prog 69 #[.pointer (some ⟨rb, 0, none⟩)] (W s) (Rdn W (rqSt b s).1.v (rqSt b s).2) := by
  haveI hltw : ∀ s, LtW rb (W s) := fun s => ⟨h.lt s⟩
  haveI hsz : ∀ s0 s1, EqW (W s1).heap.size (W s0) := fun s0 s1 => h.szW s1 s0
  have hb : ∀ x ∈ b, x < 256 := by have := (h.sl s).drop_byte 0; rwa [List.drop_zero] at this
  obtain ⟨q0, Hq0⟩ : ∃ q, Hid (q = rdNum b 1 4 s) := ⟨_, Lib.hid rfl⟩
  have Hc0 : Hid (∀ W2, RdW 90 rb bv b W2 → Calls Tryz.prog 38 #[.pointer (some ⟨rb, 0, none⟩), .int .i64 1, .int .i64 4] (W2 s) (Rdn W2 (.int .i64 q0.1) q0.2)) := Lib.hid (fun W2 h2 => by rw [Hq0.out]; exact ref10_num h2 s hs 1 4 (by omega) (by omega))
  have hz0 : q0.2.at' ≤ b.length := by rw [Hq0.out]; exact rdNum_at hb hs
  have hq0 : 1 ≤ q0.1 ∧ q0.1 ≤ 4 := by rw [Hq0.out]; exact rdNum_le (by omega)
  have hk : q0.1 = 1 ∨ q0.1 = 2 ∨ q0.1 = 3 ∨ q0.1 = 4 := by omega
  clear hq0
  rcases hk with hk | hk | hk | hk
  · obtain ⟨q1, Hq1⟩ : ∃ q, Hid (q = rdPl b q0.2) := ⟨_, Lib.hid rfl⟩
    have Hc1 : Hid (∀ W2, RdW 90 rb bv b W2 → Calls Tryz.prog 101 #[.pointer (some ⟨rb, 0, none⟩)] (W2 q0.2) (Rdn W2 q1.1.v q1.2)) := Lib.hid (fun W2 h2 => by rw [Hq1.out]; exact ref10_place h2 q0.2 hz0)
    have hz1 : q1.2.at' ≤ b.length := by rw [Hq1.out]; exact rdPl_at hb hz0
    obtain ⟨q2, Hq2⟩ : ∃ q, Hid (q = rqRv b q1.2) := ⟨_, Lib.hid rfl⟩
    have Hc2 : Hid (∀ W2, RdW 90 rb bv b W2 → Calls Tryz.prog 102 #[.pointer (some ⟨rb, 0, none⟩)] (W2 q1.2) (Rdn W2 q2.1.v q2.2)) := Lib.hid (fun W2 h2 => by rw [Hq2.out]; exact ref10_rvalue h2 q1.2 hz1)
    have hz2 : q2.2.at' ≤ b.length := by rw [Hq2.out]; exact rqRv_at hb hz1
    have Hr : Hid (rqSt b s = (⟨1, q1.1, q2.1, ⟨0, 0, ⟨0, false, 0⟩⟩, 0⟩, q2.2)) := Lib.hid (by unfold rqSt; simp only [← Hq0.out]; (try rw [if_neg (by rw [hk]; decide)]); (try rw [if_neg (by rw [hk]; decide)]); (try rw [if_neg (by rw [hk]; decide)]); (try rw [if_neg (by rw [hk]; decide)]); (try rw [if_neg (by rw [hk]; decide)]); (try rw [if_pos hk]); try simp only [← Hq1.out]; try simp only [← Hq2.out]; (first | done | rfl | (rw [hk]; rfl)))
    rw [Hr.out]
    clear Hr hb hz0 hz1 hz2
    clear Hq2 Hq1 Hq0
    obtain ⟨u0, s0⟩ := q0
    obtain ⟨⟨l1, d1, f1⟩, s1⟩ := q1
    obtain ⟨⟨k2, p2, t2, ⟨ka2, na2, ⟨la2, da2, fa2⟩⟩, ⟨kb2, nb2, ⟨lb2, db2, fb2⟩⟩, ⟨l2, d2, f2⟩⟩, s2⟩ := q2
    simp only at hk
    subst hk
    go_enter Tryz.func69, Tryz.ntmps69
    go_wp2_with (first
      | (go_at_call 38; ((with_reducible refine (Hc0.out _ (h.alloc _)).mono ?_); rintro e w1 ⟨rfl, x0, rfl⟩; (try dsimp only [])))
      | (go_at_call 101; ((with_reducible refine (Hc1.out _ (((h.alloc _).ext _).alloc _)).mono ?_); rintro e w1 ⟨rfl, x1, rfl⟩; (try dsimp only [])))
      | (go_at_call 102; ((with_reducible refine (Hc2.out _ ((((h.alloc _).ext _).alloc _).ext _)).mono ?_); rintro e w1 ⟨rfl, x2, rfl⟩; (try dsimp only []))))
    (try simp only [Exit.inBlock, Exit.then])
    refine postR_of (by simp only [results, Tryz.results69]; go_simp <;> rfl) rfl (by (repeat (first | (with_reducible exact Grow.refl _) | assumption | refine Grow.ext ?_ _ | refine Grow.alloc ?_ _ | refine Grow.drew ?_ | refine Grow.setCell ?_ (by first | (simp; done) | (simp; omega)) _ | refine Grow.trans ?_ (by assumption)))) ?_
    rfl
  · obtain ⟨q1, Hq1⟩ : ∃ q, Hid (q = rqOpd b q0.2) := ⟨_, Lib.hid rfl⟩
    have Hc1 : Hid (∀ W2, RdW 90 rb bv b W2 → Calls Tryz.prog 103 #[.pointer (some ⟨rb, 0, none⟩)] (W2 q0.2) (Rdn W2 q1.1.v q1.2)) := Lib.hid (fun W2 h2 => by rw [Hq1.out]; exact ref10_operand h2 q0.2 hz0)
    have hz1 : q1.2.at' ≤ b.length := by rw [Hq1.out]; exact rqOpd_at hb hz0
    have Hr : Hid (rqSt b s = (⟨2, ⟨0, false, 0⟩, ⟨0, 0, 0, ⟨0, 0, ⟨0, false, 0⟩⟩, ⟨0, 0, ⟨0, false, 0⟩⟩, ⟨0, false, 0⟩⟩, q1.1, 0⟩, q1.2)) := Lib.hid (by unfold rqSt; simp only [← Hq0.out]; (try rw [if_neg (by rw [hk]; decide)]); (try rw [if_neg (by rw [hk]; decide)]); (try rw [if_neg (by rw [hk]; decide)]); (try rw [if_neg (by rw [hk]; decide)]); (try rw [if_neg (by rw [hk]; decide)]); (try rw [if_pos hk]); try simp only [← Hq1.out]; (first | done | rfl | (rw [hk]; rfl)))
    rw [Hr.out]
    clear Hr hb hz0 hz1
    clear Hq1 Hq0
    obtain ⟨u0, s0⟩ := q0
    obtain ⟨⟨k1, n1, ⟨l1, d1, f1⟩⟩, s1⟩ := q1
    simp only at hk
    subst hk
    go_enter Tryz.func69, Tryz.ntmps69
    go_wp2_with (first
      | (go_at_call 38; ((with_reducible refine (Hc0.out _ (h.alloc _)).mono ?_); rintro e w1 ⟨rfl, x0, rfl⟩; (try dsimp only [])))
      | (go_at_call 103; ((with_reducible refine (Hc1.out _ (((h.alloc _).ext _).alloc _)).mono ?_); rintro e w1 ⟨rfl, x1, rfl⟩; (try dsimp only []))))
    (try simp only [Exit.inBlock, Exit.then])
    refine postR_of (by simp only [results, Tryz.results69]; go_simp <;> rfl) rfl (by (repeat (first | (with_reducible exact Grow.refl _) | assumption | refine Grow.ext ?_ _ | refine Grow.alloc ?_ _ | refine Grow.drew ?_ | refine Grow.setCell ?_ (by first | (simp; done) | (simp; omega)) _ | refine Grow.trans ?_ (by assumption)))) ?_
    rfl
  · obtain ⟨q1, Hq1⟩ : ∃ q, Hid (q = rdNum b 0 15 q0.2) := ⟨_, Lib.hid rfl⟩
    have Hc1 : Hid (∀ W2, RdW 90 rb bv b W2 → Calls Tryz.prog 38 #[.pointer (some ⟨rb, 0, none⟩), .int .i64 0, .int .i64 15] (W2 q0.2) (Rdn W2 (.int .i64 q1.1) q1.2)) := Lib.hid (fun W2 h2 => by rw [Hq1.out]; exact ref10_num h2 q0.2 hz0 0 15 (by omega) (by omega))
    have hz1 : q1.2.at' ≤ b.length := by rw [Hq1.out]; exact rdNum_at hb hz0
    have hq1 : 0 ≤ q1.1 ∧ q1.1 ≤ 15 := by rw [Hq1.out]; exact rdNum_le (by omega)
    have Hr : Hid (rqSt b s = (⟨3, ⟨0, false, 0⟩, ⟨0, 0, 0, ⟨0, 0, ⟨0, false, 0⟩⟩, ⟨0, 0, ⟨0, false, 0⟩⟩, ⟨0, false, 0⟩⟩, ⟨0, 0, ⟨0, false, 0⟩⟩, q1.1⟩, q1.2)) := Lib.hid (by unfold rqSt; simp only [← Hq0.out]; (try rw [if_neg (by rw [hk]; decide)]); (try rw [if_neg (by rw [hk]; decide)]); (try rw [if_neg (by rw [hk]; decide)]); (try rw [if_neg (by rw [hk]; decide)]); (try rw [if_neg (by rw [hk]; decide)]); (try rw [if_pos hk]); try simp only [← Hq1.out]; (first | done | rfl | (rw [hk]; rfl)))
    rw [Hr.out]
    clear Hr hb hz0 hz1
    clear Hq1 Hq0
    obtain ⟨u0, s0⟩ := q0
    obtain ⟨u1, s1⟩ := q1
    simp only at hq1
    simp only at hk
    subst hk
    go_enter Tryz.func69, Tryz.ntmps69
    go_wp2_with (first
      | (go_at_call 38; ((with_reducible refine (Hc0.out _ (h.alloc _)).mono ?_); rintro e w1 ⟨rfl, x0, rfl⟩; (try dsimp only [])))
      | (go_at_call 38; ((with_reducible refine (Hc1.out _ (((h.alloc _).ext _).alloc _)).mono ?_); rintro e w1 ⟨rfl, x1, rfl⟩; (try dsimp only []))))
    (try simp only [Exit.inBlock, Exit.then])
    refine postR_of (by simp only [results, Tryz.results69]; go_simp <;> rfl) rfl (by (repeat (first | (with_reducible exact Grow.refl _) | assumption | refine Grow.ext ?_ _ | refine Grow.alloc ?_ _ | refine Grow.drew ?_ | refine Grow.setCell ?_ (by first | (simp; done) | (simp; omega)) _ | refine Grow.trans ?_ (by assumption)))) ?_
    rfl
  · obtain ⟨q1, Hq1⟩ : ∃ q, Hid (q = rqOpd b q0.2) := ⟨_, Lib.hid rfl⟩
    have Hc1 : Hid (∀ W2, RdW 90 rb bv b W2 → Calls Tryz.prog 103 #[.pointer (some ⟨rb, 0, none⟩)] (W2 q0.2) (Rdn W2 q1.1.v q1.2)) := Lib.hid (fun W2 h2 => by rw [Hq1.out]; exact ref10_operand h2 q0.2 hz0)
    have hz1 : q1.2.at' ≤ b.length := by rw [Hq1.out]; exact rqOpd_at hb hz0
    have Hr : Hid (rqSt b s = (⟨4, ⟨0, false, 0⟩, ⟨0, 0, 0, ⟨0, 0, ⟨0, false, 0⟩⟩, ⟨0, 0, ⟨0, false, 0⟩⟩, ⟨0, false, 0⟩⟩, q1.1, 0⟩, q1.2)) := Lib.hid (by unfold rqSt; simp only [← Hq0.out]; (try rw [if_neg (by rw [hk]; decide)]); (try rw [if_neg (by rw [hk]; decide)]); (try rw [if_neg (by rw [hk]; decide)]); (try rw [if_neg (by rw [hk]; decide)]); (try rw [if_neg (by rw [hk]; decide)]); (try rw [if_pos hk]); try simp only [← Hq1.out]; (first | done | rfl | (rw [hk]; rfl)))
    rw [Hr.out]
    clear Hr hb hz0 hz1
    clear Hq1 Hq0
    obtain ⟨u0, s0⟩ := q0
    obtain ⟨⟨k1, n1, ⟨l1, d1, f1⟩⟩, s1⟩ := q1
    simp only at hk
    subst hk
    go_enter Tryz.func69, Tryz.ntmps69
    go_wp2_with (first
      | (go_at_call 38; ((with_reducible refine (Hc0.out _ (h.alloc _)).mono ?_); rintro e w1 ⟨rfl, x0, rfl⟩; (try dsimp only [])))
      | (go_at_call 103; ((with_reducible refine (Hc1.out _ (((h.alloc _).ext _).alloc _)).mono ?_); rintro e w1 ⟨rfl, x1, rfl⟩; (try dsimp only []))))
    (try simp only [Exit.inBlock, Exit.then])
    refine postR_of (by simp only [results, Tryz.results69]; go_simp <;> rfl) rfl (by (repeat (first | (with_reducible exact Grow.refl _) | assumption | refine Grow.ext ?_ _ | refine Grow.alloc ?_ _ | refine Grow.drew ?_ | refine Grow.setCell ?_ (by first | (simp; done) | (simp; omega)) _ | refine Grow.trans ?_ (by assumption)))) ?_
    rfl
end Go.Proofs.YtafcdabiplcjiaaGreat
