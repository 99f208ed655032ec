/- Layer 17: the law of calls of functions with the mark. -/
import Derived.Test.YtiikhfjdpaofdaaL17w
namespace Go.Proofs.Ytiikhfjdpaofdaa
open Go.RowKit
set_option linter.unusedSimpArgs false
set_option linter.unusedVariables false

theorem calls_guard {x : Pr} (hx : prErr x = 0) (hs : safeErr x = 0) {f t : Fn} {c : Nat} (hf : f ∈ x.funcs) (ht : x.funcs[c]? = some t) (hc : callsTo f c = true) (hu : t.uns = true) : f.uns = true := by
  have hg := guard_at hx hs hf
  unfold guardF at hg
  cases h : f.uns
  · exfalso
    rw [h] at hg
    simp only [Bool.false_or, Bool.not_eq_true'] at hg
    unfold rawF at hg; simp only [Bool.or_eq_false_iff] at hg
    unfold callsTo at hc
    obtain ⟨b, hb, hq⟩ := List.any_eq_true.1 hc
    simp only [Bool.and_eq_true, decide_eq_true_eq] at hq
    have := List.any_eq_false.1 hg.2 b hb
    unfold rawB at this
    rw [hq.2] at this
    simp only [hq.1, decide_true, Bool.true_and, Int.toNat_natCast, List.getD_eq_getElem?_getD, ht, Option.getD_some, hu, Bool.or_true, not_true_eq_false] at this
  · rfl
theorem uns_like {p : Pr} (hp : prErr p = 0) {k : Nat} {bits b' : Int} (hx : ∀ q, q < 8 → q ≠ k → bitB b' q = bitB bits q) {q : Nat} (hq : q ≠ k) :
    ((withP p b').funcs.getD q fnz).uns = ((withP p bits).funcs.getD q fnz).uns := by
  rw [List.getD_eq_getElem?_getD, List.getD_eq_getElem?_getD]
  cases hqf : p.funcs[q]? with
  | none =>
    have hl := List.getElem?_eq_none_iff.1 hqf
    rw [List.getElem?_eq_none (by rw [with_len]; exact hl), List.getElem?_eq_none (by rw [with_len]; exact hl)]
  | some g =>
    have h8 := (pr_ok hp).2.1
    have hq8 : q < 8 := Nat.lt_of_lt_of_le (List.getElem?_eq_some_iff.1 hqf).1 h8
    rw [with_get hqf, with_get hqf]
    exact hx q hq8 hq
theorem rawB_like {p : Pr} (hp : prErr p = 0) {k : Nat} {bits b' : Int} (hx : ∀ q, q < 8 → q ≠ k → bitB b' q = bitB bits q) {f0 : Fn} (h0 : f0 ∈ p.funcs) (hc : callsTo f0 k = false) {b : Bk} (hb : b ∈ f0.blocks) :
    rawB (withP p b').funcs b = rawB (withP p bits).funcs b := by
  unfold rawB
  by_cases h4 : b.jump.kind = 4
  · have hbo := blocks_ok hp h0 b hb
    obtain ⟨q, hq⟩ := Int.eq_ofNat_of_zero_le (ju_fn0 hbo.1 h4)
    have hqk : q ≠ k := by
      intro e; subst e
      have := List.any_eq_false.1 hc b hb
      rw [h4, hq] at this; simp at this
    have e : b.jump.fn.toNat = q := by rw [hq]; rfl
    rw [e, uns_like hp hx hqk]
  · rw [decide_eq_false h4, Bool.false_and, Bool.false_and]
theorem any_like {l : List Bk} {f g : Bk → Bool} (h : ∀ b ∈ l, f b = g b) : l.any f = l.any g := by
  induction l with
  | nil => rfl
  | cons b l ih => rw [List.any_cons, List.any_cons, h b (by simp), ih (fun y hy => h y (by simp [hy]))]
theorem raw_turn' {p : Pr} (hp : prErr p = 0) {k : Nat} {bits b' : Int} (hx : ∀ q, q < 8 → q ≠ k → bitB b' q = bitB bits q) {ff : Fn} (hg : (withP p bits).funcs[k]? = some ff) (hc : callsTo ff k = false) :
    ∃ fy, Hid ((withP p b').funcs[k]? = some fy) ∧ rawF (withP p b') fy = rawF (withP p bits) ff := by
  have hkl : k < p.funcs.length := by rw [← with_len p bits]; exact (List.getElem?_eq_some_iff.1 hg).1
  obtain ⟨f0, h0⟩ : ∃ f0, p.funcs[k]? = some f0 := ⟨_, List.getElem?_eq_getElem hkl⟩
  rw [with_get h0] at hg
  have hg' := Option.some.inj hg
  have e1 : ff.locals = f0.locals := by rw [← hg']
  have e2 : ff.blocks = f0.blocks := by rw [← hg']
  have hc0 : callsTo f0 k = false := by unfold callsTo at hc ⊢; rw [← e2]; exact hc
  refine ⟨_, Lib.hid (with_get h0), ?_⟩
  unfold rawF
  rw [e1, e2, any_like (fun b hb => rawB_like hp hx (List.mem_of_getElem? h0) hc0 hb)]
theorem wrap_pow {k : Nat} (hk : k < 8) : wrap64 ((2 : Int) ^ k) = 2 ^ k := by
  obtain rfl | rfl | rfl | rfl | rfl | rfl | rfl | rfl : k = 0 ∨ k = 1 ∨ k = 2 ∨ k = 3 ∨ k = 4 ∨ k = 5 ∨ k = 6 ∨ k = 7 := by omega
  all_goals decide +kernel
def turn (bits : Int) (k : Nat) : Int := Go.bits BinOp.xor .i64 bits (wrap64 (2 ^ k))
theorem raw_turn {p : Pr} (hp : prErr p = 0) {k : Nat} (hk : k < 8) {bits : Int} {ff : Fn} (hg : (withP p bits).funcs[k]? = some ff) (hc : callsTo ff k = false) :
    ∃ fy, Hid ((withP p (turn bits k)).funcs[k]? = some fy) ∧ rawF (withP p (turn bits k)) fy = rawF (withP p bits) ff :=
  raw_turn' hp (fun q h8 hn => by unfold turn; rw [wrap_pow hk]; exact bitB_xor bits k q hk h8 hn) hg hc
theorem ref17_Calls_at (p : Pr) (pv : Value) (g c : Nat) (f : Fn) (w : World) {F : Nat → Prop} (hp : Sl F w pv p.funcs) (Hg : Hid (p.funcs[g]? = some f)) (hc : c ≤ 1000) {r : Bool} (hr : callsTo f c = r) :
    Calls Try.prog 47 #[p.v pv, .int .i64 g, .int .i64 c] w (Ret w (.bool r)) := hr ▸ ref17_Calls p pv g c f w hp Hg hc
theorem turn_i64 (bits : Int) (k : Nat) : I64 (turn bits k) := ⟨bits_lo_i64 _ _ _, bits_hi_i64 _ _ _⟩
theorem With_turn (p : Pr) (pv : Value) (bits : Int) (k : Nat) (w : World) {F : Nat → Prop} (hp : Sl F w pv p.funcs) (hok : prErr p = 0) :
    Calls Try.prog 46 #[p.v pv, .int .i64 (Go.bits BinOp.xor .i64 bits (wrap64 (2 ^ k)))] w (RetP w fun v w' => ∃ u, v = Pr.v (withP p (turn bits k)) u ∧ Sl (fun _ => True) w' u (withP p (turn bits k)).funcs) := ref17_With p pv (turn bits k) w hp (turn_i64 bits k) hok
set_option maxRecDepth 100000 in
set_option maxHeartbeats 8000000 in
theorem law_SafetyCalls (p : Pr) (pv : Value) (bits f : Int) (w : World) {F : Nat → Prop} (hpw : p.wf) (hp : Sl F w pv p.funcs) (hbt : I64 bits) (hf : I64 f) :
    Calls Try.prog 13 #[p.v pv, .int .i64 bits, .int .i64 f] w (Ret w (.bool true)) := by
  obtain ⟨a, n, cap, rfl, Hn, hm, hcap, hcm, hp⟩ := hp.open
  cases hg : bigPr 10 p
  · cases hpe : (prErr p != 0)
    · have Hpe : Hid (prErr p = 0) := Lib.hid (by simpa using hpe)
      have hn8 : n ≤ 8 := by have := (pr_ok Hpe.out).2.1; rw [← Hn.out] at this; exact this
      by_cases hr : 0 ≤ f ∧ f < n
      · obtain ⟨k, rfl⟩ := Int.eq_ofNat_of_zero_le hr.1
        have hk : k < n := by omega
        have hk8 : k < 8 := by omega
        have d1 : decide ((k : Int) < 0) = false := by simp
        have d2 : decide (n ≤ k) = false := by simp; omega
        have hk1 : (k : Int) < 0 ↔ False := by constructor; omega; exact False.elim
        have Hqx := Lib.hid (with_ok Hpe.out bits)
        go_enter Try.func13, Try.ntmps13
        go_upto_region 5 with (first
          | (go_at_call 43; ((with_reducible refine (law17_alive _).mono ?_); rintro e w1 ⟨rfl, hb1⟩; obtain ⟨x1, rfl⟩ := ext_of_grow hb1; clear hb1))
          | (go_at_call 35; ((with_reducible refine (ref14_Great p _ _ (hp.mono (by (repeat (first | (with_reducible exact Grow.refl _) | assumption | refine Grow.ext ?_ _ | refine Grow.alloc ?_ _ | refine Grow.drew ?_ | refine Grow.setCell ?_ (by first | (simp; done) | (simp; omega)) _ | refine Grow.trans ?_ (by assumption)))))).mono ?_); rintro e w2 ⟨rfl, hb2⟩; obtain ⟨x2, rfl⟩ := ext_of_grow hb2; clear hb2))
          | (go_at_call 26; ((with_reducible refine (ref08_Check p _ _ (hp.mono (by (repeat (first | (with_reducible exact Grow.refl _) | assumption | refine Grow.ext ?_ _ | refine Grow.alloc ?_ _ | refine Grow.drew ?_ | refine Grow.setCell ?_ (by first | (simp; done) | (simp; omega)) _ | refine Grow.trans ?_ (by assumption)))))).mono ?_); rintro e w3 ⟨rfl, hb3⟩; obtain ⟨x3, rfl⟩ := ext_of_grow hb3; clear hb3))
          | (go_at_call 46; ((with_reducible refine (ref17_With p _ bits _ (hp.mono (by (repeat (first | (with_reducible exact Grow.refl _) | assumption | refine Grow.ext ?_ _ | refine Grow.alloc ?_ _ | refine Grow.drew ?_ | refine Grow.setCell ?_ (by first | (simp; done) | (simp; omega)) _ | refine Grow.trans ?_ (by assumption))))) hbt Hpe.out).mono ?_); rintro e w4 ⟨_, rfl, ⟨u4, rfl, hs4⟩, hb4⟩; obtain ⟨x4, rfl⟩ := ext_of_grow hb4; clear hb4; obtain ⟨a4, n4, c4, rfl, Hn4, hm4, hcap4, hcm4, hs4⟩ := hs4.open)))
        have Hnn : Hid (n4 = n) := Lib.hid (by rw [Hn4.out, with_len, ← Hn.out])
        have hn48 : n4 ≤ 8 := by rw [Hnn.out]; exact hn8
        have hk4 : k < n4 := by rw [Hnn.out]; exact hk
        obtain ⟨b_ff, off_ff, ff, ff_locals_a, ff_locals_n, ff_locals_c, ff_blocks_a, ff_blocks_n, ff_blocks_c, rfl, ⟨Hg_ff, hl_ff, hw_ff, ff_locals, ff_blocks, c_ff0, c_ff1, c_ff2, c_ff3, r_ff0⟩⟩ := hs4.fn k hk4
        cases hse : (safeErr (withP p bits) == 0)
        · go_upto_region 14 with (first | (go_at_call 40; ((with_reducible refine (safety_Check (withP p bits) _ _ (hs4.mono (by (repeat (first | (with_reducible exact Grow.refl _) | assumption | refine Grow.ext ?_ _ | refine Grow.alloc ?_ _ | refine Grow.drew ?_ | refine Grow.setCell ?_ (by first | (simp; done) | (simp; omega)) _ | refine Grow.trans ?_ (by assumption)))))).mono ?_); rintro e w10 ⟨rfl, hb10⟩; obtain ⟨x10, rfl⟩ := ext_of_grow hb10; clear hb10)))
          cases hcf : callsTo ff k
          · have hrx := Lib.hid (rfl : rawF (withP p bits) ff = rawF (withP p bits) ff)
            obtain ⟨rx, hr⟩ : ∃ r, rawF (withP p bits) ff = r := ⟨_, rfl⟩
            obtain ⟨fy, Hgy, Hry⟩ := raw_turn Hpe.out hk8 (bits := bits) Hg_ff.out hcf
            rw [hr] at Hry
            go_upto_region 17 with (first | (go_at_call 47; ((with_reducible refine (ref17_Calls_at (withP p bits) _ k k ff _ (hs4.mono (by (repeat (first | (with_reducible exact Grow.refl _) | assumption | refine Grow.ext ?_ _ | refine Grow.alloc ?_ _ | refine Grow.drew ?_ | refine Grow.setCell ?_ (by first | (simp; done) | (simp; omega)) _ | refine Grow.trans ?_ (by assumption))))) Hg_ff (by omega) hcf).mono ?_); rintro e w5 ⟨rfl, hb5⟩; obtain ⟨x5, rfl⟩ := ext_of_grow hb5; clear hb5)) | (go_at_call 36; ((with_reducible refine (safety_Raw_at (withP p bits) _ k ff _ (hs4.mono (by (repeat (first | (with_reducible exact Grow.refl _) | assumption | refine Grow.ext ?_ _ | refine Grow.alloc ?_ _ | refine Grow.drew ?_ | refine Grow.setCell ?_ (by first | (simp; done) | (simp; omega)) _ | refine Grow.trans ?_ (by assumption))))) Hqx.out Hg_ff hr).mono ?_); rintro e w6 ⟨rfl, hb6⟩; obtain ⟨x6, rfl⟩ := ext_of_grow hb6; clear hb6)))
            go_wp2_with (first
              | (go_at_call 46; go_loud ((with_reducible refine (With_turn p _ bits k _ (hp.mono (by (repeat (first | (with_reducible exact Grow.refl _) | assumption | refine Grow.ext ?_ _ | refine Grow.alloc ?_ _ | refine Grow.drew ?_ | refine Grow.setCell ?_ (by first | (simp; done) | (simp; omega)) _ | refine Grow.trans ?_ (by assumption))))) Hpe.out).mono ?_); rintro e w7 ⟨_, rfl, ⟨u7, rfl, hs7⟩, hb7⟩; obtain ⟨x7, rfl⟩ := ext_of_grow hb7; clear hb7; obtain ⟨a7, n7, c7, rfl, Hn7, hm7, hcap7, hcm7, hs7⟩ := hs7.open))
              | (go_at_call 36; ((with_reducible refine (safety_Raw_at (withP p (turn bits k)) _ k fy _ (hs7.mono (by (repeat (first | (with_reducible exact Grow.refl _) | assumption | refine Grow.ext ?_ _ | refine Grow.alloc ?_ _ | refine Grow.drew ?_ | refine Grow.setCell ?_ (by first | (simp; done) | (simp; omega)) _ | refine Grow.trans ?_ (by assumption))))) (with_ok Hpe.out _) Hgy Hry).mono ?_); rintro e w8 ⟨rfl, hb8⟩; obtain ⟨x8, rfl⟩ := ext_of_grow hb8; clear hb8)))
            go_ret
            exact Ret.bool (by simp) (by (repeat (first | (with_reducible exact Grow.refl _) | assumption | refine Grow.ext ?_ _ | refine Grow.alloc ?_ _ | refine Grow.drew ?_ | refine Grow.setCell ?_ (by first | (simp; done) | (simp; omega)) _ | refine Grow.trans ?_ (by assumption))))
          · go_wp2_with (first | (go_at_call 47; ((with_reducible refine (ref17_Calls_at (withP p bits) _ k k ff _ (hs4.mono (by (repeat (first | (with_reducible exact Grow.refl _) | assumption | refine Grow.ext ?_ _ | refine Grow.alloc ?_ _ | refine Grow.drew ?_ | refine Grow.setCell ?_ (by first | (simp; done) | (simp; omega)) _ | refine Grow.trans ?_ (by assumption))))) Hg_ff (by omega) hcf).mono ?_); rintro e w5 ⟨rfl, hb5⟩; obtain ⟨x5, rfl⟩ := ext_of_grow hb5; clear hb5)))
            go_ret
            exact Ret.bool rfl (by (repeat (first | (with_reducible exact Grow.refl _) | assumption | refine Grow.ext ?_ _ | refine Grow.alloc ?_ _ | refine Grow.drew ?_ | refine Grow.setCell ?_ (by first | (simp; done) | (simp; omega)) _ | refine Grow.trans ?_ (by assumption))))
        · have Hs0 : Hid (safeErr (withP p bits) = 0) := Lib.hid (by simpa using hse)
          have C10 : ∀ v w' (hq : Sl (fun _ => True) w' v (withP p bits).funcs), Calls Try.prog 40 #[Pr.v (withP p bits) v] w' (Ret w' (.int .i64 0)) := fun v w' hq => by have := safety_Check (withP p bits) v w' hq; rw [Hs0.out] at this; exact this
          clear hse
          go_wp2_with (first | (go_at_call 40; ((with_reducible refine (C10 _ _ (hs4.mono (by (repeat (first | (with_reducible exact Grow.refl _) | assumption | refine Grow.ext ?_ _ | refine Grow.alloc ?_ _ | refine Grow.drew ?_ | refine Grow.setCell ?_ (by first | (simp; done) | (simp; omega)) _ | refine Grow.trans ?_ (by assumption)))))).mono ?_); rintro e w10 ⟨rfl, hb10⟩; obtain ⟨x10, rfl⟩ := ext_of_grow hb10; clear hb10)))
          go_loopw [9] (fun i wr => ∃ (g : Nat), g ≤ n4 ∧ i = .int .i64 g ∧ Grow (ext ((ext (ext (ext (ext (w.alloc (Obj.cells #[.slice a n cap] 24)) x1) x2) x3) x4).alloc (.cells #[.slice (some ⟨b_ff, off_ff, none⟩) n4 c4] 24)) x10) wr) (fun i _ => n4 - (intOf i).toNat)
          case atStart => exact ⟨0, Nat.zero_le _, rfl, (by (repeat (first | (with_reducible exact Grow.refl _) | assumption | refine Grow.ext ?_ _ | refine Grow.alloc ?_ _ | refine Grow.drew ?_ | refine Grow.setCell ?_ (by first | (simp; done) | (simp; omega)) _ | refine Grow.trans ?_ (by assumption))))⟩
          case round =>
            obtain ⟨g, hg, rfl, hb5⟩ := hrel
            obtain ⟨y5, rfl⟩ := ext_of_grow hb5
            by_cases hlt : g < n4
            · go_wp2_with fail
              go_loopw [10] (fun i wr => ∃ (c : Nat), c ≤ n4 ∧ i = .int .i64 c ∧ Grow (ext ((ext (ext (ext (ext (w.alloc (Obj.cells #[.slice a n cap] 24)) x1) x2) x3) x4).alloc (.cells #[.slice (some ⟨b_ff, off_ff, none⟩) n4 c4] 24)) x10) wr) (fun i _ => n4 - (intOf i).toNat)
              case atStart => exact ⟨0, Nat.zero_le _, rfl, (by (repeat (first | (with_reducible exact Grow.refl _) | assumption | refine Grow.ext ?_ _ | refine Grow.alloc ?_ _ | refine Grow.drew ?_ | refine Grow.setCell ?_ (by first | (simp; done) | (simp; omega)) _ | refine Grow.trans ?_ (by assumption))))⟩
              case round =>
                obtain ⟨c, hc, rfl, hb6⟩ := hrel
                obtain ⟨y6, rfl⟩ := ext_of_grow hb6
                by_cases hlt6 : c < n4
                · (obtain ⟨b_fg, off_fg, fg, fg_locals_a, fg_locals_n, fg_locals_c, fg_blocks_a, fg_blocks_n, fg_blocks_c, he_fg, ⟨Hg_fg, hl_fg, hw_fg, fg_locals, fg_blocks, c_fg0, c_fg1, c_fg2, c_fg3, r_fg0⟩⟩ := hs4.fn g hlt; simp only [Option.some.injEq, Addr.mk.injEq, and_true] at he_fg; obtain ⟨rfl, rfl⟩ := he_fg)
                  (obtain ⟨b_ft, off_ft, ft, ft_locals_a, ft_locals_n, ft_locals_c, ft_blocks_a, ft_blocks_n, ft_blocks_c, he_ft, ⟨Hg_ft, hl_ft, hw_ft, ft_locals, ft_blocks, c_ft0, c_ft1, c_ft2, c_ft3, r_ft0⟩⟩ := hs4.fn c hlt6; simp only [Option.some.injEq, Addr.mk.injEq, and_true] at he_ft; obtain ⟨rfl, rfl⟩ := he_ft)
                  have Hq : Hid (callsTo fg c = true → ft.uns = true → fg.uns = true) := Lib.hid (fun h1 h2 => calls_guard Hqx.out Hs0.out (List.mem_of_getElem? Hg_fg.out) Hg_ft.out h1 h2)
                  cases hcc : callsTo fg c
                  · go_wp2_with (first | (go_at_call 47; ((with_reducible refine (ref17_Calls_at (withP p bits) _ g c fg _ (hs4.mono (by (repeat (first | (with_reducible exact Grow.refl _) | assumption | refine Grow.ext ?_ _ | refine Grow.alloc ?_ _ | refine Grow.drew ?_ | refine Grow.setCell ?_ (by first | (simp; done) | (simp; omega)) _ | refine Grow.trans ?_ (by assumption))))) Hg_fg (by omega) hcc).mono ?_); rintro e w11 ⟨rfl, hb11⟩; obtain ⟨x11, rfl⟩ := ext_of_grow hb11; clear hb11)))
                    go_roundw
                    case rel => exact ⟨c + 1, by omega, by go_num, (by (repeat (first | (with_reducible exact Grow.refl _) | assumption | refine Grow.ext ?_ _ | refine Grow.alloc ?_ _ | refine Grow.drew ?_ | refine Grow.setCell ?_ (by first | (simp; done) | (simp; omega)) _ | refine Grow.trans ?_ (by assumption))))⟩
                    case measure => simp [intOf]; omega
                  · obtain ⟨tpar, tuns, tlocals, tblocks⟩ := ft
                    cases tuns
                    · go_wp2_with (first | (go_at_call 47; ((with_reducible refine (ref17_Calls_at (withP p bits) _ g c fg _ (hs4.mono (by (repeat (first | (with_reducible exact Grow.refl _) | assumption | refine Grow.ext ?_ _ | refine Grow.alloc ?_ _ | refine Grow.drew ?_ | refine Grow.setCell ?_ (by first | (simp; done) | (simp; omega)) _ | refine Grow.trans ?_ (by assumption))))) Hg_fg (by omega) hcc).mono ?_); rintro e w11 ⟨rfl, hb11⟩; obtain ⟨x11, rfl⟩ := ext_of_grow hb11; clear hb11)))
                      go_roundw
                      case rel => exact ⟨c + 1, by omega, by go_num, (by (repeat (first | (with_reducible exact Grow.refl _) | assumption | refine Grow.ext ?_ _ | refine Grow.alloc ?_ _ | refine Grow.drew ?_ | refine Grow.setCell ?_ (by first | (simp; done) | (simp; omega)) _ | refine Grow.trans ?_ (by assumption))))⟩
                      case measure => simp [intOf]; omega
                    · have hu2 : fg.uns = true := Hq.out hcc rfl
                      obtain ⟨gpar, guns, glocals, gblocks⟩ := fg
                      obtain rfl : guns = true := hu2
                      go_wp2_with (first | (go_at_call 47; ((with_reducible refine (ref17_Calls_at (withP p bits) _ g c ⟨gpar, true, glocals, gblocks⟩ _ (hs4.mono (by (repeat (first | (with_reducible exact Grow.refl _) | assumption | refine Grow.ext ?_ _ | refine Grow.alloc ?_ _ | refine Grow.drew ?_ | refine Grow.setCell ?_ (by first | (simp; done) | (simp; omega)) _ | refine Grow.trans ?_ (by assumption))))) Hg_fg (by omega) hcc).mono ?_); rintro e w11 ⟨rfl, hb11⟩; obtain ⟨x11, rfl⟩ := ext_of_grow hb11; clear hb11)))
                      go_roundw
                      case rel => exact ⟨c + 1, by omega, by go_num, (by (repeat (first | (with_reducible exact Grow.refl _) | assumption | refine Grow.ext ?_ _ | refine Grow.alloc ?_ _ | refine Grow.drew ?_ | refine Grow.setCell ?_ (by first | (simp; done) | (simp; omega)) _ | refine Grow.trans ?_ (by assumption))))⟩
                      case measure => simp [intOf]; omega
                · go_wp2_with fail
                  go_roundw
                  case rel => exact ⟨g + 1, by omega, by go_num, (by (repeat (first | (with_reducible exact Grow.refl _) | assumption | refine Grow.ext ?_ _ | refine Grow.alloc ?_ _ | refine Grow.drew ?_ | refine Grow.setCell ?_ (by first | (simp; done) | (simp; omega)) _ | refine Grow.trans ?_ (by assumption))))⟩
                  case measure => simp [intOf]; omega
            · go_upto_region 14 with fail
              cases hcf : callsTo ff k
              · have hrx := Lib.hid (rfl : rawF (withP p bits) ff = rawF (withP p bits) ff)
                obtain ⟨rx, hr⟩ : ∃ r, rawF (withP p bits) ff = r := ⟨_, rfl⟩
                obtain ⟨fy, Hgy, Hry⟩ := raw_turn Hpe.out hk8 (bits := bits) Hg_ff.out hcf
                rw [hr] at Hry
                go_upto_region 17 with (first | (go_at_call 47; ((with_reducible refine (ref17_Calls_at (withP p bits) _ k k ff _ (hs4.mono (by (repeat (first | (with_reducible exact Grow.refl _) | assumption | refine Grow.ext ?_ _ | refine Grow.alloc ?_ _ | refine Grow.drew ?_ | refine Grow.setCell ?_ (by first | (simp; done) | (simp; omega)) _ | refine Grow.trans ?_ (by assumption))))) Hg_ff (by omega) hcf).mono ?_); rintro e w5 ⟨rfl, hb5⟩; obtain ⟨x5, rfl⟩ := ext_of_grow hb5; clear hb5)) | (go_at_call 36; ((with_reducible refine (safety_Raw_at (withP p bits) _ k ff _ (hs4.mono (by (repeat (first | (with_reducible exact Grow.refl _) | assumption | refine Grow.ext ?_ _ | refine Grow.alloc ?_ _ | refine Grow.drew ?_ | refine Grow.setCell ?_ (by first | (simp; done) | (simp; omega)) _ | refine Grow.trans ?_ (by assumption))))) Hqx.out Hg_ff hr).mono ?_); rintro e w6 ⟨rfl, hb6⟩; obtain ⟨x6, rfl⟩ := ext_of_grow hb6; clear hb6)))
                go_wp2_with (first
                  | (go_at_call 46; go_loud ((with_reducible refine (With_turn p _ bits k _ (hp.mono (by (repeat (first | (with_reducible exact Grow.refl _) | assumption | refine Grow.ext ?_ _ | refine Grow.alloc ?_ _ | refine Grow.drew ?_ | refine Grow.setCell ?_ (by first | (simp; done) | (simp; omega)) _ | refine Grow.trans ?_ (by assumption))))) Hpe.out).mono ?_); rintro e w7 ⟨_, rfl, ⟨u7, rfl, hs7⟩, hb7⟩; obtain ⟨x7, rfl⟩ := ext_of_grow hb7; clear hb7; obtain ⟨a7, n7, c7, rfl, Hn7, hm7, hcap7, hcm7, hs7⟩ := hs7.open))
                  | (go_at_call 36; ((with_reducible refine (safety_Raw_at (withP p (turn bits k)) _ k fy _ (hs7.mono (by (repeat (first | (with_reducible exact Grow.refl _) | assumption | refine Grow.ext ?_ _ | refine Grow.alloc ?_ _ | refine Grow.drew ?_ | refine Grow.setCell ?_ (by first | (simp; done) | (simp; omega)) _ | refine Grow.trans ?_ (by assumption))))) (with_ok Hpe.out _) Hgy Hry).mono ?_); rintro e w8 ⟨rfl, hb8⟩; obtain ⟨x8, rfl⟩ := ext_of_grow hb8; clear hb8)))
                go_ret
                exact Ret.bool (by simp) (by (repeat (first | (with_reducible exact Grow.refl _) | assumption | refine Grow.ext ?_ _ | refine Grow.alloc ?_ _ | refine Grow.drew ?_ | refine Grow.setCell ?_ (by first | (simp; done) | (simp; omega)) _ | refine Grow.trans ?_ (by assumption))))
              · go_wp2_with (first | (go_at_call 47; ((with_reducible refine (ref17_Calls_at (withP p bits) _ k k ff _ (hs4.mono (by (repeat (first | (with_reducible exact Grow.refl _) | assumption | refine Grow.ext ?_ _ | refine Grow.alloc ?_ _ | refine Grow.drew ?_ | refine Grow.setCell ?_ (by first | (simp; done) | (simp; omega)) _ | refine Grow.trans ?_ (by assumption))))) Hg_ff (by omega) hcf).mono ?_); rintro e w5 ⟨rfl, hb5⟩; obtain ⟨x5, rfl⟩ := ext_of_grow hb5; clear hb5)))
                go_ret
                exact Ret.bool rfl (by (repeat (first | (with_reducible exact Grow.refl _) | assumption | refine Grow.ext ?_ _ | refine Grow.alloc ?_ _ | refine Grow.drew ?_ | refine Grow.setCell ?_ (by first | (simp; done) | (simp; omega)) _ | refine Grow.trans ?_ (by assumption))))
      · rcases Decidable.not_and_iff_or_not.1 hr with h | h
        · have d1 : decide (f < 0) = true := by simp; omega
          have d1' : f < 0 := by omega
          go_enter Try.func13, Try.ntmps13
          go_wp2_with (first | (go_at_call 43; ((with_reducible refine (law17_alive _).mono ?_); rintro e w1 ⟨rfl, hb1⟩; obtain ⟨x1, rfl⟩ := ext_of_grow hb1; clear hb1)) | (go_at_call 35; ((with_reducible refine (ref14_Great p _ _ (hp.mono (by (repeat (first | (with_reducible exact Grow.refl _) | assumption | refine Grow.ext ?_ _ | refine Grow.alloc ?_ _ | refine Grow.drew ?_ | refine Grow.setCell ?_ (by first | (simp; done) | (simp; omega)) _ | refine Grow.trans ?_ (by assumption)))))).mono ?_); rintro e w2 ⟨rfl, hb2⟩; obtain ⟨x2, rfl⟩ := ext_of_grow hb2; clear hb2)) | (go_at_call 26; ((with_reducible refine (ref08_Check p _ _ (hp.mono (by (repeat (first | (with_reducible exact Grow.refl _) | assumption | refine Grow.ext ?_ _ | refine Grow.alloc ?_ _ | refine Grow.drew ?_ | refine Grow.setCell ?_ (by first | (simp; done) | (simp; omega)) _ | refine Grow.trans ?_ (by assumption)))))).mono ?_); rintro e w3 ⟨rfl, hb3⟩; obtain ⟨x3, rfl⟩ := ext_of_grow hb3; clear hb3)))
          go_ret
          exact Ret.bool rfl (by (repeat (first | (with_reducible exact Grow.refl _) | assumption | refine Grow.ext ?_ _ | refine Grow.alloc ?_ _ | refine Grow.drew ?_ | refine Grow.setCell ?_ (by first | (simp; done) | (simp; omega)) _ | refine Grow.trans ?_ (by assumption))))
        · cases d1 : decide (f < 0)
          all_goals
            have d2 : decide ((n : Int) ≤ f) = true := by simp; omega
            go_enter Try.func13, Try.ntmps13
            go_wp2_with (first | (go_at_call 43; ((with_reducible refine (law17_alive _).mono ?_); rintro e w1 ⟨rfl, hb1⟩; obtain ⟨x1, rfl⟩ := ext_of_grow hb1; clear hb1)) | (go_at_call 35; ((with_reducible refine (ref14_Great p _ _ (hp.mono (by (repeat (first | (with_reducible exact Grow.refl _) | assumption | refine Grow.ext ?_ _ | refine Grow.alloc ?_ _ | refine Grow.drew ?_ | refine Grow.setCell ?_ (by first | (simp; done) | (simp; omega)) _ | refine Grow.trans ?_ (by assumption)))))).mono ?_); rintro e w2 ⟨rfl, hb2⟩; obtain ⟨x2, rfl⟩ := ext_of_grow hb2; clear hb2)) | (go_at_call 26; ((with_reducible refine (ref08_Check p _ _ (hp.mono (by (repeat (first | (with_reducible exact Grow.refl _) | assumption | refine Grow.ext ?_ _ | refine Grow.alloc ?_ _ | refine Grow.drew ?_ | refine Grow.setCell ?_ (by first | (simp; done) | (simp; omega)) _ | refine Grow.trans ?_ (by assumption)))))).mono ?_); rintro e w3 ⟨rfl, hb3⟩; obtain ⟨x3, rfl⟩ := ext_of_grow hb3; clear hb3)))
            go_ret
            exact Ret.bool rfl (by (repeat (first | (with_reducible exact Grow.refl _) | assumption | refine Grow.ext ?_ _ | refine Grow.alloc ?_ _ | refine Grow.drew ?_ | refine Grow.setCell ?_ (by first | (simp; done) | (simp; omega)) _ | refine Grow.trans ?_ (by assumption))))
    · go_enter Try.func13, Try.ntmps13
      go_wp2_with (first | (go_at_call 43; ((with_reducible refine (law17_alive _).mono ?_); rintro e w1 ⟨rfl, hb1⟩; obtain ⟨x1, rfl⟩ := ext_of_grow hb1; clear hb1)) | (go_at_call 35; ((with_reducible refine (ref14_Great p _ _ (hp.mono (by (repeat (first | (with_reducible exact Grow.refl _) | assumption | refine Grow.ext ?_ _ | refine Grow.alloc ?_ _ | refine Grow.drew ?_ | refine Grow.setCell ?_ (by first | (simp; done) | (simp; omega)) _ | refine Grow.trans ?_ (by assumption)))))).mono ?_); rintro e w2 ⟨rfl, hb2⟩; obtain ⟨x2, rfl⟩ := ext_of_grow hb2; clear hb2)) | (go_at_call 26; ((with_reducible refine (ref08_Check p _ _ (hp.mono (by (repeat (first | (with_reducible exact Grow.refl _) | assumption | refine Grow.ext ?_ _ | refine Grow.alloc ?_ _ | refine Grow.drew ?_ | refine Grow.setCell ?_ (by first | (simp; done) | (simp; omega)) _ | refine Grow.trans ?_ (by assumption)))))).mono ?_); rintro e w3 ⟨rfl, hb3⟩; obtain ⟨x3, rfl⟩ := ext_of_grow hb3; clear hb3)))
      go_ret
      exact Ret.bool rfl (by (repeat (first | (with_reducible exact Grow.refl _) | assumption | refine Grow.ext ?_ _ | refine Grow.alloc ?_ _ | refine Grow.drew ?_ | refine Grow.setCell ?_ (by first | (simp; done) | (simp; omega)) _ | refine Grow.trans ?_ (by assumption))))
  · go_enter Try.func13, Try.ntmps13
    go_wp2_with (first | (go_at_call 43; ((with_reducible refine (law17_alive _).mono ?_); rintro e w1 ⟨rfl, hb1⟩; obtain ⟨x1, rfl⟩ := ext_of_grow hb1; clear hb1)) | (go_at_call 35; ((with_reducible refine (ref14_Great p _ _ (hp.mono (by (repeat (first | (with_reducible exact Grow.refl _) | assumption | refine Grow.ext ?_ _ | refine Grow.alloc ?_ _ | refine Grow.drew ?_ | refine Grow.setCell ?_ (by first | (simp; done) | (simp; omega)) _ | refine Grow.trans ?_ (by assumption)))))).mono ?_); rintro e w2 ⟨rfl, hb2⟩; obtain ⟨x2, rfl⟩ := ext_of_grow hb2; clear hb2)))
    go_ret
    exact Ret.bool rfl (by (repeat (first | (with_reducible exact Grow.refl _) | assumption | refine Grow.ext ?_ _ | refine Grow.alloc ?_ _ | refine Grow.drew ?_ | refine Grow.setCell ?_ (by first | (simp; done) | (simp; omega)) _ | refine Grow.trans ?_ (by assumption))))
end Go.Proofs.Ytiikhfjdpaofdaa
