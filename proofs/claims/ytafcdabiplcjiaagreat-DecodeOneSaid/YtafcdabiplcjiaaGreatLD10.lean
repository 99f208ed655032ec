/- Layer 10: the law that another byte is another program, or none. -/
import Derived.Test.YtafcdabiplcjiaaGreatL10s
import Derived.Test.YtafcdabiplcjiaaGreatL10v
import Derived.Test.YtafcdabiplcjiaaGreatL09t
import Derived.Test.YtafcdabiplcjiaaGreatL08d
namespace Go.Proofs.YtafcdabiplcjiaaGreat
open Go.RowKit
set_option linter.unusedSimpArgs false
set_option linter.unusedVariables false

/-- One byte of own bytes is stored. -/
theorem bytes_put {base : Nat} {W : World} {x : Ext} {a : Option Addr} {n c : Nat} {bs : List Nat} (hown : Own (fun _ => False) base 5 (ext W x) (.slice a n c) bs) (hb : W.heap.size ≤ base) (k y : Nat) (hk : k < n) (hy : y < 256) :
    ∃ g, a = some ⟨g, 0, none⟩ ∧ W.heap.size ≤ g ∧ LtW g (ext W x) ∧ (ext W x).cell? ⟨g, k, none⟩ = some (.int .u8 (bs.getD k 0 : Nat)) ∧ (ext W x).frozen? ⟨g, k, none⟩ = false ∧ ∃ x' : Ext, x'.k = x.k ∧ (ext W x).setCell ⟨g, k, none⟩ (.int .u8 y) = ext W x' ∧ Sl (fun _ => True) (ext W x') (.slice (some ⟨g, 0, none⟩) n c) (bs.set k y) := by
  have hlen := hown.sl.len
  have hsl := hown.sl
  obtain ⟨G, css, hG, hl, hR, hn, hown2⟩ := id hown
  rcases hown2.2 with ⟨h0, _⟩ | ⟨g, cap, cur, hv, hbg, hg, hnc, hcm, hsz, htk⟩
  · injection h0 with _ e2 _; omega
  injection hv with e1 e2 e3
  subst e1 e3
  have hlt : g < (ext W x).heap.size := (Array.getElem?_eq_some_iff.1 hg).1
  obtain ⟨b0, o0, m, ha, Hm, _, hm8, hcell⟩ := hsl.byte k hk
  simp only [Option.some.injEq, Addr.mk.injEq, and_true] at ha
  obtain ⟨rfl, rfl⟩ := ha
  rw [Nat.zero_add] at hcell
  have hfr : (ext W x).frozen? ⟨g, k, none⟩ = false := by simp [World.frozen?, hg]
  have hG2 : Grow W ((ext W x).setCell ⟨g, k, none⟩ (.int .u8 y)) := (grow_ext W x).setCell (by show W.heap.size ≤ g; omega) _
  obtain ⟨x', hx'⟩ := ext_of_grow hG2
  refine ⟨g, rfl, by omega, ⟨hlt⟩, by rw [hcell]; simp [List.getD_eq_getElem?_getD, Hm.out], hfr, x', ?_, hx', ?_⟩
  · have := congrArg (fun w => w.heap.size) hx'
    simp only [World.size_setCell, size_ext] at this
    omega
  · rw [← hx']
    refine ⟨_, c, by rw [List.length_set, ← hlen], by rw [List.length_set]; omega, by unfold maxLen at hcm; exact hcm, (fun h => by cases h), fun i hi => ⟨g, 0, rfl, trivial, by simpa using hlt, ?_⟩⟩
    rw [List.length_set] at hi
    obtain ⟨b1, o1, u, ha, Hu, _, hu8, hcu⟩ := hsl.byte i (by omega)
    simp only [Option.some.injEq, Addr.mk.injEq, and_true] at ha
    obtain ⟨rfl, rfl⟩ := ha
    rw [Nat.zero_add] at hcu
    by_cases e : k = i
    · subst e
      refine ⟨[.int .u8 (y : Nat)], ⟨by rw [List.getElem_set_self], by rw [List.getElem_set_self]; exact hy⟩, fun j hj => ?_⟩
      obtain rfl : j = 0 := by simpa using hj
      simp only [sz_nat, Nat.mul_one, Nat.zero_add, Nat.add_zero]
      rw [World.cell?_setCell_same (h := hcell)]
      rfl
    · have hui : bs[i] = u := by have := Hu.out; rw [List.getElem?_eq_getElem hi] at this; exact Option.some.inj this
      refine ⟨[.int .u8 (u : Nat)], ⟨by rw [List.getElem_set_ne e, hui], by rw [List.getElem_set_ne e, hui]; exact hu8⟩, fun j hj => ?_⟩
      obtain rfl : j = 0 := by simpa using hj
      simp only [sz_nat, Nat.mul_one, Nat.zero_add, Nat.add_zero]
      rw [World.cell?_setCell_other (h := fun q => e (by injection q)), hcu]
      rfl
theorem Own.swapx {α : Type} [Rp α] {base : Nat} {e : TypeId} {W : World} {x x' y : Ext} {v : Value} {xs : List α} (h : Own (fun _ => False) base e (ext (ext W x) y) v xs) (hk : x'.k = x.k) (hb : W.heap.size + x.k ≤ base) : Own (fun _ => False) base e (ext (ext W x') y) v xs :=
  h.keep (AgrS.ext0 (by simp only [size_ext, hk]) (by rintro k (q | q); exact q.elim; simp only [size_ext]; omega) y).agr (by simp only [size_ext, hk]; omega)
set_option maxRecDepth 100000 in
set_option maxHeartbeats 8000000 in
theorem law_DecodeOne (p : Pr) (pv : Value) (at' by' : Int) (w : World) {F : Nat → Prop} (hpw : p.wf) (hp : Sl F w pv p.funcs) (hat : I64 at') (hby : U8 by') :
    Calls Tryz.prog 4 #[p.v pv, .int .i64 at', .int .u8 by'] w (Ret w (.bool true)) := by
  have hp := hp.old
  obtain ⟨a, n, cap, rfl, Hn, hm, hcap, hcm, hp⟩ := hp.open
  by_cases hbig : bigPr 12 p = true
  · go_enter Tryz.func4, Tryz.ntmps4
    go_wp2_with (first | (go_at_call 8; ((with_reducible refine (ref08_Great p _ _ (hp.mono (by (repeat (first | (with_reducible exact Grow.refl _) | assumption | refine Grow.ext ?_ _ | refine Grow.alloc ?_ _ | refine Grow.drew ?_ | refine Grow.setCell ?_ (by first | (simp; done) | (simp; omega)) _ | refine Grow.trans ?_ (by assumption)))))).mono ?_); rintro e w1 ⟨rfl, hb1⟩; obtain ⟨x1, rfl⟩ := ext_of_grow hb1; clear hb1)) | (go_at_call 16; ((with_reducible refine (law10_alive _).mono ?_); rintro e w9 ⟨rfl, hb9⟩; obtain ⟨x9, rfl⟩ := ext_of_grow hb9; clear hb9)))
    go_ret
    exact Ret.bool rfl (by (repeat (first | (with_reducible exact Grow.refl _) | assumption | refine Grow.ext ?_ _ | refine Grow.alloc ?_ _ | refine Grow.drew ?_ | refine Grow.setCell ?_ (by first | (simp; done) | (simp; omega)) _ | refine Grow.trans ?_ (by assumption))))
  have hbig : bigPr 12 p = false := by simpa using hbig
  obtain ⟨pe, hpe⟩ : ∃ e, prErr p = e := ⟨_, rfl⟩
  have Hc : Hid (∀ w' {F : Nat → Prop} pv (hp : Sl F w' pv p.funcs), Calls Tryz.prog 15 #[.agg #[pv]] w' (Ret w' (.int .i64 pe))) := Lib.hid (fun w' F pv hp => by have := ref08_Check p pv w' hp; rw [hpe] at this; exact this)
  have Hg : Hid (∀ w' {F : Nat → Prop} pv (hp : Sl F w' pv p.funcs), Calls Tryz.prog 8 #[.agg #[pv]] w' (Ret w' (.bool false))) := Lib.hid (fun w' F pv hp => by have := ref08_Great p pv w' hp; rw [hbig] at this; exact this)
  by_cases hp0 : pe ≠ 0
  · have hp1 : (pe != 0) = true := by simp [hp0]
    clear hpe hbig
    go_enter Tryz.func4, Tryz.ntmps4
    go_wp2_with (first | (go_at_call 8; ((with_reducible refine (Hg.out _ _ (hp.mono (by (repeat (first | (with_reducible exact Grow.refl _) | assumption | refine Grow.ext ?_ _ | refine Grow.alloc ?_ _ | refine Grow.drew ?_ | refine Grow.setCell ?_ (by first | (simp; done) | (simp; omega)) _ | refine Grow.trans ?_ (by assumption)))))).mono ?_); rintro e w1 ⟨rfl, hb1⟩; obtain ⟨x1, rfl⟩ := ext_of_grow hb1; clear hb1)) | (go_at_call 15; ((with_reducible refine (Hc.out _ _ (hp.mono (by (repeat (first | (with_reducible exact Grow.refl _) | assumption | refine Grow.ext ?_ _ | refine Grow.alloc ?_ _ | refine Grow.drew ?_ | refine Grow.setCell ?_ (by first | (simp; done) | (simp; omega)) _ | refine Grow.trans ?_ (by assumption)))))).mono ?_); rintro e w2 ⟨rfl, hb2⟩; obtain ⟨x2, rfl⟩ := ext_of_grow hb2; clear hb2)) | (go_at_call 16; ((with_reducible refine (law10_alive _).mono ?_); rintro e w9 ⟨rfl, hb9⟩; obtain ⟨x9, rfl⟩ := ext_of_grow hb9; clear hb9)))
    go_ret
    exact Ret.bool rfl (by (repeat (first | (with_reducible exact Grow.refl _) | assumption | refine Grow.ext ?_ _ | refine Grow.alloc ?_ _ | refine Grow.drew ?_ | refine Grow.setCell ?_ (by first | (simp; done) | (simp; omega)) _ | refine Grow.trans ?_ (by assumption))))
  obtain rfl : pe = 0 := by simpa using hp0
  have hp0 := Lib.hid hpe
  clear hpe hbig
  by_cases hneg : at' < 0
  · have hneg1 : decide (at' < 0) = true := by simpa using hneg
    go_enter Tryz.func4, Tryz.ntmps4
    go_wp2_with (first | (go_at_call 8; ((with_reducible refine (Hg.out _ _ (hp.mono (by (repeat (first | (with_reducible exact Grow.refl _) | assumption | refine Grow.ext ?_ _ | refine Grow.alloc ?_ _ | refine Grow.drew ?_ | refine Grow.setCell ?_ (by first | (simp; done) | (simp; omega)) _ | refine Grow.trans ?_ (by assumption)))))).mono ?_); rintro e w1 ⟨rfl, hb1⟩; obtain ⟨x1, rfl⟩ := ext_of_grow hb1; clear hb1)) | (go_at_call 15; ((with_reducible refine (Hc.out _ _ (hp.mono (by (repeat (first | (with_reducible exact Grow.refl _) | assumption | refine Grow.ext ?_ _ | refine Grow.alloc ?_ _ | refine Grow.drew ?_ | refine Grow.setCell ?_ (by first | (simp; done) | (simp; omega)) _ | refine Grow.trans ?_ (by assumption)))))).mono ?_); rintro e w2 ⟨rfl, hb2⟩; obtain ⟨x2, rfl⟩ := ext_of_grow hb2; clear hb2)) | (go_at_call 16; ((with_reducible refine (law10_alive _).mono ?_); rintro e w9 ⟨rfl, hb9⟩; obtain ⟨x9, rfl⟩ := ext_of_grow hb9; clear hb9)))
    go_ret
    exact Ret.bool rfl (by (repeat (first | (with_reducible exact Grow.refl _) | assumption | refine Grow.ext ?_ _ | refine Grow.alloc ?_ _ | refine Grow.drew ?_ | refine Grow.setCell ?_ (by first | (simp; done) | (simp; omega)) _ | refine Grow.trans ?_ (by assumption))))
  obtain ⟨k, rfl⟩ := Int.eq_ofNat_of_zero_le (by omega : 0 ≤ at')
  obtain ⟨y, rfl⟩ := Int.eq_ofNat_of_zero_le hby.1
  have hy : y < 256 := by have := hby.2; omega
  have hk0 : decide ((k : Int) < 0) = false := by simp
  have Hok := Lib.hid (okPr_of hp hp0.out)
  have hN8 := (pr_ok hp0.out).1
  obtain ⟨B, HB⟩ : ∃ B, Hid (encPr p = B) := ⟨_, Lib.hid rfl⟩
  have Hb := Lib.hid (encPr_byte (pr_some hp0.out).1.2 Hok.out)
  rw [HB.out] at Hb
  have Ha : Hid (∀ w' {F : Nat → Prop} pv (hp : Sl F w' pv p.funcs), Calls Tryz.prog 17 #[.agg #[pv]] w' (RetP w' fun v w'' => Own (fun _ => False) w'.heap.size 5 w'' v B)) := Lib.hid (fun w' F pv hp => by have := ref09_All p pv w' hp hp0.out; rw [HB.out] at this; exact this)
  obtain ⟨N, HN⟩ : ∃ N, Hid (N = B.length) := ⟨_, Lib.hid rfl⟩
  by_cases hbig : 4000 < N
  · go_enter Tryz.func4, Tryz.ntmps4
    go_wp2_with (first | (go_at_call 8; ((with_reducible refine (Hg.out _ _ (hp.mono (by (repeat (first | (with_reducible exact Grow.refl _) | assumption | refine Grow.ext ?_ _ | refine Grow.alloc ?_ _ | refine Grow.drew ?_ | refine Grow.setCell ?_ (by first | (simp; done) | (simp; omega)) _ | refine Grow.trans ?_ (by assumption)))))).mono ?_); rintro e w1 ⟨rfl, hb1⟩; obtain ⟨x1, rfl⟩ := ext_of_grow hb1; clear hb1)) | (go_at_call 15; ((with_reducible refine (Hc.out _ _ (hp.mono (by (repeat (first | (with_reducible exact Grow.refl _) | assumption | refine Grow.ext ?_ _ | refine Grow.alloc ?_ _ | refine Grow.drew ?_ | refine Grow.setCell ?_ (by first | (simp; done) | (simp; omega)) _ | refine Grow.trans ?_ (by assumption)))))).mono ?_); rintro e w2 ⟨rfl, hb2⟩; obtain ⟨x2, rfl⟩ := ext_of_grow hb2; clear hb2)) | (go_at_call 16; ((with_reducible refine (law10_alive _).mono ?_); rintro e w9 ⟨rfl, hb9⟩; obtain ⟨x9, rfl⟩ := ext_of_grow hb9; clear hb9)) | (go_at_call 17; ((with_reducible refine (Ha.out _ _ (hp.mono (by (repeat (first | (with_reducible exact Grow.refl _) | assumption | refine Grow.ext ?_ _ | refine Grow.alloc ?_ _ | refine Grow.drew ?_ | refine Grow.setCell ?_ (by first | (simp; done) | (simp; omega)) _ | refine Grow.trans ?_ (by assumption)))))).mono ?_); rintro e w3 ⟨_, rfl, ho3, hg3⟩; obtain ⟨a3, n3, c3, rfl, Hn3, hn3, ho3⟩ := ho3.open; obtain ⟨x3, rfl⟩ := ext_of_grow hg3; clear hg3; obtain rfl : n3 = N := (by rw [Hn3.out, HN.out]))))
    go_ret
    exact Ret.bool rfl (by (repeat (first | (with_reducible exact Grow.refl _) | assumption | refine Grow.ext ?_ _ | refine Grow.alloc ?_ _ | refine Grow.drew ?_ | refine Grow.setCell ?_ (by first | (simp; done) | (simp; omega)) _ | refine Grow.trans ?_ (by assumption))))
  by_cases hkN : N ≤ k
  · go_enter Tryz.func4, Tryz.ntmps4
    go_wp2_with (first | (go_at_call 8; ((with_reducible refine (Hg.out _ _ (hp.mono (by (repeat (first | (with_reducible exact Grow.refl _) | assumption | refine Grow.ext ?_ _ | refine Grow.alloc ?_ _ | refine Grow.drew ?_ | refine Grow.setCell ?_ (by first | (simp; done) | (simp; omega)) _ | refine Grow.trans ?_ (by assumption)))))).mono ?_); rintro e w1 ⟨rfl, hb1⟩; obtain ⟨x1, rfl⟩ := ext_of_grow hb1; clear hb1)) | (go_at_call 15; ((with_reducible refine (Hc.out _ _ (hp.mono (by (repeat (first | (with_reducible exact Grow.refl _) | assumption | refine Grow.ext ?_ _ | refine Grow.alloc ?_ _ | refine Grow.drew ?_ | refine Grow.setCell ?_ (by first | (simp; done) | (simp; omega)) _ | refine Grow.trans ?_ (by assumption)))))).mono ?_); rintro e w2 ⟨rfl, hb2⟩; obtain ⟨x2, rfl⟩ := ext_of_grow hb2; clear hb2)) | (go_at_call 16; ((with_reducible refine (law10_alive _).mono ?_); rintro e w9 ⟨rfl, hb9⟩; obtain ⟨x9, rfl⟩ := ext_of_grow hb9; clear hb9)) | (go_at_call 17; ((with_reducible refine (Ha.out _ _ (hp.mono (by (repeat (first | (with_reducible exact Grow.refl _) | assumption | refine Grow.ext ?_ _ | refine Grow.alloc ?_ _ | refine Grow.drew ?_ | refine Grow.setCell ?_ (by first | (simp; done) | (simp; omega)) _ | refine Grow.trans ?_ (by assumption)))))).mono ?_); rintro e w3 ⟨_, rfl, ho3, hg3⟩; obtain ⟨a3, n3, c3, rfl, Hn3, hn3, ho3⟩ := ho3.open; obtain ⟨x3, rfl⟩ := ext_of_grow hg3; clear hg3; obtain rfl : n3 = N := (by rw [Hn3.out, HN.out]))))
    go_ret
    exact Ret.bool rfl (by (repeat (first | (with_reducible exact Grow.refl _) | assumption | refine Grow.ext ?_ _ | refine Grow.alloc ?_ _ | refine Grow.drew ?_ | refine Grow.setCell ?_ (by first | (simp; done) | (simp; omega)) _ | refine Grow.trans ?_ (by assumption))))
  have hkN : k < N := by omega
  obtain ⟨m, Hm⟩ : ∃ m, Hid (B.getD k 0 = m) := ⟨_, Lib.hid rfl⟩
  by_cases hmy : m = y
  · obtain rfl : y = m := hmy.symm
    go_enter Tryz.func4, Tryz.ntmps4
    go_wp2_with (first | (go_at_call 8; ((with_reducible refine (Hg.out _ _ (hp.mono (by (repeat (first | (with_reducible exact Grow.refl _) | assumption | refine Grow.ext ?_ _ | refine Grow.alloc ?_ _ | refine Grow.drew ?_ | refine Grow.setCell ?_ (by first | (simp; done) | (simp; omega)) _ | refine Grow.trans ?_ (by assumption)))))).mono ?_); rintro e w1 ⟨rfl, hb1⟩; obtain ⟨x1, rfl⟩ := ext_of_grow hb1; clear hb1)) | (go_at_call 15; ((with_reducible refine (Hc.out _ _ (hp.mono (by (repeat (first | (with_reducible exact Grow.refl _) | assumption | refine Grow.ext ?_ _ | refine Grow.alloc ?_ _ | refine Grow.drew ?_ | refine Grow.setCell ?_ (by first | (simp; done) | (simp; omega)) _ | refine Grow.trans ?_ (by assumption)))))).mono ?_); rintro e w2 ⟨rfl, hb2⟩; obtain ⟨x2, rfl⟩ := ext_of_grow hb2; clear hb2)) | (go_at_call 16; ((with_reducible refine (law10_alive _).mono ?_); rintro e w9 ⟨rfl, hb9⟩; obtain ⟨x9, rfl⟩ := ext_of_grow hb9; clear hb9)) | (go_at_call 17; ((with_reducible refine (Ha.out _ _ (hp.mono (by (repeat (first | (with_reducible exact Grow.refl _) | assumption | refine Grow.ext ?_ _ | refine Grow.alloc ?_ _ | refine Grow.drew ?_ | refine Grow.setCell ?_ (by first | (simp; done) | (simp; omega)) _ | refine Grow.trans ?_ (by assumption)))))).mono ?_); rintro e w3 ⟨_, rfl, ho3, hg3⟩; obtain ⟨a3, n3, c3, rfl, Hn3, hn3, ho3⟩ := ho3.open; obtain ⟨x3, rfl⟩ := ext_of_grow hg3; clear hg3; obtain rfl : n3 = N := (by rw [Hn3.out, HN.out]); obtain ⟨g, rfl, hgb, hltg, hcg, hfg, x3', hk3, hset, hs3⟩ := bytes_put ho3 (by simp) k y hkN hy; rw [Hm.out] at hcg)))
    go_ret
    exact Ret.bool rfl (by (repeat (first | (with_reducible exact Grow.refl _) | assumption | refine Grow.ext ?_ _ | refine Grow.alloc ?_ _ | refine Grow.drew ?_ | refine Grow.setCell ?_ (by first | (simp; done) | (simp; omega)) _ | refine Grow.trans ?_ (by assumption))))
  have hmy1 : (m == y) = false := by simpa using hmy
  have hmy2 : ((m : Int) == (y : Int)) = false := by simp; omega
  have Hp : Hid (decPr B = (p, 0)) := Lib.hid (by rw [← HB.out]; exact decPr_put hp0.out Hok.out (by rw [HB.out, ← HN.out]; omega))
  have Hne : Hid (B.set k y ≠ B) := Lib.hid (fun e => hmy (by
    have h1 : (B.set k y).getD k 0 = y := by
      rw [List.getD_eq_getElem?_getD, List.getElem?_set_self (by rw [← HN.out]; exact hkN)]; rfl
    rw [e, Hm.out] at h1; exact h1))
  obtain ⟨⟨q, f⟩, Hq⟩ : ∃ q, Hid (decPr (B.set k y) = q) := ⟨_, Lib.hid rfl⟩
  have Hb2 : Hid (∀ x ∈ B.set k y, x < 256) := Lib.hid (fun x hx => by rcases List.mem_or_eq_of_mem_set hx with h | h; exact Hb.out x h; omega)
  have Hs1 : Hid (∀ w' {F F' : Nat → Prop} v1 v2 (h1 : Sl F w' v1 p.funcs) (h2 : Sl F' w' v2 p.funcs), Calls Tryz.prog 14 #[.agg #[v1], .agg #[v2]] w' (Ret w' (.bool true))) := Lib.hid (fun w' F F' v1 v2 h1 h2 => Same_yes p v1 v2 w' h1 h2)
  by_cases hf : f = 0
  · have Hqp : Hid (samePr q p = false) := Lib.hid (by
      have := decPr_other (p := p) Hb2.out (by rw [HB.out]; exact Hne.out) (by rw [Hq.out]; exact hf)
      rw [Hq.out] at this
      simpa [samePr] using this)
    have Hs2 : Hid (∀ w' {F F' : Nat → Prop} v1 v2 (h1 : Sl F w' v1 q.funcs) (h2 : Sl F' w' v2 p.funcs), Calls Tryz.prog 14 #[.agg #[v1], .agg #[v2]] w' (Ret w' (.bool false))) := Lib.hid (fun w' F F' v1 v2 h1 h2 => by have := ref08_Same q p v1 v2 w' h1 h2; rw [Hqp.out] at this; exact this)
    subst hf
    go_enter Tryz.func4, Tryz.ntmps4
    go_wp2_with (first | (go_at_call 8; ((with_reducible refine (Hg.out _ _ (hp.mono (by (repeat (first | (with_reducible exact Grow.refl _) | assumption | refine Grow.ext ?_ _ | refine Grow.alloc ?_ _ | refine Grow.drew ?_ | refine Grow.setCell ?_ (by first | (simp; done) | (simp; omega)) _ | refine Grow.trans ?_ (by assumption)))))).mono ?_); rintro e w1 ⟨rfl, hb1⟩; obtain ⟨x1, rfl⟩ := ext_of_grow hb1; clear hb1)) | (go_at_call 15; ((with_reducible refine (Hc.out _ _ (hp.mono (by (repeat (first | (with_reducible exact Grow.refl _) | assumption | refine Grow.ext ?_ _ | refine Grow.alloc ?_ _ | refine Grow.drew ?_ | refine Grow.setCell ?_ (by first | (simp; done) | (simp; omega)) _ | refine Grow.trans ?_ (by assumption)))))).mono ?_); rintro e w2 ⟨rfl, hb2⟩; obtain ⟨x2, rfl⟩ := ext_of_grow hb2; clear hb2)) | (go_at_call 16; ((with_reducible refine (law10_alive _).mono ?_); rintro e w9 ⟨rfl, hb9⟩; obtain ⟨x9, rfl⟩ := ext_of_grow hb9; clear hb9)) | (go_at_call 17; ((with_reducible refine (Ha.out _ _ (hp.mono (by (repeat (first | (with_reducible exact Grow.refl _) | assumption | refine Grow.ext ?_ _ | refine Grow.alloc ?_ _ | refine Grow.drew ?_ | refine Grow.setCell ?_ (by first | (simp; done) | (simp; omega)) _ | refine Grow.trans ?_ (by assumption)))))).mono ?_); rintro e w3 ⟨_, rfl, ho3, hg3⟩; obtain ⟨a3, n3, c3, rfl, Hn3, hn3, ho3⟩ := ho3.open; obtain ⟨x3, rfl⟩ := ext_of_grow hg3; clear hg3; obtain rfl : n3 = N := (by rw [Hn3.out, HN.out]); obtain ⟨g, rfl, hgb, hltg, hcg, hfg, x3', hk3, hset, hs3⟩ := bytes_put ho3 (by simp) k y hkN hy; rw [Hm.out] at hcg)) | (go_at_call 18; ((with_reducible refine (decode_Program _ B _ (ho3.sl.mono (by (repeat (first | (with_reducible exact Grow.refl _) | assumption | refine Grow.ext ?_ _ | refine Grow.alloc ?_ _ | refine Grow.drew ?_ | refine Grow.setCell ?_ (by first | (simp; done) | (simp; omega)) _ | refine Grow.trans ?_ (by assumption)))))).mono ?_); rintro e w5 ⟨_, rfl, ⟨v5, rfl, ho5⟩, hg5⟩; rw [Hp.out] at ho5 ⊢; obtain ⟨a5, n5, c5, rfl, Hn5, hn5, ho5⟩ := ho5.open; obtain ⟨x5, rfl⟩ := ext_of_grow hg5; clear hg5; have ho5 := (ho5.swapx hk3 (by simp)); haveI hEq5 : EqW (w.heap.size + 1 + x1.k + x2.k + x3.k + x5.k) (ext (ext (ext (ext (w.alloc (.cells #[.slice a n cap] 24)) x1) x2) x3') x5) := ⟨by simp only [size_ext, alloc_size, hk3]⟩)) | (go_at_call 18; ((with_reducible refine (decode_Program _ (B.set k y) _ (hs3.mono (by (repeat (first | (with_reducible exact Grow.refl _) | assumption | refine Grow.ext ?_ _ | refine Grow.alloc ?_ _ | refine Grow.drew ?_ | refine Grow.setCell ?_ (by first | (simp; done) | (simp; omega)) _ | refine Grow.trans ?_ (by assumption)))))).mono ?_); rintro e w6 ⟨_, rfl, ⟨v6, rfl, ho6⟩, hg6⟩; rw [Hq.out] at ho6 ⊢; obtain ⟨a6, n6, c6, rfl, Hn6, hn6, ho6⟩ := ho6.open; obtain ⟨x6, rfl⟩ := ext_of_grow hg6; clear hg6)) | (go_at_call 14; ((with_reducible refine (Hs1.out _ _ _ (ho5.sl.mono (by (repeat (first | (with_reducible exact Grow.refl _) | assumption | refine Grow.ext ?_ _ | refine Grow.alloc ?_ _ | refine Grow.drew ?_ | refine Grow.setCell ?_ (by first | (simp; done) | (simp; omega)) _ | refine Grow.trans ?_ (by assumption))))) (hp.mono (by (repeat (first | (with_reducible exact Grow.refl _) | assumption | refine Grow.ext ?_ _ | refine Grow.alloc ?_ _ | refine Grow.drew ?_ | refine Grow.setCell ?_ (by first | (simp; done) | (simp; omega)) _ | refine Grow.trans ?_ (by assumption)))))).mono ?_); rintro e w7 ⟨rfl, hb7⟩; obtain ⟨x7, rfl⟩ := ext_of_grow hb7; clear hb7)) | (go_at_call 14; ((with_reducible refine (Hs2.out _ _ _ (ho6.sl.mono (by (repeat (first | (with_reducible exact Grow.refl _) | assumption | refine Grow.ext ?_ _ | refine Grow.alloc ?_ _ | refine Grow.drew ?_ | refine Grow.setCell ?_ (by first | (simp; done) | (simp; omega)) _ | refine Grow.trans ?_ (by assumption))))) (hp.mono (by (repeat (first | (with_reducible exact Grow.refl _) | assumption | refine Grow.ext ?_ _ | refine Grow.alloc ?_ _ | refine Grow.drew ?_ | refine Grow.setCell ?_ (by first | (simp; done) | (simp; omega)) _ | refine Grow.trans ?_ (by assumption)))))).mono ?_); rintro e w8 ⟨rfl, hb8⟩; obtain ⟨x8, rfl⟩ := ext_of_grow hb8; clear hb8)))
    go_ret
    exact Ret.bool rfl (by (repeat (first | (with_reducible exact Grow.refl _) | assumption | refine Grow.ext ?_ _ | refine Grow.alloc ?_ _ | refine Grow.drew ?_ | refine Grow.setCell ?_ (by first | (simp; done) | (simp; omega)) _ | refine Grow.trans ?_ (by assumption))))
  · have hf1 : (f == 0) = false := by simp [hf]
    have hf2 : (f != 0) = true := by simp [hf]
    go_enter Tryz.func4, Tryz.ntmps4
    go_wp2_with (first | (go_at_call 8; ((with_reducible refine (Hg.out _ _ (hp.mono (by (repeat (first | (with_reducible exact Grow.refl _) | assumption | refine Grow.ext ?_ _ | refine Grow.alloc ?_ _ | refine Grow.drew ?_ | refine Grow.setCell ?_ (by first | (simp; done) | (simp; omega)) _ | refine Grow.trans ?_ (by assumption)))))).mono ?_); rintro e w1 ⟨rfl, hb1⟩; obtain ⟨x1, rfl⟩ := ext_of_grow hb1; clear hb1)) | (go_at_call 15; ((with_reducible refine (Hc.out _ _ (hp.mono (by (repeat (first | (with_reducible exact Grow.refl _) | assumption | refine Grow.ext ?_ _ | refine Grow.alloc ?_ _ | refine Grow.drew ?_ | refine Grow.setCell ?_ (by first | (simp; done) | (simp; omega)) _ | refine Grow.trans ?_ (by assumption)))))).mono ?_); rintro e w2 ⟨rfl, hb2⟩; obtain ⟨x2, rfl⟩ := ext_of_grow hb2; clear hb2)) | (go_at_call 16; ((with_reducible refine (law10_alive _).mono ?_); rintro e w9 ⟨rfl, hb9⟩; obtain ⟨x9, rfl⟩ := ext_of_grow hb9; clear hb9)) | (go_at_call 17; ((with_reducible refine (Ha.out _ _ (hp.mono (by (repeat (first | (with_reducible exact Grow.refl _) | assumption | refine Grow.ext ?_ _ | refine Grow.alloc ?_ _ | refine Grow.drew ?_ | refine Grow.setCell ?_ (by first | (simp; done) | (simp; omega)) _ | refine Grow.trans ?_ (by assumption)))))).mono ?_); rintro e w3 ⟨_, rfl, ho3, hg3⟩; obtain ⟨a3, n3, c3, rfl, Hn3, hn3, ho3⟩ := ho3.open; obtain ⟨x3, rfl⟩ := ext_of_grow hg3; clear hg3; obtain rfl : n3 = N := (by rw [Hn3.out, HN.out]); obtain ⟨g, rfl, hgb, hltg, hcg, hfg, x3', hk3, hset, hs3⟩ := bytes_put ho3 (by simp) k y hkN hy; rw [Hm.out] at hcg)) | (go_at_call 18; ((with_reducible refine (decode_Program _ B _ (ho3.sl.mono (by (repeat (first | (with_reducible exact Grow.refl _) | assumption | refine Grow.ext ?_ _ | refine Grow.alloc ?_ _ | refine Grow.drew ?_ | refine Grow.setCell ?_ (by first | (simp; done) | (simp; omega)) _ | refine Grow.trans ?_ (by assumption)))))).mono ?_); rintro e w5 ⟨_, rfl, ⟨v5, rfl, ho5⟩, hg5⟩; rw [Hp.out] at ho5 ⊢; obtain ⟨a5, n5, c5, rfl, Hn5, hn5, ho5⟩ := ho5.open; obtain ⟨x5, rfl⟩ := ext_of_grow hg5; clear hg5; have ho5 := (ho5.swapx hk3 (by simp)); haveI hEq5 : EqW (w.heap.size + 1 + x1.k + x2.k + x3.k + x5.k) (ext (ext (ext (ext (w.alloc (.cells #[.slice a n cap] 24)) x1) x2) x3') x5) := ⟨by simp only [size_ext, alloc_size, hk3]⟩)) | (go_at_call 18; ((with_reducible refine (decode_Program _ (B.set k y) _ (hs3.mono (by (repeat (first | (with_reducible exact Grow.refl _) | assumption | refine Grow.ext ?_ _ | refine Grow.alloc ?_ _ | refine Grow.drew ?_ | refine Grow.setCell ?_ (by first | (simp; done) | (simp; omega)) _ | refine Grow.trans ?_ (by assumption)))))).mono ?_); rintro e w6 ⟨_, rfl, ⟨v6, rfl, ho6⟩, hg6⟩; rw [Hq.out] at ho6 ⊢; obtain ⟨a6, n6, c6, rfl, Hn6, hn6, ho6⟩ := ho6.open; obtain ⟨x6, rfl⟩ := ext_of_grow hg6; clear hg6)) | (go_at_call 14; ((with_reducible refine (Hs1.out _ _ _ (ho5.sl.mono (by (repeat (first | (with_reducible exact Grow.refl _) | assumption | refine Grow.ext ?_ _ | refine Grow.alloc ?_ _ | refine Grow.drew ?_ | refine Grow.setCell ?_ (by first | (simp; done) | (simp; omega)) _ | refine Grow.trans ?_ (by assumption))))) (hp.mono (by (repeat (first | (with_reducible exact Grow.refl _) | assumption | refine Grow.ext ?_ _ | refine Grow.alloc ?_ _ | refine Grow.drew ?_ | refine Grow.setCell ?_ (by first | (simp; done) | (simp; omega)) _ | refine Grow.trans ?_ (by assumption)))))).mono ?_); rintro e w7 ⟨rfl, hb7⟩; obtain ⟨x7, rfl⟩ := ext_of_grow hb7; clear hb7)))
    go_ret
    exact Ret.bool rfl (by (repeat (first | (with_reducible exact Grow.refl _) | assumption | refine Grow.ext ?_ _ | refine Grow.alloc ?_ _ | refine Grow.drew ?_ | refine Grow.setCell ?_ (by first | (simp; done) | (simp; omega)) _ | refine Grow.trans ?_ (by assumption))))
end Go.Proofs.YtafcdabiplcjiaaGreat
