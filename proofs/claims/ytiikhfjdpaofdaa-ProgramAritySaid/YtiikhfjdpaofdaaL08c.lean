/- Layer 8: the check of programs, all of it. -/
import Derived.Test.YtiikhfjdpaofdaaL08b
import Derived.Laws.EntriesVeiled
namespace Go.Proofs.Ytiikhfjdpaofdaa
open Go.RowKit
set_option linter.unusedSimpArgs false
set_option linter.unusedVariables false

def fnsErr : List Fn → Int
  | [] => 0
  | f :: l => if fnErr f ≠ 0 then fnErr f else fnsErr l
def inputsB (f : Fn) : Bool := ((f.locals.drop 1).take f.params.toNat).all isInt
def callsB (p : Pr) : Bool := p.funcs.all (fun f => f.blocks.all (callB p.funcs))
def prErr (p : Pr) : Int := if 8 < p.funcs.length then 4 else if p.funcs.length = 0 then 8 else if fnsErr p.funcs ≠ 0 then fnsErr p.funcs else if inputsB (p.funcs.getD 0 fnz) && callsB p then 0 else 8
theorem fnsErr_all {l : List Fn} (h : fnsErr l = 0) : ∀ f ∈ l, fnErr f = 0 := by
  induction l with
  | nil => intro f hf; cases hf
  | cons g l ih =>
    unfold fnsErr at h
    by_cases hg : fnErr g = 0
    · rw [if_neg (by simpa using hg)] at h
      intro f hf; rcases List.mem_cons.1 hf with rfl | hf; exact hg; exact ih h f hf
    · rw [if_pos hg] at h; exact absurd h hg
theorem fn_good {f : Fn} (h : fnErr f = 0) : small f = true ∧ madeB f = true ∧ twosOk f = true := by
  unfold fnErr at h
  split at h
  · cases h
  · split at h
    · cases h
    · split at h
      · cases h
      · exact ⟨by simpa using (by assumption : ¬ small f = false), by simpa using (by assumption : ¬ madeB f = false), by simpa using (by assumption : ¬ twosOk f = false)⟩
theorem made_par {f : Fn} (h : madeB f = true) : 0 ≤ f.params ∧ f.params ≤ 8 ∧ f.params < (f.locals.length : Int) := by
  unfold madeB fnHead at h; simp only [Bool.and_eq_true, decide_eq_true_eq] at h; omega
theorem Sl.sub {α : Type} [Rp α] {F : Nat → Prop} {w : World} {b off n cap : Nat} {xs : List α} (h : Sl F w (.slice (some ⟨b, off, none⟩) n cap) xs) (i m : Nat) (hi : i + m ≤ n) :
    Sl F w (.slice (some ⟨b, off + i * Rp.sz α, none⟩) m (cap - i)) ((xs.drop i).take m) := by
  have hn := h.len
  obtain ⟨a', cap', hv, h1, h2, h3, h⟩ := h
  injection hv with e1 e2 e3; subst e1 e3
  refine ⟨some ⟨b, off + i * Rp.sz α, none⟩, cap - i, ?_, ?_, by omega, (fun e => by cases e), fun j hj => ?_⟩
  · congr 1; simp; omega
  · simp; omega
  · have hl : ((xs.drop i).take m).length = m := by simp; omega
    obtain ⟨b', off', hb, hF, hlt, cs, hR, hc⟩ := h (i + j) (by omega)
    simp only [Option.some.injEq, Addr.mk.injEq, and_true] at hb
    obtain ⟨rfl, rfl⟩ := hb
    refine ⟨b, _, rfl, hF, hlt, cs, ?_, ?_⟩
    · rw [List.getElem_take, List.getElem_drop]; exact hR
    · rw [Nat.add_assoc, ← Nat.add_mul]; exact hc
theorem all_calls (p : Pr) (a : Option Addr) (n cap bp bc : Nat) (F : Nat → Prop) (W : World) (hp : Sl F W (.slice a n cap) p.funcs) (hb : LtW bp W) (hc : W.cell? ⟨bp, 0, none⟩ = some (.slice a n cap)) (hb2 : LtW bc W)
    (hc2 : W.cell? ⟨bc, 0, none⟩ = some (.func (.func 55) #[] #[.pointer (some ⟨bp, 0, none⟩)])) (hju : ∀ f ∈ p.funcs, ∀ b ∈ f.blocks, juErr b.jump = 0) :
    Calls Try.prog 59 #[.slice a n cap, .func (.func 60) #[] #[.pointer (some ⟨bc, 0, none⟩)]] W (Ret W (.bool (callsB p))) :=
  all_Fn (by simp) (check3_pred p a n cap bp bc F W hp hb hc hb2 hc2) p.funcs _ hp hju
set_option maxRecDepth 100000 in
set_option maxHeartbeats 2000000 in
theorem program_Check (p : Pr) (pv : Value) (w : World) {F : Nat → Prop} (hp : Sl F w pv p.funcs) :
    Calls Try.prog 25 #[p.v pv] w (Ret w (.int .i64 (prErr p))) := by
  obtain ⟨a, n, cap, rfl, Hn, hm, hcap, hcm, hp⟩ := hp.open
  by_cases hn8 : 8 < n
  · go_enter Try.func25, Try.ntmps25
    go_wp2_with fail
    go_ret
    exact Ret.int (by unfold prErr; rw [← Hn.out, if_pos hn8]) (by (repeat (first | (with_reducible exact Grow.refl _) | assumption | refine Grow.ext ?_ _ | refine Grow.alloc ?_ _ | refine Grow.drew ?_ | refine Grow.setCell ?_ (by first | (simp; done) | (simp; omega)) _ | refine Grow.trans ?_ (by assumption))))
  · by_cases hn0 : n = 0
    · have hn0' : ((n : Int) == 0) = true := by simp [hn0]
      go_enter Try.func25, Try.ntmps25
      go_wp2_with fail
      go_ret
      exact Ret.int (by unfold prErr; rw [← Hn.out, if_neg hn8, if_pos hn0]) (by (repeat (first | (with_reducible exact Grow.refl _) | assumption | refine Grow.ext ?_ _ | refine Grow.alloc ?_ _ | refine Grow.drew ?_ | refine Grow.setCell ?_ (by first | (simp; done) | (simp; omega)) _ | refine Grow.trans ?_ (by assumption))))
    · have hn0' : ((n : Int) == 0) = false := by simp [hn0]
      have Hpr : Hid (prErr p = if fnsErr p.funcs ≠ 0 then fnsErr p.funcs else if inputsB (p.funcs.getD 0 fnz) && callsB p then 0 else 8) := Lib.hid (by unfold prErr; rw [← Hn.out, if_neg hn8, if_neg hn0])
      go_enter Try.func25, Try.ntmps25
      go_wp2_with fail
      go_loopw [20] (fun i wr => ∃ (k : Nat), k ≤ n ∧ i = .int .i64 k ∧ Grow (w.alloc (Obj.cells #[.slice a n cap] 24)) wr ∧ Hid (fnsErr p.funcs = fnsErr (p.funcs.drop k))) (fun i _ => n - (intOf i).toNat)
      case atStart => exact ⟨0, Nat.zero_le _, rfl, (by (repeat (first | (with_reducible exact Grow.refl _) | assumption | refine Grow.ext ?_ _ | refine Grow.alloc ?_ _ | refine Grow.drew ?_ | refine Grow.setCell ?_ (by first | (simp; done) | (simp; omega)) _ | refine Grow.trans ?_ (by assumption)))), rfl⟩
      case round =>
        obtain ⟨k, hk, rfl, hb1, Ha⟩ := hrel
        obtain ⟨y1, rfl⟩ := ext_of_grow hb1
        by_cases hlt : k < n
        · obtain ⟨b_f, off_f, f, f_locals_a, f_locals_n, f_locals_c, f_blocks_a, f_blocks_n, f_blocks_c, rfl, ⟨Hg_f, hl_f, hw_f, f_locals, f_blocks, c_f0, c_f1, c_f2, c_f3, r_f0⟩⟩ := hp.fn k hlt
          have Hd : Hid (fnsErr (p.funcs.drop k) = if fnErr f ≠ 0 then fnErr f else fnsErr (p.funcs.drop (k + 1))) := Lib.hid (by rw [drop_cons Hg_f, fnsErr])
          cases he : (fnErr f != 0)
          · go_wp2_with (first | (go_at_call 54; ((with_reducible refine (fnshape_Check f _ _ _ hw_f (f_locals.mono (by (repeat (first | (with_reducible exact Grow.refl _) | assumption | refine Grow.ext ?_ _ | refine Grow.alloc ?_ _ | refine Grow.drew ?_ | refine Grow.setCell ?_ (by first | (simp; done) | (simp; omega)) _ | refine Grow.trans ?_ (by assumption))))) (f_blocks.mono (by (repeat (first | (with_reducible exact Grow.refl _) | assumption | refine Grow.ext ?_ _ | refine Grow.alloc ?_ _ | refine Grow.drew ?_ | refine Grow.setCell ?_ (by first | (simp; done) | (simp; omega)) _ | refine Grow.trans ?_ (by assumption)))))).mono ?_); rintro e w2 ⟨rfl, hb2⟩; obtain ⟨x2, rfl⟩ := ext_of_grow hb2; clear hb2)))
            go_roundw
            case rel => exact ⟨k + 1, by omega, by go_num, (by (repeat (first | (with_reducible exact Grow.refl _) | assumption | refine Grow.ext ?_ _ | refine Grow.alloc ?_ _ | refine Grow.drew ?_ | refine Grow.setCell ?_ (by first | (simp; done) | (simp; omega)) _ | refine Grow.trans ?_ (by assumption)))), Lib.hid (by rw [Ha.out, Hd.out, if_neg (by simpa using he)])⟩
            case measure => simp [intOf]; omega
          · go_wp2_with (first | (go_at_call 54; ((with_reducible refine (fnshape_Check f _ _ _ hw_f (f_locals.mono (by (repeat (first | (with_reducible exact Grow.refl _) | assumption | refine Grow.ext ?_ _ | refine Grow.alloc ?_ _ | refine Grow.drew ?_ | refine Grow.setCell ?_ (by first | (simp; done) | (simp; omega)) _ | refine Grow.trans ?_ (by assumption))))) (f_blocks.mono (by (repeat (first | (with_reducible exact Grow.refl _) | assumption | refine Grow.ext ?_ _ | refine Grow.alloc ?_ _ | refine Grow.drew ?_ | refine Grow.setCell ?_ (by first | (simp; done) | (simp; omega)) _ | refine Grow.trans ?_ (by assumption)))))).mono ?_); rintro e w2 ⟨rfl, hb2⟩; obtain ⟨x2, rfl⟩ := ext_of_grow hb2; clear hb2)))
            go_ret
            refine Ret.int ?_ (by (repeat (first | (with_reducible exact Grow.refl _) | assumption | refine Grow.ext ?_ _ | refine Grow.alloc ?_ _ | refine Grow.drew ?_ | refine Grow.setCell ?_ (by first | (simp; done) | (simp; omega)) _ | refine Grow.trans ?_ (by assumption))))
            have q : fnErr f ≠ 0 := by simpa using he
            have e : fnsErr p.funcs = fnErr f := by rw [Ha.out, Hd.out, if_pos q]
            rw [Hpr.out, e, if_pos q]
        · have H0 : Hid (fnsErr p.funcs = 0) := Lib.hid (by rw [Ha.out, drop_all Hn (by omega)]; rfl)
          clear Ha
          have Hgood : Hid (∀ f ∈ p.funcs, fnErr f = 0) := Lib.hid (fnsErr_all H0.out)
          obtain ⟨b_g, off_g, g, g_locals_a, g_locals_n, g_locals_c, g_blocks_a, g_blocks_n, g_blocks_c, rfl, ⟨Hg_g, hl_g, hw_g, g_locals, g_blocks, c_g0, c_g1, c_g2, c_g3, r_g0⟩⟩ := hp.fn 0 (by omega)
          simp only [Nat.zero_mul, Nat.add_zero] at c_g0 c_g1 c_g2 c_g3 r_g0
          have Hgg := Lib.hid (fn_good (Hgood.out g (List.mem_of_getElem? Hg_g.out)))
          have Hpar := Lib.hid (made_par Hgg.out.2.1)
          have Hg0 : Hid (p.funcs.getD 0 fnz = g) := Lib.hid (by rw [List.getD_eq_getElem?_getD, Hg_g.out]; rfl)
          have Hlen := Lib.hid g_locals.len
          have hmg : g_locals_n ≤ 9223372036854775807 ∧ g_locals_n ≤ g_locals_c ∧ g_locals_c ≤ 9223372036854775807 := by obtain ⟨_, _, _, he, _, hq, h1, h2, _⟩ := g_locals.open; injection he with _ e2 e3; omega
          obtain ⟨hmg1, hmg2, hmg3⟩ := hmg
          obtain ⟨par, uns, locals, blocks⟩ := g
          obtain ⟨q, rfl⟩ := Int.eq_ofNat_of_zero_le Hpar.out.1
          have hql : q + 1 ≤ g_locals_n := by have h1 : (q : Int) < (locals.length : Int) := Hpar.out.2.2; have h2 : g_locals_n = locals.length := Hlen.out; omega
          have hq8 : q ≤ 8 := by have h1 : (q : Int) ≤ 8 := Hpar.out.2.1; omega
          have Hin : Hid (inputsB ⟨(q : Int), uns, locals, blocks⟩ = ((locals.drop 1).take q).all isInt) := Lib.hid rfl
          have hz : 0 < g_locals_n := by omega
          obtain ⟨b_t0, off_t0, t0, rfl, ⟨Hg_t0, hl_t0, hw_t0, c_t00, c_t01, r_t00⟩⟩ := g_locals.ty 0 hz
          have hsub := Sl.sub g_locals 1 q (by omega)
          have Hju : Hid (∀ f ∈ p.funcs, ∀ b ∈ f.blocks, juErr b.jump = 0) := Lib.hid (fun f hf b hb => (made_all (fn_good (Hgood.out f hf)).2.1 hb).2)
          clear c_t00 c_t01 r_t00
          simp only [sz_ty, Nat.one_mul] at hsub
          have Hl0 : Hid (q = 0 → (locals.drop 1).take q = []) := Lib.hid (fun h => by rw [h]; rfl)
          obtain ⟨L, HL'⟩ : ∃ L, L = (locals.drop 1).take q := ⟨_, rfl⟩
          rw [← HL'] at hsub
          have HL := Lib.hid HL'
          clear HL'
          by_cases hc1 : g_locals_c = 1
          · obtain rfl : q = 0 := by omega
            have HL0 : Hid (L = []) := Lib.hid (by rw [HL.out]; rfl)
            have hsub0 : Sl F w (.slice (some ⟨b_t0, off_t0, none⟩) 0 0) L := by
              rw [HL0.out]; exact ⟨_, 0, rfl, Nat.le_refl _, by omega, (fun e => by cases e), fun i h => by cases h⟩
            subst hc1
            have hi : L.all isInt = true := by rw [HL0.out]; rfl
            cases hcl : callsB p
            all_goals
              go_wp2_with (first | (go_at_call 56; ((with_reducible refine (all_Ty (by simp) (check2_pred F _) L _ (hsub0.mono (by (repeat (first | (with_reducible exact Grow.refl _) | assumption | refine Grow.ext ?_ _ | refine Grow.alloc ?_ _ | refine Grow.drew ?_ | refine Grow.setCell ?_ (by first | (simp; done) | (simp; omega)) _ | refine Grow.trans ?_ (by assumption))))) (fun _ _ => trivial)).mono ?_); rintro e w3 ⟨rfl, hb3⟩; obtain ⟨x3, rfl⟩ := ext_of_grow hb3; clear hb3)) | (go_at_call 59; ((with_reducible refine (all_calls p _ n cap w.heap.size _ F _ (hp.mono (by (repeat (first | (with_reducible exact Grow.refl _) | assumption | refine Grow.ext ?_ _ | refine Grow.alloc ?_ _ | refine Grow.drew ?_ | refine Grow.setCell ?_ (by first | (simp; done) | (simp; omega)) _ | refine Grow.trans ?_ (by assumption))))) inferInstance (by go_simp) inferInstance (by go_simp) Hju.out).mono ?_); rintro e w4 ⟨rfl, hb4⟩; obtain ⟨x4, rfl⟩ := ext_of_grow hb4; clear hb4)))
              go_ret
              exact Ret.int (by rw [Hpr.out, H0.out, Hg0.out, Hin.out, ← HL.out, hi, hcl]; simp) (by (repeat (first | (with_reducible exact Grow.refl _) | assumption | refine Grow.ext ?_ _ | refine Grow.alloc ?_ _ | refine Grow.drew ?_ | refine Grow.setCell ?_ (by first | (simp; done) | (simp; omega)) _ | refine Grow.trans ?_ (by assumption))))
          · have hc1' : ¬ g_locals_c ≤ 1 := by omega
            cases hi : L.all isInt
            · go_wp2_with (first | (go_at_call 56; ((with_reducible refine (all_Ty (by simp) (check2_pred F _) L _ (hsub.mono (by (repeat (first | (with_reducible exact Grow.refl _) | assumption | refine Grow.ext ?_ _ | refine Grow.alloc ?_ _ | refine Grow.drew ?_ | refine Grow.setCell ?_ (by first | (simp; done) | (simp; omega)) _ | refine Grow.trans ?_ (by assumption))))) (fun _ _ => trivial)).mono ?_); rintro e w3 ⟨rfl, hb3⟩; obtain ⟨x3, rfl⟩ := ext_of_grow hb3; clear hb3)))
              go_ret
              exact Ret.int (by rw [Hpr.out, H0.out, Hg0.out, Hin.out, ← HL.out, hi]; simp) (by (repeat (first | (with_reducible exact Grow.refl _) | assumption | refine Grow.ext ?_ _ | refine Grow.alloc ?_ _ | refine Grow.drew ?_ | refine Grow.setCell ?_ (by first | (simp; done) | (simp; omega)) _ | refine Grow.trans ?_ (by assumption))))
            · cases hcl : callsB p
              all_goals
                go_wp2_with (first | (go_at_call 56; ((with_reducible refine (all_Ty (by simp) (check2_pred F _) L _ (hsub.mono (by (repeat (first | (with_reducible exact Grow.refl _) | assumption | refine Grow.ext ?_ _ | refine Grow.alloc ?_ _ | refine Grow.drew ?_ | refine Grow.setCell ?_ (by first | (simp; done) | (simp; omega)) _ | refine Grow.trans ?_ (by assumption))))) (fun _ _ => trivial)).mono ?_); rintro e w3 ⟨rfl, hb3⟩; obtain ⟨x3, rfl⟩ := ext_of_grow hb3; clear hb3)) | (go_at_call 59; ((with_reducible refine (all_calls p _ n cap w.heap.size _ F _ (hp.mono (by (repeat (first | (with_reducible exact Grow.refl _) | assumption | refine Grow.ext ?_ _ | refine Grow.alloc ?_ _ | refine Grow.drew ?_ | refine Grow.setCell ?_ (by first | (simp; done) | (simp; omega)) _ | refine Grow.trans ?_ (by assumption))))) inferInstance (by go_simp) inferInstance (by go_simp) Hju.out).mono ?_); rintro e w4 ⟨rfl, hb4⟩; obtain ⟨x4, rfl⟩ := ext_of_grow hb4; clear hb4)))
                go_ret
                exact Ret.int (by rw [Hpr.out, H0.out, Hg0.out, Hin.out, ← HL.out, hi, hcl]; simp) (by (repeat (first | (with_reducible exact Grow.refl _) | assumption | refine Grow.ext ?_ _ | refine Grow.alloc ?_ _ | refine Grow.drew ?_ | refine Grow.setCell ?_ (by first | (simp; done) | (simp; omega)) _ | refine Grow.trans ?_ (by assumption))))
end Go.Proofs.Ytiikhfjdpaofdaa
