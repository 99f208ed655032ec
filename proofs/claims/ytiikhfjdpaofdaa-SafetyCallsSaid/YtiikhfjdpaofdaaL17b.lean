/- Layer 17: Raw, Check and Safe. -/
import Derived.Test.YtiikhfjdpaofdaaL17
namespace Go.Proofs.Ytiikhfjdpaofdaa
open Go.RowKit
set_option linter.unusedSimpArgs false
set_option linter.unusedVariables false

def rawP (p : Pr) (f : Int) : Bool × Int := if prErr p ≠ 0 then (false, prErr p) else if f < 0 ∨ (p.funcs.length : Int) ≤ f then (false, 2) else (rawF p (p.funcs.getD f.toNat fnz), 0)
def guardF (p : Pr) (f : Fn) : Bool := f.uns || !rawF p f
def safeErr (p : Pr) : Int := if prErr p ≠ 0 then prErr p else if p.funcs.all (guardF p) then 0 else 46
def unsAt (p : Pr) (x : Int) : Bool := (p.funcs.getD x.toNat fnz).uns
def safeP (p : Pr) : Bool × Int := if safeErr p ≠ 0 then (false, safeErr p) else (!((reachL p).any (unsAt p)), 0)
theorem fnzAt {fs : List Fn} {k : Nat} {f : Fn} (h : Hid (fs[k]? = some f)) : fs.getD (k : Int).toNat fnz = f := by
  rw [show (k : Int).toNat = k from rfl, List.getD_eq_getElem?_getD, h.out]; rfl
set_option maxHeartbeats 1000000 in
theorem safety_Raw (p : Pr) (pv : Value) (f : Int) (w : World) {F : Nat → Prop} (hp : Sl F w pv p.funcs) (hf : I64 f) :
    Calls Try.prog 36 #[p.v pv, .int .i64 f] w (Ret w (.tuple #[.bool (rawP p f).1, .int .i64 (rawP p f).2])) := by
  obtain ⟨a, n, cap, rfl, Hn, hm, hcap, hcm, hp⟩ := hp.open
  cases hpe : (prErr p != 0)
  · have Hpe : Hid (prErr p = 0) := Lib.hid (by simpa using hpe)
    by_cases hlt : 0 ≤ f ∧ f < n
    · obtain ⟨hf0, hfn⟩ := hlt
      obtain ⟨k, rfl⟩ := Int.eq_ofNat_of_zero_le hf0
      have hlt : k < n := by omega
      obtain ⟨b_g, off_g, g, g_locals_a, g_locals_n, g_locals_c, g_blocks_a, g_blocks_n, g_blocks_c, rfl, ⟨Hg_g, hl_g, hw_g, g_locals, g_blocks, c_g0, c_g1, c_g2, c_g3, r_g0⟩⟩ := hp.fn k hlt
      have Hbo := Lib.hid (blocks_ok Hpe.out (List.mem_of_getElem? Hg_g.out))
      have Hr : Hid (rawP p k = (rawF p g, 0)) := Lib.hid (by unfold rawP; rw [if_neg (by simpa using Hpe.out), if_neg (by rw [← Hn.out]; omega), fnzAt Hg_g])
      rw [Hr.out]
      go_enter Try.func36, Try.ntmps36
      go_wp2_with (first | (go_at_call 25; ((with_reducible refine (program_Check p _ _ (hp.mono (by (repeat (first | (with_reducible exact Grow.refl _) | assumption | refine Grow.ext ?_ _ | refine Grow.alloc ?_ _ | refine Grow.drew ?_ | refine Grow.setCell ?_ (by first | (simp; done) | (simp; omega)) _ | refine Grow.trans ?_ (by assumption)))))).mono ?_); rintro e w1 ⟨rfl, hb1⟩; obtain ⟨x1, rfl⟩ := ext_of_grow hb1; clear hb1)))
      (refine wp_region_ext (by kernel_rfl) (by kernel_rfl) ?_; (repeat (any_goals (first | go_big_quiet_step (first | (go_at_call 67; refine ext_call (safety_raw p g _ _ _ _ (hp.mono (by (repeat (first | (with_reducible exact Grow.refl _) | assumption | refine Grow.ext ?_ _ | refine Grow.alloc ?_ _ | refine Grow.drew ?_ | refine Grow.setCell ?_ (by first | (simp; done) | (simp; omega)) _ | refine Grow.trans ?_ (by assumption))))) (g_locals.mono (by (repeat (first | (with_reducible exact Grow.refl _) | assumption | refine Grow.ext ?_ _ | refine Grow.alloc ?_ _ | refine Grow.drew ?_ | refine Grow.setCell ?_ (by first | (simp; done) | (simp; omega)) _ | refine Grow.trans ?_ (by assumption))))) (g_blocks.mono (by (repeat (first | (with_reducible exact Grow.refl _) | assumption | refine Grow.ext ?_ _ | refine Grow.alloc ?_ _ | refine Grow.drew ?_ | refine Grow.setCell ?_ (by first | (simp; done) | (simp; omega)) _ | refine Grow.trans ?_ (by assumption))))) Hbo.out))) | (refine wpQuiet_step (fun K hK => ?_); go_simp; split <;> (refine hK _ ?_; clear hK K))))); all_goals (refine wpQuiet_nil ?_; intro w2 hb2; obtain ⟨x2, rfl⟩ := ext_of_grow hb2; clear hb2))
      go_wp2_with fail
      go_ret2
      exact Ret.mk rfl (by (repeat (first | (with_reducible exact Grow.refl _) | assumption | refine Grow.ext ?_ _ | refine Grow.alloc ?_ _ | refine Grow.drew ?_ | refine Grow.setCell ?_ (by first | (simp; done) | (simp; omega)) _ | refine Grow.trans ?_ (by assumption))))
    · have Hr : Hid (rawP p f = (false, 2)) := Lib.hid (by unfold rawP; rw [if_neg (by simpa using Hpe.out), if_pos (by rw [← Hn.out]; omega)])
      rw [Hr.out]
      go_enter Try.func36, Try.ntmps36
      go_wp2_with (first | (go_at_call 25; ((with_reducible refine (program_Check p _ _ (hp.mono (by (repeat (first | (with_reducible exact Grow.refl _) | assumption | refine Grow.ext ?_ _ | refine Grow.alloc ?_ _ | refine Grow.drew ?_ | refine Grow.setCell ?_ (by first | (simp; done) | (simp; omega)) _ | refine Grow.trans ?_ (by assumption)))))).mono ?_); rintro e w1 ⟨rfl, hb1⟩; obtain ⟨x1, rfl⟩ := ext_of_grow hb1; clear hb1)))
      all_goals (first | (exfalso; omega) | (go_ret2; exact Ret.mk rfl (by (repeat (first | (with_reducible exact Grow.refl _) | assumption | refine Grow.ext ?_ _ | refine Grow.alloc ?_ _ | refine Grow.drew ?_ | refine Grow.setCell ?_ (by first | (simp; done) | (simp; omega)) _ | refine Grow.trans ?_ (by assumption))))))
  · have Hr : Hid (rawP p f = (false, prErr p)) := Lib.hid (by unfold rawP; rw [if_pos (by simpa using hpe)])
    rw [Hr.out]
    go_enter Try.func36, Try.ntmps36
    go_wp2_with (first | (go_at_call 25; ((with_reducible refine (program_Check p _ _ (hp.mono (by (repeat (first | (with_reducible exact Grow.refl _) | assumption | refine Grow.ext ?_ _ | refine Grow.alloc ?_ _ | refine Grow.drew ?_ | refine Grow.setCell ?_ (by first | (simp; done) | (simp; omega)) _ | refine Grow.trans ?_ (by assumption)))))).mono ?_); rintro e w1 ⟨rfl, hb1⟩; obtain ⟨x1, rfl⟩ := ext_of_grow hb1; clear hb1)))
    go_ret2
    exact Ret.mk rfl (by (repeat (first | (with_reducible exact Grow.refl _) | assumption | refine Grow.ext ?_ _ | refine Grow.alloc ?_ _ | refine Grow.drew ?_ | refine Grow.setCell ?_ (by first | (simp; done) | (simp; omega)) _ | refine Grow.trans ?_ (by assumption))))
set_option maxRecDepth 100000 in
set_option maxHeartbeats 1000000 in
theorem safety_Check (p : Pr) (pv : Value) (w : World) {F : Nat → Prop} (hp : Sl F w pv p.funcs) :
    Calls Try.prog 40 #[p.v pv] w (Ret w (.int .i64 (safeErr p))) := by
  obtain ⟨a, n, cap, rfl, Hn, hm, hcap, hcm, hp⟩ := hp.open
  cases hpe : (prErr p != 0)
  · have Hpe : Hid (prErr p = 0) := Lib.hid (by simpa using hpe)
    have Hs : Hid (safeErr p = if p.funcs.all (guardF p) then 0 else 46) := Lib.hid (by unfold safeErr; rw [if_neg (by simpa using Hpe.out)])
    go_enter Try.func40, Try.ntmps40
    go_wp2_with (first | (go_at_call 25; ((with_reducible refine (program_Check p _ _ (hp.mono (by (repeat (first | (with_reducible exact Grow.refl _) | assumption | refine Grow.ext ?_ _ | refine Grow.alloc ?_ _ | refine Grow.drew ?_ | refine Grow.setCell ?_ (by first | (simp; done) | (simp; omega)) _ | refine Grow.trans ?_ (by assumption)))))).mono ?_); rintro e w1 ⟨rfl, hb1⟩; obtain ⟨x1, rfl⟩ := ext_of_grow hb1; clear hb1)))
    go_loopw [14] (fun i wr => ∃ (k : Nat), k ≤ n ∧ i = .int .i64 k ∧ Grow (w.alloc (Obj.cells #[.slice a n cap] 24)) wr ∧ Hid ((p.funcs.take k).all (guardF p) = true)) (fun i _ => n - (intOf i).toNat)
    case atStart => exact ⟨0, Nat.zero_le _, rfl, (by (repeat (first | (with_reducible exact Grow.refl _) | assumption | refine Grow.ext ?_ _ | refine Grow.alloc ?_ _ | refine Grow.drew ?_ | refine Grow.setCell ?_ (by first | (simp; done) | (simp; omega)) _ | refine Grow.trans ?_ (by assumption)))), rfl⟩
    case round =>
      obtain ⟨k, hk, rfl, hb1, Ha⟩ := hrel
      obtain ⟨y1, rfl⟩ := ext_of_grow hb1
      by_cases hlt : k < n
      · obtain ⟨b_g, off_g, g, g_locals_a, g_locals_n, g_locals_c, g_blocks_a, g_blocks_n, g_blocks_c, rfl, ⟨Hg_g, hl_g, hw_g, g_locals, g_blocks, c_g0, c_g1, c_g2, c_g3, r_g0⟩⟩ := hp.fn k hlt
        have Hbo := Lib.hid (blocks_ok Hpe.out (List.mem_of_getElem? Hg_g.out))
        obtain ⟨par, uns, locals, blocks⟩ := g
        cases uns
        · cases hr : rawF p ⟨par, false, locals, blocks⟩
          · go_wp2_with (first | (go_at_call 67; ((with_reducible refine (safety_raw p ⟨par, false, locals, blocks⟩ _ _ _ _ (hp.mono (by (repeat (first | (with_reducible exact Grow.refl _) | assumption | refine Grow.ext ?_ _ | refine Grow.alloc ?_ _ | refine Grow.drew ?_ | refine Grow.setCell ?_ (by first | (simp; done) | (simp; omega)) _ | refine Grow.trans ?_ (by assumption))))) (g_locals.mono (by (repeat (first | (with_reducible exact Grow.refl _) | assumption | refine Grow.ext ?_ _ | refine Grow.alloc ?_ _ | refine Grow.drew ?_ | refine Grow.setCell ?_ (by first | (simp; done) | (simp; omega)) _ | refine Grow.trans ?_ (by assumption))))) (g_blocks.mono (by (repeat (first | (with_reducible exact Grow.refl _) | assumption | refine Grow.ext ?_ _ | refine Grow.alloc ?_ _ | refine Grow.drew ?_ | refine Grow.setCell ?_ (by first | (simp; done) | (simp; omega)) _ | refine Grow.trans ?_ (by assumption))))) Hbo.out).mono ?_); rintro e w3 ⟨rfl, hb3⟩; obtain ⟨x3, rfl⟩ := ext_of_grow hb3; clear hb3)))
            go_roundw
            case rel => exact ⟨k + 1, by omega, by go_num, (by (repeat (first | (with_reducible exact Grow.refl _) | assumption | refine Grow.ext ?_ _ | refine Grow.alloc ?_ _ | refine Grow.drew ?_ | refine Grow.setCell ?_ (by first | (simp; done) | (simp; omega)) _ | refine Grow.trans ?_ (by assumption)))), all_step Hg_g Ha (by unfold guardF; rw [hr]; rfl)⟩
            case measure => simp [intOf]; omega
          · go_wp2_with (first | (go_at_call 67; ((with_reducible refine (safety_raw p ⟨par, false, locals, blocks⟩ _ _ _ _ (hp.mono (by (repeat (first | (with_reducible exact Grow.refl _) | assumption | refine Grow.ext ?_ _ | refine Grow.alloc ?_ _ | refine Grow.drew ?_ | refine Grow.setCell ?_ (by first | (simp; done) | (simp; omega)) _ | refine Grow.trans ?_ (by assumption))))) (g_locals.mono (by (repeat (first | (with_reducible exact Grow.refl _) | assumption | refine Grow.ext ?_ _ | refine Grow.alloc ?_ _ | refine Grow.drew ?_ | refine Grow.setCell ?_ (by first | (simp; done) | (simp; omega)) _ | refine Grow.trans ?_ (by assumption))))) (g_blocks.mono (by (repeat (first | (with_reducible exact Grow.refl _) | assumption | refine Grow.ext ?_ _ | refine Grow.alloc ?_ _ | refine Grow.drew ?_ | refine Grow.setCell ?_ (by first | (simp; done) | (simp; omega)) _ | refine Grow.trans ?_ (by assumption))))) Hbo.out).mono ?_); rintro e w3 ⟨rfl, hb3⟩; obtain ⟨x3, rfl⟩ := ext_of_grow hb3; clear hb3)))
            go_ret
            exact Ret.int (by rw [Hs.out, all_not Hg_g (by unfold guardF; rw [hr]; rfl)]; rfl) (by (repeat (first | (with_reducible exact Grow.refl _) | assumption | refine Grow.ext ?_ _ | refine Grow.alloc ?_ _ | refine Grow.drew ?_ | refine Grow.setCell ?_ (by first | (simp; done) | (simp; omega)) _ | refine Grow.trans ?_ (by assumption))))
        · go_wp2_with fail
          go_roundw
          case rel => exact ⟨k + 1, by omega, by go_num, (by (repeat (first | (with_reducible exact Grow.refl _) | assumption | refine Grow.ext ?_ _ | refine Grow.alloc ?_ _ | refine Grow.drew ?_ | refine Grow.setCell ?_ (by first | (simp; done) | (simp; omega)) _ | refine Grow.trans ?_ (by assumption)))), all_step Hg_g Ha (by unfold guardF; rfl)⟩
          case measure => simp [intOf]; omega
      · go_wp2_with fail
        go_ret
        exact Ret.int (by rw [Hs.out, all_end Hn (by omega) Ha]; rfl) (by (repeat (first | (with_reducible exact Grow.refl _) | assumption | refine Grow.ext ?_ _ | refine Grow.alloc ?_ _ | refine Grow.drew ?_ | refine Grow.setCell ?_ (by first | (simp; done) | (simp; omega)) _ | refine Grow.trans ?_ (by assumption))))
  · go_enter Try.func40, Try.ntmps40
    go_wp2_with (first | (go_at_call 25; ((with_reducible refine (program_Check p _ _ (hp.mono (by (repeat (first | (with_reducible exact Grow.refl _) | assumption | refine Grow.ext ?_ _ | refine Grow.alloc ?_ _ | refine Grow.drew ?_ | refine Grow.setCell ?_ (by first | (simp; done) | (simp; omega)) _ | refine Grow.trans ?_ (by assumption)))))).mono ?_); rintro e w1 ⟨rfl, hb1⟩; obtain ⟨x1, rfl⟩ := ext_of_grow hb1; clear hb1)))
    go_ret
    exact Ret.int (by unfold safeErr; rw [if_pos (by simpa using hpe)]) (by (repeat (first | (with_reducible exact Grow.refl _) | assumption | refine Grow.ext ?_ _ | refine Grow.alloc ?_ _ | refine Grow.drew ?_ | refine Grow.setCell ?_ (by first | (simp; done) | (simp; omega)) _ | refine Grow.trans ?_ (by assumption))))
theorem safe_pr {p : Pr} (h : safeErr p = 0) : prErr p = 0 := by
  unfold safeErr at h; by_cases h0 : prErr p = 0
  · exact h0
  · rw [if_pos h0] at h; exact absurd h h0
theorem reachL_lt {p : Pr} : ∀ x ∈ reachL p, 0 ≤ x ∧ x < (p.funcs.length : Int) := by
  intro x hx; unfold reachL reachUpto at hx
  obtain ⟨c, hc, rfl⟩ := List.mem_map.1 hx
  have := List.mem_range.1 (List.mem_filter.1 hc).1; omega
set_option maxHeartbeats 1000000 in
theorem safe1_pred (p : Pr) (a : Option Addr) (n cap bp : Nat) (F : Nat → Prop) (W : World) (hp : Sl F W (.slice a n cap) p.funcs) (hb : LtW bp W) (hc : W.cell? ⟨bp, 0, none⟩ = some (.slice a n cap)) :
    PredI 70 #[.pointer (some ⟨bp, 0, none⟩)] W (fun x => 0 ≤ x ∧ x < (p.funcs.length : Int)) (unsAt p) := by
  intro w x hg hw hG
  obtain ⟨y, rfl⟩ := ext_of_grow hg
  show Calls Try.prog _ #[.int .i64 x, .pointer (some ⟨bp, 0, none⟩)] _ _
  have hnl := hp.len
  obtain ⟨k, rfl⟩ := Int.eq_ofNat_of_zero_le hG.1
  have hlt : k < n := by have := hG.2; omega
  clear hG hnl
  obtain ⟨b_g, off_g, g, g_locals_a, g_locals_n, g_locals_c, g_blocks_a, g_blocks_n, g_blocks_c, rfl, ⟨Hg_g, hl_g, hw_g, g_locals, g_blocks, c_g0, c_g1, c_g2, c_g3, r_g0⟩⟩ := hp.fn k hlt
  have Hu : Hid (unsAt p k = g.uns) := Lib.hid (by unfold unsAt; rw [fnzAt Hg_g])
  go_enter Try.func70, Try.ntmps70
  go_wp2_with fail
  go_ret
  exact Ret.bool (by rw [Hu.out]) (by (repeat (first | (with_reducible exact Grow.refl _) | assumption | refine Grow.ext ?_ _ | refine Grow.alloc ?_ _ | refine Grow.drew ?_ | refine Grow.setCell ?_ (by first | (simp; done) | (simp; omega)) _ | refine Grow.trans ?_ (by assumption))))
set_option maxHeartbeats 1000000 in
theorem safety_Safe (p : Pr) (pv : Value) (w : World) {F : Nat → Prop} (hp : Sl F w pv p.funcs) :
    Calls Try.prog 38 #[p.v pv] w (Ret w (.tuple #[.bool (safeP p).1, .int .i64 (safeP p).2])) := by
  obtain ⟨a, n, cap, rfl, Hn, hm, hcap, hcm, hp⟩ := hp.open
  cases hse : (safeErr p != 0)
  · have Hse : Hid (safeErr p = 0) := Lib.hid (by simpa using hse)
    have Hpe := Lib.hid (safe_pr Hse.out)
    have Hr : Hid (safeP p = (!((reachL p).any (unsAt p)), 0)) := Lib.hid (by unfold safeP; rw [if_neg (by simpa using Hse.out)])
    rw [Hr.out]
    go_enter Try.func38, Try.ntmps38
    go_wp2_with (first | (go_at_call 40; ((with_reducible refine (safety_Check p _ _ (hp.mono (by (repeat (first | (with_reducible exact Grow.refl _) | assumption | refine Grow.ext ?_ _ | refine Grow.alloc ?_ _ | refine Grow.drew ?_ | refine Grow.setCell ?_ (by first | (simp; done) | (simp; omega)) _ | refine Grow.trans ?_ (by assumption)))))).mono ?_); rintro e w1 ⟨rfl, hb1⟩; obtain ⟨x1, rfl⟩ := ext_of_grow hb1; clear hb1)) | (go_at_call 21; go_must (with_reducible refine (program_Reached p _ _ (hp.mono (by (repeat (first | (with_reducible exact Grow.refl _) | assumption | refine Grow.ext ?_ _ | refine Grow.alloc ?_ _ | refine Grow.drew ?_ | refine Grow.setCell ?_ (by first | (simp; done) | (simp; omega)) _ | refine Grow.trans ?_ (by assumption))))) Hpe.out).mono ?_); rintro e w5 ⟨v5, rfl, ⟨u5, rfl, hs5⟩, hb5⟩; obtain ⟨x5, rfl⟩ := ext_of_grow hb5; clear hb5; obtain ⟨a5, n5, cap5, rfl, Hn5, hm5, hcap5, hcm5, hs5⟩ := hs5.open) | (go_at_call 69; go_must (with_reducible refine (contains_I (safe1_pred p a n cap w.heap.size F _ (hp.mono (by (repeat (first | (with_reducible exact Grow.refl _) | assumption | refine Grow.ext ?_ _ | refine Grow.alloc ?_ _ | refine Grow.drew ?_ | refine Grow.setCell ?_ (by first | (simp; done) | (simp; omega)) _ | refine Grow.trans ?_ (by assumption))))) inferInstance (by go_simp)) (reachL p) _ hs5 (fun x hx => reachL_lt x hx)).mono ?_); rintro e w6 ⟨rfl, hb6⟩; obtain ⟨x6, rfl⟩ := ext_of_grow hb6; clear hb6))
    go_ret2
    exact Ret.mk rfl (by (repeat (first | (with_reducible exact Grow.refl _) | assumption | refine Grow.ext ?_ _ | refine Grow.alloc ?_ _ | refine Grow.drew ?_ | refine Grow.setCell ?_ (by first | (simp; done) | (simp; omega)) _ | refine Grow.trans ?_ (by assumption))))
  · have Hr : Hid (safeP p = (false, safeErr p)) := Lib.hid (by unfold safeP; rw [if_pos (by simpa using hse)])
    rw [Hr.out]
    go_enter Try.func38, Try.ntmps38
    go_wp2_with (first | (go_at_call 40; ((with_reducible refine (safety_Check p _ _ (hp.mono (by (repeat (first | (with_reducible exact Grow.refl _) | assumption | refine Grow.ext ?_ _ | refine Grow.alloc ?_ _ | refine Grow.drew ?_ | refine Grow.setCell ?_ (by first | (simp; done) | (simp; omega)) _ | refine Grow.trans ?_ (by assumption)))))).mono ?_); rintro e w1 ⟨rfl, hb1⟩; obtain ⟨x1, rfl⟩ := ext_of_grow hb1; clear hb1)))
    go_ret2
    exact Ret.mk rfl (by (repeat (first | (with_reducible exact Grow.refl _) | assumption | refine Grow.ext ?_ _ | refine Grow.alloc ?_ _ | refine Grow.drew ?_ | refine Grow.setCell ?_ (by first | (simp; done) | (simp; omega)) _ | refine Grow.trans ?_ (by assumption))))
end Go.Proofs.Ytiikhfjdpaofdaa
