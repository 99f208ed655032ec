/- Layer 17, the reference: what is reached, and Safe; the law. -/
import Derived.Test.YtiikhfjdpaofdaaL17d
namespace Go.Proofs.Ytiikhfjdpaofdaa
open Go.RowKit
set_option linter.unusedSimpArgs false
set_option linter.unusedVariables false

def bN (n : Nat) (h : Nat → Bool) : Array Value := ((List.range n).map (fun i => Value.bool (h i))).toArray
def upd (h : Nat → Bool) (i : Nat) (v : Bool) : Nat → Bool := fun k => if k = i then v else h k
theorem bN_size (n : Nat) (h : Nat → Bool) : (bN n h).size = n := by simp [bN]
theorem bN_get (n : Nat) (h : Nat → Bool) (i : Nat) (hi : i < n) : (bN n h)[i]? = some (.bool (h i)) := by
  unfold bN; simp [hi]
theorem bN_set (n : Nat) (h : Nat → Bool) (i : Nat) (v : Bool) (hi : i < n) : (bN n h).setIfInBounds i (.bool v) = bN n (upd h i v) := by
  apply Array.ext_getElem?
  intro k
  rw [Array.getElem?_setIfInBounds]
  by_cases hk : k < n
  · by_cases e : i = k
    · subst e; rw [if_pos rfl, if_pos (by rw [bN_size]; exact hi), bN_get _ _ _ hk]; simp [upd]
    · rw [if_neg e, bN_get _ _ _ hk, bN_get _ _ _ hk]; simp [upd, Ne.symm e]
  · rw [if_neg (by omega), Array.getElem?_eq_none (by rw [bN_size]; omega), Array.getElem?_eq_none (by rw [bN_size]; omega)]
theorem make_bN (w : World) : ∀ n, n < 8 → (Instr.makeSlice 106 (.int .i64 ((n + 1 : Nat) : Int)) (.int .i64 ((n + 1 : Nat) : Int))).run Try.prog w = .ok (.slice (some ⟨w.heap.size, 0, none⟩) (n + 1) (n + 1)) (w.alloc (.cells (bN (n + 1) (fun _ => false)) 4)) := by
  apply eight
  all_goals kernel_rfl
theorem gr_at {p : Pr} {k : Nat} {f : Fn} (h : Hid (p.funcs[k]? = some f)) (c : Nat) : gr p k c = callsTo f c := by unfold gr; rw [h.out]
/-- One function's row, up to t. -/
def rowTo (g : Nat → Nat → Bool) (h : Nat → Bool) (f t : Nat) : Nat → Bool := fun c => if c < t then (h c || (h f && g f c)) else h c
theorem rowTo_zero (g : Nat → Nat → Bool) (h : Nat → Bool) (f : Nat) : rowTo g h f 0 = h := by funext c; simp [rowTo]
theorem rowTo_succ (g : Nat → Nat → Bool) (h : Nat → Bool) (f t : Nat) : rowTo g h f (t + 1) = upd (rowTo g h f t) t (h t || (h f && g f t)) := by
  funext c; unfold rowTo upd
  by_cases e : c = t
  · subst e; simp
  · by_cases h1 : c < t
    · simp [h1, e, Nat.lt_succ_of_lt h1]
    · have : ¬ c < t + 1 := by omega
      simp [h1, e, this]
theorem rowTo_self (g : Nat → Nat → Bool) (h : Nat → Bool) (f t : Nat) : rowTo g h f t f = h f := by
  unfold rowTo; split <;> cases h f <;> simp
theorem rowTo_at (g : Nat → Nat → Bool) (h : Nat → Bool) (f t : Nat) : rowTo g h f t t = h t := by unfold rowTo; simp
theorem rowTo_all {g : Nat → Nat → Bool} {n : Nat} (hg : ∀ i c, g i c = true → i < n ∧ c < n) (h : Nat → Bool) (f : Nat) : rowTo g h f n = stepR g h f := by
  funext c; unfold rowTo stepR
  by_cases hc : c < n
  · rw [if_pos hc]; cases hf : h f <;> simp
  · rw [if_neg hc]
    have : g f c = false := by cases e : g f c; rfl; exact absurd (hg f c e).2 hc
    cases hf : h f <;> simp [this]
theorem reach_n {p : Pr} (h : prErr p = 0) : rnds (gr p) p.funcs.length p.funcs.length (fun x => x == 0) = reachB p := by
  funext c; rw [Bool.eq_iff_iff]; unfold reachB
  rw [rnds_from (Nat.le_refl _) (gr_lt h), rnds_from (pr_ok h).2.1 (gr_lt h)]
set_option maxRecDepth 100000 in
set_option maxHeartbeats 4000000 in
theorem ref17_Reached (p : Pr) (pv : Value) (w : World) {F : Nat → Prop} (hp : Sl F w pv p.funcs) (hok : prErr p = 0) :
    Calls Try.prog 71 #[p.v pv] w (RetP w fun v w' => ∃ b, v = .slice (some ⟨b, 0, none⟩) p.funcs.length p.funcs.length ∧ b < w'.heap.size ∧ ∀ i, i < p.funcs.length → w'.cell? ⟨b, i, none⟩ = some (.bool (reachB p i))) := by
  obtain ⟨a, n, cap, rfl, Hn, hm, hcap, hcm, hp⟩ := hp.open
  have Hok := Lib.hid hok
  have H8 := Lib.hid (pr_ok hok)
  have Hgl := Lib.hid (gr_lt hok)
  have Hrn := Lib.hid (reach_n hok)
  clear hok
  have hn8 : n ≤ 8 := by have := H8.out.2.1; rw [← Hn.out] at this; exact this
  have hn1 : 1 ≤ n := by have := H8.out.1; rw [← Hn.out] at this; exact this
  rw [← Hn.out] at Hgl Hrn ⊢
  have hmk : ∀ w', (Instr.makeSlice 106 (.int .i64 (n : Int)) (.int .i64 (n : Int))).run Try.prog w' = .ok (.slice (some ⟨w'.heap.size, 0, none⟩) n n) (w'.alloc (.cells (bN n (fun _ => false)) 4)) := fun w' => by
    have := make_bN w' (n - 1) (by omega); rwa [show n - 1 + 1 = n by omega] at this
  have hg0 := fun h => bN_get n h 0 hn1
  have hs0 := fun h => bN_set n h 0 true hn1
  have Hf0 : Hid (upd (fun _ => false) 0 true = fun x => x == 0) := Lib.hid (by funext c; unfold upd; by_cases e : c = 0 <;> simp [e])
  go_enter Try.func71, Try.ntmps71
  go_wp2_with fail
  clear hmk hg0 hs0
  go_loopw [4] (fun i wr => ∃ (r : Nat) (h : Nat → Bool) (y : Ext), r ≤ n ∧ i = .int .i64 r ∧ wr = ext ((w.alloc (Obj.cells #[.slice a n cap] 24)).alloc (.cells (bN n h) 4)) y ∧ Hid (h = rnds (gr p) n r (fun x => x == 0))) (fun i _ => n - (intOf i).toNat)
  case atStart => exact ⟨0, _, _, Nat.zero_le _, rfl, (ext_self _).symm, Lib.hid Hf0.out⟩
  case round =>
    obtain ⟨r, h, y, hr, rfl, rfl, Hh⟩ := hrel
    by_cases hlt : r < n
    · go_wp2_with fail
      go_loopw [5] (fun i wr => ∃ (k : Nat) (h1 : Nat → Bool) (y1 : Ext), k ≤ n ∧ i = .int .i64 k ∧ wr = ext ((w.alloc (Obj.cells #[.slice a n cap] 24)).alloc (.cells (bN n h1) 4)) y1 ∧ Hid (h1 = (List.range k).foldl (stepR (gr p)) h)) (fun i _ => n - (intOf i).toNat)
      case atStart => exact ⟨0, h, y, Nat.zero_le _, rfl, rfl, Lib.hid rfl⟩
      case round =>
        obtain ⟨k, h1, y1, hk, rfl, rfl, Hh1⟩ := hrel
        by_cases hlt1 : k < n
        · obtain ⟨b_f, off_f, f, f_locals_a, f_locals_n, f_locals_c, f_blocks_a, f_blocks_n, f_blocks_c, rfl, ⟨Hg_f, hl_f, hw_f, f_locals, f_blocks, c_f0, c_f1, c_f2, c_f3, r_f0⟩⟩ := hp.fn k hlt1
          have Hgc := Lib.hid (gr_at Hg_f)
          go_wp2_with fail
          go_loopw [6] (fun i wr => ∃ (t : Nat) (h2 : Nat → Bool) (y2 : Ext), t ≤ n ∧ i = .int .i64 t ∧ wr = ext ((w.alloc (Obj.cells #[.slice (some ⟨b_f, off_f, none⟩) n cap] 24)).alloc (.cells (bN n h2) 4)) y2 ∧ Hid (h2 = rowTo (gr p) h1 k t)) (fun i _ => n - (intOf i).toNat)
          case atStart => exact ⟨0, h1, y1, Nat.zero_le _, rfl, rfl, Lib.hid (rowTo_zero _ _ _).symm⟩
          case round =>
            obtain ⟨t, h2, y2, ht, rfl, rfl, Hh2⟩ := hrel
            by_cases hlt2 : t < n
            · have hgt := bN_get n h2 t hlt2
              have hgk := bN_get n h2 k hlt1
              have hst := fun v => bN_set n h2 t v hlt2
              have Hk : Hid (h2 k = h1 k) := Lib.hid (by rw [Hh2.out, rowTo_self])
              have Ht : Hid (h2 t = h1 t) := Lib.hid (by rw [Hh2.out, rowTo_at])
              have ht1000 : t ≤ 1000 := by omega
              have Hsu : Hid (∀ v, v = (h2 t || (h2 k && callsTo f t)) → upd h2 t v = rowTo (gr p) h1 k (t + 1)) := Lib.hid (fun v hv => by
                rw [rowTo_succ, ← Hh2.out, hv, Hk.out, Ht.out, Hgc.out])
              cases e1 : h2 t
              · cases e2 : h2 k
                · go_wp2_with fail
                  go_roundw
                  case rel => exact ⟨t + 1, upd h2 t false, ex4 (by omega) (by go_num) (by (repeat (first | (with_reducible exact Grow.refl _) | assumption | refine Grow.ext ?_ _ | refine Grow.alloc ?_ _ | refine Grow.drew ?_ | refine Grow.setCell ?_ (by first | (simp; done) | (simp; omega)) _ | refine Grow.trans ?_ (by assumption)))) (Lib.hid (Hsu.out false (by rw [e1, e2]; rfl)))⟩
                  case measure => simp [intOf]; omega
                · cases e3 : callsTo f t
                  · go_wp2_with (first | (go_at_call 47; ((with_reducible refine (ref17_Calls p _ k t f _ (hp.mono (by (repeat (first | (with_reducible exact Grow.refl _) | assumption | refine Grow.ext ?_ _ | refine Grow.alloc ?_ _ | refine Grow.drew ?_ | refine Grow.setCell ?_ (by first | (simp; done) | (simp; omega)) _ | refine Grow.trans ?_ (by assumption))))) Hg_f ht1000).mono ?_); rintro e w3 ⟨rfl, hb3⟩; obtain ⟨x3, rfl⟩ := ext_of_grow hb3; clear hb3)))
                    go_roundw
                    case rel => exact ⟨t + 1, upd h2 t false, ex4 (by omega) (by go_num) (by (repeat (first | (with_reducible exact Grow.refl _) | assumption | refine Grow.ext ?_ _ | refine Grow.alloc ?_ _ | refine Grow.drew ?_ | refine Grow.setCell ?_ (by first | (simp; done) | (simp; omega)) _ | refine Grow.trans ?_ (by assumption)))) (Lib.hid (Hsu.out false (by rw [e1, e2, e3]; rfl)))⟩
                    case measure => simp [intOf]; omega
                  · go_wp2_with (first | (go_at_call 47; ((with_reducible refine (ref17_Calls p _ k t f _ (hp.mono (by (repeat (first | (with_reducible exact Grow.refl _) | assumption | refine Grow.ext ?_ _ | refine Grow.alloc ?_ _ | refine Grow.drew ?_ | refine Grow.setCell ?_ (by first | (simp; done) | (simp; omega)) _ | refine Grow.trans ?_ (by assumption))))) Hg_f ht1000).mono ?_); rintro e w3 ⟨rfl, hb3⟩; obtain ⟨x3, rfl⟩ := ext_of_grow hb3; clear hb3)))
                    go_roundw
                    case rel => exact ⟨t + 1, upd h2 t true, ex4 (by omega) (by go_num) (by (repeat (first | (with_reducible exact Grow.refl _) | assumption | refine Grow.ext ?_ _ | refine Grow.alloc ?_ _ | refine Grow.drew ?_ | refine Grow.setCell ?_ (by first | (simp; done) | (simp; omega)) _ | refine Grow.trans ?_ (by assumption)))) (Lib.hid (Hsu.out true (by rw [e1, e2, e3]; rfl)))⟩
                    case measure => simp [intOf]; omega
              · go_wp2_with fail
                go_roundw
                case rel => exact ⟨t + 1, upd h2 t true, ex4 (by omega) (by go_num) (by (repeat (first | (with_reducible exact Grow.refl _) | assumption | refine Grow.ext ?_ _ | refine Grow.alloc ?_ _ | refine Grow.drew ?_ | refine Grow.setCell ?_ (by first | (simp; done) | (simp; omega)) _ | refine Grow.trans ?_ (by assumption)))) (Lib.hid (Hsu.out true (by rw [e1]; rfl)))⟩
                case measure => simp [intOf]; omega
            · obtain rfl : t = n := by omega
              go_wp2_with fail
              go_roundw
              case rel => exact ⟨k + 1, h2, ex4 (by omega) (by go_num) (by (repeat (first | (with_reducible exact Grow.refl _) | assumption | refine Grow.ext ?_ _ | refine Grow.alloc ?_ _ | refine Grow.drew ?_ | refine Grow.setCell ?_ (by first | (simp; done) | (simp; omega)) _ | refine Grow.trans ?_ (by assumption)))) (Lib.hid (by rw [Hh2.out, rowTo_all Hgl.out, List.range_succ, List.foldl_append, ← Hh1.out]; rfl))⟩
              case measure => simp [intOf]; omega
        · obtain rfl : k = n := by omega
          go_wp2_with fail
          go_roundw
          case rel => exact ⟨r + 1, h1, ex4 (by omega) (by go_num) (by (repeat (first | (with_reducible exact Grow.refl _) | assumption | refine Grow.ext ?_ _ | refine Grow.alloc ?_ _ | refine Grow.drew ?_ | refine Grow.setCell ?_ (by first | (simp; done) | (simp; omega)) _ | refine Grow.trans ?_ (by assumption)))) (Lib.hid (by rw [Hh1.out, Hh.out]; rfl))⟩
          case measure => simp [intOf]; omega
    · obtain rfl : r = n := by omega
      go_wp2_with fail
      go_ret
      refine RetP.mk ⟨_, rfl, by simp; omega, fun i hi => ?_⟩ (by (repeat (first | (with_reducible exact Grow.refl _) | assumption | refine Grow.ext ?_ _ | refine Grow.alloc ?_ _ | refine Grow.drew ?_ | refine Grow.setCell ?_ (by first | (simp; done) | (simp; omega)) _ | refine Grow.trans ?_ (by assumption))))
      rw [← Hrn.out, ← Hh.out]
      have hg := bN_get r h i hi
      go_simp
theorem safeP_false {p : Pr} (h : safeErr p = 0) {k : Nat} {f : Fn} (hk : Hid (p.funcs[k]? = some f)) (hr : reachB p k = true) (hu : f.uns = true) : safeP p = (false, 0) := by
  unfold safeP; rw [if_neg (by simpa using h)]
  have hlt := (List.getElem?_eq_some_iff.1 hk.out).1
  have : (reachL p).any (unsAt p) = true := List.any_eq_true.2 ⟨(k : Int), List.mem_map.2 ⟨k, List.mem_filter.2 ⟨List.mem_range.2 hlt, hr⟩, rfl⟩, by unfold unsAt; rw [fnzAt hk]; exact hu⟩
  rw [this]; rfl
theorem safeP_true {p : Pr} (h : safeErr p = 0) (ha : ∀ k f, Hid (p.funcs[k]? = some f) → reachB p k = true → f.uns = false) : safeP p = (true, 0) := by
  unfold safeP; rw [if_neg (by simpa using h)]
  have : (reachL p).any (unsAt p) = false := by
    rw [List.any_eq_false]; intro x hx
    obtain ⟨k, hk, rfl⟩ := List.mem_map.1 hx
    have hk := List.mem_filter.1 hk
    have hlt := List.mem_range.1 hk.1
    have e : Hid (p.funcs[k]? = some p.funcs[k]) := Lib.hid (List.getElem?_eq_getElem hlt)
    unfold unsAt; rw [fnzAt e, ha k _ e hk.2]; simp
  rw [this]; rfl
set_option maxRecDepth 100000 in
set_option maxHeartbeats 2000000 in
theorem ref17_Safe (p : Pr) (pv : Value) (w : World) {F : Nat → Prop} (hp : Sl F w pv p.funcs) :
    Calls Try.prog 39 #[p.v pv] w (Ret w (.tuple #[.bool (safeP p).1, .int .i64 (safeP p).2])) := by
  obtain ⟨a, n, cap, rfl, Hn, hm, hcap, hcm, hp⟩ := hp.open
  cases hse : (safeErr p != 0)
  · have Hse : Hid (safeErr p = 0) := Lib.hid (by simpa using hse)
    have Hpe := Lib.hid (safe_pr Hse.out)
    go_enter Try.func39, Try.ntmps39
    go_wp2_with (first | (go_at_call 41; ((with_reducible refine (ref17_Check p _ _ (hp.mono (by (repeat (first | (with_reducible exact Grow.refl _) | assumption | refine Grow.ext ?_ _ | refine Grow.alloc ?_ _ | refine Grow.drew ?_ | refine Grow.setCell ?_ (by first | (simp; done) | (simp; omega)) _ | refine Grow.trans ?_ (by assumption)))))).mono ?_); rintro e w1 ⟨rfl, hb1⟩; obtain ⟨x1, rfl⟩ := ext_of_grow hb1; clear hb1)) | (go_at_call 71; go_must (with_reducible refine (ref17_Reached p _ _ (hp.mono (by (repeat (first | (with_reducible exact Grow.refl _) | assumption | refine Grow.ext ?_ _ | refine Grow.alloc ?_ _ | refine Grow.drew ?_ | refine Grow.setCell ?_ (by first | (simp; done) | (simp; omega)) _ | refine Grow.trans ?_ (by assumption))))) Hpe.out).mono ?_); rintro e w5 ⟨v5, rfl, ⟨b5, rfl, hb5l, hc5⟩, hb5⟩; obtain ⟨x5, rfl⟩ := ext_of_grow hb5; clear hb5))
    rw [← Hn.out] at hc5 ⊢
    have hl5 : LtW b5 (ext (ext (w.alloc (Obj.cells #[.slice a n cap] 24)) x1) x5) := ⟨hb5l⟩
    clear hb5l
    go_loopw [6] (fun i wr => ∃ (k : Nat), k ≤ n ∧ i = .int .i64 k ∧ Grow (ext (ext (w.alloc (Obj.cells #[.slice a n cap] 24)) x1) x5) wr ∧ Hid (∀ q f, q < k → Hid (p.funcs[q]? = some f) → reachB p q = true → f.uns = false)) (fun i _ => n - (intOf i).toNat)
    case atStart => exact ⟨0, Nat.zero_le _, rfl, (by (repeat (first | (with_reducible exact Grow.refl _) | assumption | refine Grow.ext ?_ _ | refine Grow.alloc ?_ _ | refine Grow.drew ?_ | refine Grow.setCell ?_ (by first | (simp; done) | (simp; omega)) _ | refine Grow.trans ?_ (by assumption)))), Lib.hid (fun q f hq => absurd hq (Nat.not_lt_zero q))⟩
    case round =>
      obtain ⟨k, hk, rfl, hb1, Ha⟩ := hrel
      obtain ⟨y1, rfl⟩ := ext_of_grow hb1
      by_cases hlt : k < n
      · obtain ⟨b_g, off_g, g, g_locals_a, g_locals_n, g_locals_c, g_blocks_a, g_blocks_n, g_blocks_c, rfl, ⟨Hg_g, hl_g, hw_g, g_locals, g_blocks, c_g0, c_g1, c_g2, c_g3, r_g0⟩⟩ := hp.fn k hlt
        have hck := hc5 k hlt
        cases hr : reachB p k
        · go_wp2_with fail
          go_roundw
          case rel => exact ⟨k + 1, by omega, by go_num, (by (repeat (first | (with_reducible exact Grow.refl _) | assumption | refine Grow.ext ?_ _ | refine Grow.alloc ?_ _ | refine Grow.drew ?_ | refine Grow.setCell ?_ (by first | (simp; done) | (simp; omega)) _ | refine Grow.trans ?_ (by assumption)))), Lib.hid (fun q f hq hf hrq => by rcases Nat.lt_succ_iff_lt_or_eq.1 hq with h | rfl; exact Ha.out q f h hf hrq; rw [hr] at hrq; cases hrq)⟩
          case measure => simp [intOf]; omega
        · cases hu : g.uns
          · go_wp2_with fail
            go_roundw
            case rel => exact ⟨k + 1, by omega, by go_num, (by (repeat (first | (with_reducible exact Grow.refl _) | assumption | refine Grow.ext ?_ _ | refine Grow.alloc ?_ _ | refine Grow.drew ?_ | refine Grow.setCell ?_ (by first | (simp; done) | (simp; omega)) _ | refine Grow.trans ?_ (by assumption)))), Lib.hid (fun q f hq hf hrq => by
              rcases Nat.lt_succ_iff_lt_or_eq.1 hq with h | rfl
              · exact Ha.out q f h hf hrq
              · have e1 := hf.out; rw [Hg_g.out] at e1; injection e1 with e1; rw [← e1]; exact hu)⟩
            case measure => simp [intOf]; omega
          · go_wp2_with fail
            go_ret2
            exact Ret.mk (by rw [safeP_false Hse.out Hg_g hr hu]; rfl) (by (repeat (first | (with_reducible exact Grow.refl _) | assumption | refine Grow.ext ?_ _ | refine Grow.alloc ?_ _ | refine Grow.drew ?_ | refine Grow.setCell ?_ (by first | (simp; done) | (simp; omega)) _ | refine Grow.trans ?_ (by assumption))))
      · go_wp2_with fail
        go_ret2
        refine Ret.mk ?_ (by (repeat (first | (with_reducible exact Grow.refl _) | assumption | refine Grow.ext ?_ _ | refine Grow.alloc ?_ _ | refine Grow.drew ?_ | refine Grow.setCell ?_ (by first | (simp; done) | (simp; omega)) _ | refine Grow.trans ?_ (by assumption))))
        rw [safeP_true Hse.out (fun q f hf hrq => Ha.out q f (by have := (List.getElem?_eq_some_iff.1 hf.out).1; rw [← Hn.out] at this; omega) hf hrq)]; rfl
  · have Hr : Hid (safeP p = (false, safeErr p)) := Lib.hid (by unfold safeP; rw [if_pos (by simpa using hse)])
    rw [Hr.out]
    go_enter Try.func39, Try.ntmps39
    go_wp2_with (first | (go_at_call 41; ((with_reducible refine (ref17_Check p _ _ (hp.mono (by (repeat (first | (with_reducible exact Grow.refl _) | assumption | refine Grow.ext ?_ _ | refine Grow.alloc ?_ _ | refine Grow.drew ?_ | refine Grow.setCell ?_ (by first | (simp; done) | (simp; omega)) _ | refine Grow.trans ?_ (by assumption)))))).mono ?_); rintro e w1 ⟨rfl, hb1⟩; obtain ⟨x1, rfl⟩ := ext_of_grow hb1; clear hb1)))
    go_ret2
    exact Ret.mk rfl (by (repeat (first | (with_reducible exact Grow.refl _) | assumption | refine Grow.ext ?_ _ | refine Grow.alloc ?_ _ | refine Grow.drew ?_ | refine Grow.setCell ?_ (by first | (simp; done) | (simp; omega)) _ | refine Grow.trans ?_ (by assumption))))
end Go.Proofs.Ytiikhfjdpaofdaa
