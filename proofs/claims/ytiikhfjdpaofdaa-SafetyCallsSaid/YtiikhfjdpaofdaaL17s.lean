/- Layer 17: programs that differ in their marks alone; the law of functions that are not reached. -/
import Derived.Test.YtiikhfjdpaofdaaL17h
import Derived.Test.YtiikhfjdpaofdaaCopy
namespace Go.Proofs.Ytiikhfjdpaofdaa
open Go.RowKit
set_option linter.unusedSimpArgs false
set_option linter.unusedVariables false

/-- A function without its mark. -/
def bare (f : Fn) : Fn := ⟨f.params, false, f.locals, f.blocks⟩
theorem fnErr_bare (f : Fn) : fnErr (bare f) = fnErr f := rfl
theorem fnsErr_bare : ∀ l : List Fn, fnsErr (l.map bare) = fnsErr l
  | [] => rfl
  | f :: l => by simp only [List.map_cons, fnsErr, fnErr_bare, fnsErr_bare l]
theorem getD_bare (l : List Fn) (k : Nat) : (l.map bare).getD k fnz = bare (l.getD k fnz) := by
  simp only [List.getD_eq_getElem?_getD, List.getElem?_map]
  cases l[k]? <;> rfl
theorem callB_bare (l : List Fn) (b : Bk) : callB (l.map bare) b = callB l b := by
  unfold callB; rw [getD_bare, List.length_map]; rfl
theorem prErr_bare (p : Pr) : prErr ⟨p.funcs.map bare⟩ = prErr p := by
  unfold prErr callsB
  simp only [List.length_map, fnsErr_bare, getD_bare, List.all_map]
  have e : (fun f : Fn => f.blocks.all (callB (p.funcs.map bare))) ∘ bare = fun f => f.blocks.all (callB p.funcs) := by
    funext f; simp only [Function.comp]; show f.blocks.all _ = _; congr 1; funext b; exact callB_bare _ b
  rw [e]; rfl
theorem gr_bare (p : Pr) : gr ⟨p.funcs.map bare⟩ = gr p := by
  funext i c; unfold gr; simp only [List.getElem?_map]
  cases p.funcs[i]? <;> rfl
theorem reachL_bare (p : Pr) : reachL ⟨p.funcs.map bare⟩ = reachL p := by
  unfold reachL reachUpto reachB; rw [gr_bare]; simp
/-- The two programs differ in their marks alone. -/
def Like (p q : Pr) : Prop := q.funcs.map bare = p.funcs.map bare
theorem Like.err {p q : Pr} (h : Like p q) : prErr q = prErr p := by rw [← prErr_bare q, h, prErr_bare]
theorem Like.reach {p q : Pr} (h : Like p q) : reachL q = reachL p := by rw [← reachL_bare q, h, reachL_bare]
theorem Like.gr {p q : Pr} (h : Like p q) : gr q = gr p := by rw [← gr_bare q, h, gr_bare]
theorem Like.len {p q : Pr} (h : Like p q) : q.funcs.length = p.funcs.length := by have := congrArg List.length h; simpa using this
/-- The mark of function k set to u. -/
def mark (l : List Fn) (k : Nat) (u : Bool) : List Fn := l.modify k (fun f => ⟨f.params, u, f.locals, f.blocks⟩)
theorem mark_like (p : Pr) (k : Nat) (u : Bool) : Like p ⟨mark p.funcs k u⟩ := by
  unfold Like mark
  apply List.ext_getElem?
  intro i
  simp only [List.getElem?_map, List.getElem?_modify]
  cases p.funcs[i]? with
  | none => rfl
  | some f => simp only [Option.map_some]; split <;> rfl
theorem mark_uns (p : Pr) (k : Nat) (u : Bool) {i : Nat} (h : i ≠ k) : unsAt ⟨mark p.funcs k u⟩ (i : Int) = unsAt p (i : Int) := by
  unfold unsAt mark
  simp only [List.getD_eq_getElem?_getD, List.getElem?_modify, Int.toNat_natCast]
  cases p.funcs[i]? with
  | none => rfl
  | some f => show (if k = i then _ else f).uns = f.uns; rw [if_neg (Ne.symm h)]
theorem safe_dead {p : Pr} {k : Nat} (h : (k : Int) ∉ reachL p) (h1 : (safeP p).2 = 0) (h2 : (safeP ⟨mark p.funcs k true⟩).2 = 0) : (safeP p).1 = (safeP ⟨mark p.funcs k true⟩).1 := by
  have e : ∀ q : Pr, (safeP q).2 = 0 → (safeP q).1 = !((reachL q).any (unsAt q)) := by
    intro q hq; unfold safeP at hq ⊢
    by_cases z : safeErr q ≠ 0
    · rw [if_pos z] at hq; exact absurd hq z
    · rw [if_neg z]
  rw [e _ h1, e _ h2, (mark_like p k true).reach]
  congr 1
  have key : ∀ l : List Int, (∀ x ∈ l, x ∈ reachL p) → l.any (unsAt p) = l.any (unsAt ⟨mark p.funcs k true⟩) := by
    intro l
    induction l with
    | nil => intro _; rfl
    | cons x l ih =>
      intro hl
      simp only [List.any_cons]
      rw [ih (fun y hy => hl y (by simp [hy]))]
      obtain ⟨c, rfl, _⟩ := reachL_mem (hl x (by simp))
      have hc : c ≠ k := fun q => h (by rw [← q]; exact hl _ (by simp))
      rw [mark_uns p k true hc]
  exact key _ (fun _ h => h)
theorem Rows8.mark {F : Nat → Prop} {w : World} {C : Array Value} {xs : List Fn} (h : Rows8 F w C xs) (k : Nat) (hk : k < xs.length) (u : Bool) : Rows8 F w (C.setIfInBounds (k * 4 + 1) (.bool u)) (Go.Proofs.Ytiikhfjdpaofdaa.mark xs k u) := by
  intro i hi
  have hi' : i < xs.length := by simpa [Go.Proofs.Ytiikhfjdpaofdaa.mark] using hi
  obtain ⟨cs, ⟨la, ln, lc, ba, bn, bc, rfl, hw, g0, g1⟩, hc⟩ := h i hi'
  by_cases e : i = k
  · subst e
    have em : (Go.Proofs.Ytiikhfjdpaofdaa.mark xs i u)[i] = ⟨xs[i].params, u, xs[i].locals, xs[i].blocks⟩ := by simp [Go.Proofs.Ytiikhfjdpaofdaa.mark, List.getElem_modify]
    rw [em]
    refine ⟨_, ⟨la, ln, lc, ba, bn, bc, rfl, ⟨hw.1⟩, g0, g1⟩, fun j hj => ?_⟩
    have hj4 : j < 4 := hj
    have z := hc 1 (by simp)
    have hz : i * 4 + 1 < C.size := (Array.getElem?_eq_some_iff.1 z).1
    have hcj := hc j hj
    simp only [sz_fn] at hcj ⊢
    rw [Array.getElem?_setIfInBounds]
    by_cases q : j = 1
    · subst q; rw [if_pos rfl, if_pos hz]; rfl
    · rw [if_neg (by omega), hcj]
      obtain rfl | rfl | rfl : j = 0 ∨ j = 2 ∨ j = 3 := by omega
      all_goals rfl
  · have em : (Go.Proofs.Ytiikhfjdpaofdaa.mark xs k u)[i] = xs[i] := by simp [Go.Proofs.Ytiikhfjdpaofdaa.mark, List.getElem_modify, Ne.symm e]
    rw [em]
    refine ⟨_, ⟨la, ln, lc, ba, bn, bc, rfl, hw, g0, g1⟩, fun j hj => ?_⟩
    have hj4 : j < 4 := hj
    have hcj := hc j hj
    simp only [sz_fn] at hcj ⊢
    rw [Array.getElem?_setIfInBounds, if_neg (by omega), hcj]
theorem slT_fn : SlT Try.prog 22 49 4 64 := SlT.mk' (z := .agg #[.int .i64 0, .bool false, .slice none 0 0, .slice none 0 0]) Try.underlying22 (by kernel_rfl) rfl (by omega)
theorem Rows8.uns {F : Nat → Prop} {w : World} {C : Array Value} {xs : List Fn} (h : Rows8 F w C xs) (k : Nat) (hk : k < xs.length) : ∃ u, C[k * 4 + 1]? = some (.bool u) := by
  obtain ⟨cs, ⟨la, ln, lc, ba, bn, bc, rfl, hw, g0, g1⟩, hc⟩ := h k hk
  exact ⟨_, hc 1 (by simp)⟩
theorem agr_old {w a b : World} (h : Grow w a) (g : Grow w b) : Agr (Old w) a b := fun k hk _ => by rw [h.block k hk, g.block k hk]
set_option maxRecDepth 100000 in
set_option maxHeartbeats 8000000 in
theorem law_SafetyDead (p : Pr) (pv : Value) (f : Int) (w : World) {F : Nat → Prop} (hpw : p.wf) (hp : Sl F w pv p.funcs) (hf : I64 f) :
    Calls Try.prog 14 #[p.v pv, .int .i64 f] w (Ret w (.bool true)) := by
  replace hp := hp.old
  obtain ⟨a, n, cap, rfl, Hn, hm, hcap, hcm, hp⟩ := hp.open
  cases hg : bigPr 10 p
  · cases hpe : (prErr p != 0)
    · have Hpe : Hid (prErr p = 0) := Lib.hid (by simpa using hpe)
      have hn8 : n ≤ 8 := by have := (pr_ok Hpe.out).2.1; rw [← Hn.out] at this; exact this
      by_cases hr : 1 ≤ f ∧ f < n
      · obtain ⟨k, rfl⟩ := Int.eq_ofNat_of_zero_le (show 0 ≤ f by omega)
        have hk : k < n := by omega
        have d1 : decide ((k : Int) < 1) = false := by simp; omega
        have d2 : decide (n ≤ k) = false := by simp; omega
        have hk1 : ¬ ((k : Int) < 1) := by omega
        have hk2 : 1 ≤ k := by omega
        go_enter Try.func14, Try.ntmps14
        go_wp2_with (first | (go_at_call 43; ((with_reducible refine (law17_alive _).mono ?_); rintro e w1 ⟨rfl, hb1⟩; obtain ⟨x1, rfl⟩ := ext_of_grow hb1; clear hb1)) | (go_at_call 35; ((with_reducible refine (ref14_Great p _ _ (hp.mono (by (repeat (first | (with_reducible exact Grow.refl _) | assumption | refine Grow.ext ?_ _ | refine Grow.alloc ?_ _ | refine Grow.drew ?_ | refine Grow.setCell ?_ (by first | (simp; done) | (simp; omega)) _ | refine Grow.trans ?_ (by assumption)))))).mono ?_); rintro e w2 ⟨rfl, hb2⟩; obtain ⟨x2, rfl⟩ := ext_of_grow hb2; clear hb2)) | (go_at_call 26; ((with_reducible refine (ref08_Check p _ _ (hp.mono (by (repeat (first | (with_reducible exact Grow.refl _) | assumption | refine Grow.ext ?_ _ | refine Grow.alloc ?_ _ | refine Grow.drew ?_ | refine Grow.setCell ?_ (by first | (simp; done) | (simp; omega)) _ | refine Grow.trans ?_ (by assumption)))))).mono ?_); rintro e w3 ⟨rfl, hb3⟩; obtain ⟨x3, rfl⟩ := ext_of_grow hb3; clear hb3)) | (go_at_call 21; go_must (with_reducible refine (program_Reached p _ _ (hp.mono (by (repeat (first | (with_reducible exact Grow.refl _) | assumption | refine Grow.ext ?_ _ | refine Grow.alloc ?_ _ | refine Grow.drew ?_ | refine Grow.setCell ?_ (by first | (simp; done) | (simp; omega)) _ | refine Grow.trans ?_ (by assumption))))) Hpe.out).mono ?_); rintro e w6 ⟨v6, rfl, ⟨u6, rfl, hs6⟩, hb6⟩; obtain ⟨x6, rfl⟩ := ext_of_grow hb6; clear hb6; obtain ⟨a6, n6, cap6, rfl, Hn6, hm6, hcap6, hcm6, hs6⟩ := hs6.open))
        go_loopw [8] (fun i wr => ∃ (q : Nat), q ≤ n6 ∧ i = .int .i64 q ∧ Grow (ext (ext (ext (ext (w.alloc (Obj.cells #[.slice a n cap] 24)) x1) x2) x3) x6) wr ∧ Hid (∀ x ∈ (reachL p).take q, x ≠ (k : Int))) (fun i _ => n6 - (intOf i).toNat)
        case atStart => exact ⟨0, Nat.zero_le _, rfl, (by (repeat (first | (with_reducible exact Grow.refl _) | assumption | refine Grow.ext ?_ _ | refine Grow.alloc ?_ _ | refine Grow.drew ?_ | refine Grow.setCell ?_ (by first | (simp; done) | (simp; omega)) _ | refine Grow.trans ?_ (by assumption)))), Lib.hid (by simp)⟩
        case round =>
          obtain ⟨q, hq, rfl, hb4, Hz⟩ := hrel
          obtain ⟨y4, rfl⟩ := ext_of_grow hb4
          by_cases hlt4 : q < n6
          · obtain ⟨b_c, off_c, c, rfl, ⟨Hg_c, hl_c, hw_c, c_c0⟩⟩ := hs6.int q hlt4
            cases hck : (c == (k : Int))
            · go_wp2_with fail
              go_roundw
              case rel => exact ⟨q + 1, by omega, by go_num, (by (repeat (first | (with_reducible exact Grow.refl _) | assumption | refine Grow.ext ?_ _ | refine Grow.alloc ?_ _ | refine Grow.drew ?_ | refine Grow.setCell ?_ (by first | (simp; done) | (simp; omega)) _ | refine Grow.trans ?_ (by assumption)))), Lib.hid (fun x hx => by
                rw [List.take_add_one, Hg_c.out] at hx; rcases List.mem_append.1 hx with hx | hx; exact Hz.out x hx
                simp at hx; subst hx; simpa using hck)⟩
              case measure => simp [intOf]; omega
            · go_wp2_with fail
              go_ret
              exact Ret.bool rfl (by (repeat (first | (with_reducible exact Grow.refl _) | assumption | refine Grow.ext ?_ _ | refine Grow.alloc ?_ _ | refine Grow.drew ?_ | refine Grow.setCell ?_ (by first | (simp; done) | (simp; omega)) _ | refine Grow.trans ?_ (by assumption))))
          · have Hnot : Hid ((k : Int) ∉ reachL p) := Lib.hid (fun h => Hz.out _ (by rw [List.take_of_length_le (by rw [← Hn6.out]; omega)]; exact h) rfl)
            have hn0 : 0 < n := by omega
            go_upto_region 13 with (first | (at_builtin; go_must (refine wpList_copy (α := Fn) slT_fn rfl rfl rfl rfl (hp.mono (by (repeat (first | (with_reducible exact Grow.refl _) | assumption | refine Grow.ext ?_ _ | refine Grow.alloc ?_ _ | refine Grow.drew ?_ | refine Grow.setCell ?_ (by first | (simp; done) | (simp; omega)) _ | refine Grow.trans ?_ (by assumption))))) hn0 (by omega) (by omega) ?_); intro C capC hC1 hC2 HC))
            have hlen : k < p.funcs.length := by rw [← Hn.out]; exact hk
            have hcell : ∃ u, C[k * 4 + 1]? = some (.bool u) := HC.uns k hlen
            obtain ⟨u0, hcell⟩ := hcell
            go_upto_region 14 with fail
            have hx : Sl (fun j => Old w j ∨ j = w.heap.size + 1 + x1.k + x2.k + x3.k + x6.k + y4.k + 1) (((ext (ext (ext (ext (ext (w.alloc (Obj.cells #[.slice a n cap] 24)) x1) x2) x3) x6) y4).alloc (.cells #[] 49)).alloc (.cells (C.setIfInBounds (k * 4 + 1) (.bool true)) 49)) (.slice (some ⟨w.heap.size + 1 + x1.k + x2.k + x3.k + x6.k + y4.k + 1, 0, none⟩) n capC) (mark p.funcs k true) := by
              have := (HC.mark k hlen true).sl (g := w.heap.size + 1 + x1.k + x2.k + x3.k + x6.k + y4.k + 1) (cap := capC) (w' := ((ext (ext (ext (ext (ext (w.alloc (Obj.cells #[.slice a n cap] 24)) x1) x2) x3) x6) y4).alloc (.cells #[] 49)).alloc (.cells (C.setIfInBounds (k * 4 + 1) (.bool true)) 49)) (e := 49) (by
                have e : w.heap.size + 1 + x1.k + x2.k + x3.k + x6.k + y4.k + 1 = ((ext (ext (ext (ext (ext (w.alloc (Obj.cells #[.slice a n cap] 24)) x1) x2) x3) x6) y4).alloc (.cells #[] 49)).heap.size := by simp
                rw [e]; exact Array.getElem?_push_size) (agr_old (by (repeat (first | (with_reducible exact Grow.refl _) | assumption | refine Grow.ext ?_ _ | refine Grow.alloc ?_ _ | refine Grow.drew ?_ | refine Grow.setCell ?_ (by first | (simp; done) | (simp; omega)) _ | refine Grow.trans ?_ (by assumption)))) (by (repeat (first | (with_reducible exact Grow.refl _) | assumption | refine Grow.ext ?_ _ | refine Grow.alloc ?_ _ | refine Grow.drew ?_ | refine Grow.setCell ?_ (by first | (simp; done) | (simp; omega)) _ | refine Grow.trans ?_ (by assumption))))) (by simp only [mark, List.length_modify]; rw [← Hn.out]; exact hC1) hC2
              rw [show (mark p.funcs k true).length = n by simp only [mark, List.length_modify]; rw [← Hn.out]] at this
              exact this
            have Hd := Lib.hid (fun h1 h2 => safe_dead (p := p) (k := k) Hnot.out h1 h2)
            obtain ⟨b1, hb1⟩ : ∃ b, b = (safeP p).1 := ⟨_, rfl⟩
            obtain ⟨e1, he1⟩ : ∃ b, b = (safeP p).2 := ⟨_, rfl⟩
            obtain ⟨b2, hb2⟩ : ∃ b, b = (safeP ⟨mark p.funcs k true⟩).1 := ⟨_, rfl⟩
            obtain ⟨e2, he2⟩ : ∃ b, b = (safeP ⟨mark p.funcs k true⟩).2 := ⟨_, rfl⟩
            have C7 : ∀ w' (hq : Sl (Old w) w' (.slice a n cap) p.funcs), Calls Try.prog 38 #[p.v (.slice a n cap)] w' (Ret w' (.tuple #[.bool b1, .int .i64 e1])) := fun w' hq => hb1 ▸ he1 ▸ safety_Safe p _ w' hq
            have C8 : ∀ v w' (hq : Sl (fun j => Old w j ∨ j = w.heap.size + 1 + x1.k + x2.k + x3.k + x6.k + y4.k + 1) w' v (mark p.funcs k true)), Calls Try.prog 38 #[Pr.v ⟨mark p.funcs k true⟩ v] w' (Ret w' (.tuple #[.bool b2, .int .i64 e2])) := fun v w' hq => hb2 ▸ he2 ▸ safety_Safe ⟨mark p.funcs k true⟩ _ w' hq
            rw [← he1, ← he2, ← hb1, ← hb2] at Hd
            clear hb1 he1 hb2 he2 HC
            cases k1 : (e1 != 0)
            · cases k2 : (e2 != 0)
              · obtain rfl := Hd.out (by simpa using k1) (by simpa using k2)
                go_wp2_with (first | (go_at_call 38; first | ((with_reducible refine (C8 _ _ (hx.mono (by (repeat (first | (with_reducible exact Grow.refl _) | assumption | refine Grow.ext ?_ _ | refine Grow.alloc ?_ _ | refine Grow.drew ?_ | refine Grow.setCell ?_ (by first | (simp; done) | (simp; omega)) _ | refine Grow.trans ?_ (by assumption)))))).mono ?_); rintro e w8 ⟨rfl, hb8⟩; obtain ⟨x8, rfl⟩ := ext_of_grow hb8; clear hb8) | ((with_reducible refine (C7 _ (hp.mono (by (repeat (first | (with_reducible exact Grow.refl _) | assumption | refine Grow.ext ?_ _ | refine Grow.alloc ?_ _ | refine Grow.drew ?_ | refine Grow.setCell ?_ (by first | (simp; done) | (simp; omega)) _ | refine Grow.trans ?_ (by assumption)))))).mono ?_); rintro e w7 ⟨rfl, hb7⟩; obtain ⟨x7, rfl⟩ := ext_of_grow hb7; clear hb7)))
                go_ret
                exact Ret.bool (by simp) (by (repeat (first | (with_reducible exact Grow.refl _) | assumption | refine Grow.ext ?_ _ | refine Grow.alloc ?_ _ | refine Grow.drew ?_ | refine Grow.setCell ?_ (by first | (simp; done) | (simp; omega)) _ | refine Grow.trans ?_ (by assumption))))
              · go_wp2_with (first | (go_at_call 38; first | ((with_reducible refine (C8 _ _ (hx.mono (by (repeat (first | (with_reducible exact Grow.refl _) | assumption | refine Grow.ext ?_ _ | refine Grow.alloc ?_ _ | refine Grow.drew ?_ | refine Grow.setCell ?_ (by first | (simp; done) | (simp; omega)) _ | refine Grow.trans ?_ (by assumption)))))).mono ?_); rintro e w8 ⟨rfl, hb8⟩; obtain ⟨x8, rfl⟩ := ext_of_grow hb8; clear hb8) | ((with_reducible refine (C7 _ (hp.mono (by (repeat (first | (with_reducible exact Grow.refl _) | assumption | refine Grow.ext ?_ _ | refine Grow.alloc ?_ _ | refine Grow.drew ?_ | refine Grow.setCell ?_ (by first | (simp; done) | (simp; omega)) _ | refine Grow.trans ?_ (by assumption)))))).mono ?_); rintro e w7 ⟨rfl, hb7⟩; obtain ⟨x7, rfl⟩ := ext_of_grow hb7; clear hb7)))
                go_ret
                exact Ret.bool (by simp) (by (repeat (first | (with_reducible exact Grow.refl _) | assumption | refine Grow.ext ?_ _ | refine Grow.alloc ?_ _ | refine Grow.drew ?_ | refine Grow.setCell ?_ (by first | (simp; done) | (simp; omega)) _ | refine Grow.trans ?_ (by assumption))))
            · go_wp2_with (first | (go_at_call 38; first | ((with_reducible refine (C8 _ _ (hx.mono (by (repeat (first | (with_reducible exact Grow.refl _) | assumption | refine Grow.ext ?_ _ | refine Grow.alloc ?_ _ | refine Grow.drew ?_ | refine Grow.setCell ?_ (by first | (simp; done) | (simp; omega)) _ | refine Grow.trans ?_ (by assumption)))))).mono ?_); rintro e w8 ⟨rfl, hb8⟩; obtain ⟨x8, rfl⟩ := ext_of_grow hb8; clear hb8) | ((with_reducible refine (C7 _ (hp.mono (by (repeat (first | (with_reducible exact Grow.refl _) | assumption | refine Grow.ext ?_ _ | refine Grow.alloc ?_ _ | refine Grow.drew ?_ | refine Grow.setCell ?_ (by first | (simp; done) | (simp; omega)) _ | refine Grow.trans ?_ (by assumption)))))).mono ?_); rintro e w7 ⟨rfl, hb7⟩; obtain ⟨x7, rfl⟩ := ext_of_grow hb7; clear hb7)))
              go_ret
              exact Ret.bool (by simp) (by (repeat (first | (with_reducible exact Grow.refl _) | assumption | refine Grow.ext ?_ _ | refine Grow.alloc ?_ _ | refine Grow.drew ?_ | refine Grow.setCell ?_ (by first | (simp; done) | (simp; omega)) _ | refine Grow.trans ?_ (by assumption))))
      · rcases Decidable.not_and_iff_or_not.1 hr with h | h
        · have d1 : decide (f < 1) = true := by simp; omega
          have d1' : f < 1 := by omega
          go_enter Try.func14, Try.ntmps14
          go_wp2_with (first | (go_at_call 43; ((with_reducible refine (law17_alive _).mono ?_); rintro e w1 ⟨rfl, hb1⟩; obtain ⟨x1, rfl⟩ := ext_of_grow hb1; clear hb1)) | (go_at_call 35; ((with_reducible refine (ref14_Great p _ _ (hp.mono (by (repeat (first | (with_reducible exact Grow.refl _) | assumption | refine Grow.ext ?_ _ | refine Grow.alloc ?_ _ | refine Grow.drew ?_ | refine Grow.setCell ?_ (by first | (simp; done) | (simp; omega)) _ | refine Grow.trans ?_ (by assumption)))))).mono ?_); rintro e w2 ⟨rfl, hb2⟩; obtain ⟨x2, rfl⟩ := ext_of_grow hb2; clear hb2)) | (go_at_call 26; ((with_reducible refine (ref08_Check p _ _ (hp.mono (by (repeat (first | (with_reducible exact Grow.refl _) | assumption | refine Grow.ext ?_ _ | refine Grow.alloc ?_ _ | refine Grow.drew ?_ | refine Grow.setCell ?_ (by first | (simp; done) | (simp; omega)) _ | refine Grow.trans ?_ (by assumption)))))).mono ?_); rintro e w3 ⟨rfl, hb3⟩; obtain ⟨x3, rfl⟩ := ext_of_grow hb3; clear hb3)))
          go_ret
          exact Ret.bool rfl (by (repeat (first | (with_reducible exact Grow.refl _) | assumption | refine Grow.ext ?_ _ | refine Grow.alloc ?_ _ | refine Grow.drew ?_ | refine Grow.setCell ?_ (by first | (simp; done) | (simp; omega)) _ | refine Grow.trans ?_ (by assumption))))
        · cases d1 : decide (f < 1)
          all_goals
            have d2 : decide ((n : Int) ≤ f) = true := by simp; omega
            go_enter Try.func14, Try.ntmps14
            go_wp2_with (first | (go_at_call 43; ((with_reducible refine (law17_alive _).mono ?_); rintro e w1 ⟨rfl, hb1⟩; obtain ⟨x1, rfl⟩ := ext_of_grow hb1; clear hb1)) | (go_at_call 35; ((with_reducible refine (ref14_Great p _ _ (hp.mono (by (repeat (first | (with_reducible exact Grow.refl _) | assumption | refine Grow.ext ?_ _ | refine Grow.alloc ?_ _ | refine Grow.drew ?_ | refine Grow.setCell ?_ (by first | (simp; done) | (simp; omega)) _ | refine Grow.trans ?_ (by assumption)))))).mono ?_); rintro e w2 ⟨rfl, hb2⟩; obtain ⟨x2, rfl⟩ := ext_of_grow hb2; clear hb2)) | (go_at_call 26; ((with_reducible refine (ref08_Check p _ _ (hp.mono (by (repeat (first | (with_reducible exact Grow.refl _) | assumption | refine Grow.ext ?_ _ | refine Grow.alloc ?_ _ | refine Grow.drew ?_ | refine Grow.setCell ?_ (by first | (simp; done) | (simp; omega)) _ | refine Grow.trans ?_ (by assumption)))))).mono ?_); rintro e w3 ⟨rfl, hb3⟩; obtain ⟨x3, rfl⟩ := ext_of_grow hb3; clear hb3)))
            go_ret
            exact Ret.bool rfl (by (repeat (first | (with_reducible exact Grow.refl _) | assumption | refine Grow.ext ?_ _ | refine Grow.alloc ?_ _ | refine Grow.drew ?_ | refine Grow.setCell ?_ (by first | (simp; done) | (simp; omega)) _ | refine Grow.trans ?_ (by assumption))))
    · go_enter Try.func14, Try.ntmps14
      go_wp2_with (first | (go_at_call 43; ((with_reducible refine (law17_alive _).mono ?_); rintro e w1 ⟨rfl, hb1⟩; obtain ⟨x1, rfl⟩ := ext_of_grow hb1; clear hb1)) | (go_at_call 35; ((with_reducible refine (ref14_Great p _ _ (hp.mono (by (repeat (first | (with_reducible exact Grow.refl _) | assumption | refine Grow.ext ?_ _ | refine Grow.alloc ?_ _ | refine Grow.drew ?_ | refine Grow.setCell ?_ (by first | (simp; done) | (simp; omega)) _ | refine Grow.trans ?_ (by assumption)))))).mono ?_); rintro e w2 ⟨rfl, hb2⟩; obtain ⟨x2, rfl⟩ := ext_of_grow hb2; clear hb2)) | (go_at_call 26; ((with_reducible refine (ref08_Check p _ _ (hp.mono (by (repeat (first | (with_reducible exact Grow.refl _) | assumption | refine Grow.ext ?_ _ | refine Grow.alloc ?_ _ | refine Grow.drew ?_ | refine Grow.setCell ?_ (by first | (simp; done) | (simp; omega)) _ | refine Grow.trans ?_ (by assumption)))))).mono ?_); rintro e w3 ⟨rfl, hb3⟩; obtain ⟨x3, rfl⟩ := ext_of_grow hb3; clear hb3)))
      go_ret
      exact Ret.bool rfl (by (repeat (first | (with_reducible exact Grow.refl _) | assumption | refine Grow.ext ?_ _ | refine Grow.alloc ?_ _ | refine Grow.drew ?_ | refine Grow.setCell ?_ (by first | (simp; done) | (simp; omega)) _ | refine Grow.trans ?_ (by assumption))))
  · go_enter Try.func14, Try.ntmps14
    go_wp2_with (first | (go_at_call 43; ((with_reducible refine (law17_alive _).mono ?_); rintro e w1 ⟨rfl, hb1⟩; obtain ⟨x1, rfl⟩ := ext_of_grow hb1; clear hb1)) | (go_at_call 35; ((with_reducible refine (ref14_Great p _ _ (hp.mono (by (repeat (first | (with_reducible exact Grow.refl _) | assumption | refine Grow.ext ?_ _ | refine Grow.alloc ?_ _ | refine Grow.drew ?_ | refine Grow.setCell ?_ (by first | (simp; done) | (simp; omega)) _ | refine Grow.trans ?_ (by assumption)))))).mono ?_); rintro e w2 ⟨rfl, hb2⟩; obtain ⟨x2, rfl⟩ := ext_of_grow hb2; clear hb2)))
    go_ret
    exact Ret.bool rfl (by (repeat (first | (with_reducible exact Grow.refl _) | assumption | refine Grow.ext ?_ _ | refine Grow.alloc ?_ _ | refine Grow.drew ?_ | refine Grow.setCell ?_ (by first | (simp; done) | (simp; omega)) _ | refine Grow.trans ?_ (by assumption))))
end Go.Proofs.Ytiikhfjdpaofdaa
