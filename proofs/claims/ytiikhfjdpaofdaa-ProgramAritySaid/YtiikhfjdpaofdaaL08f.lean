/- Layer 8: what is reached by calls. -/
import Derived.Test.YtiikhfjdpaofdaaL08e
import Derived.Deep.DeepMust
namespace Go.Proofs.Ytiikhfjdpaofdaa
open Go.RowKit
set_option linter.unusedSimpArgs false
set_option linter.unusedVariables false

structure RI (p : Pr) (s : Nat) (T : List Int) (S : Int → Bool) : Prop where
  sound : ∀ c : Int, S c = true → ∃ k : Nat, c = k ∧ Rch (gr p) s k
  todo : ∀ x ∈ T, ∃ k : Nat, x = k ∧ k < p.funcs.length ∧ (k = s ∨ S k = true)
  clo : ∀ k : Nat, (k = s ∨ S k = true) → (k : Int) ∉ T → ∀ c : Nat, gr p k c = true → S c = true
structure RJ (p : Pr) (s k : Nat) (L T : List Int) (S : Int → Bool) : Prop where
  sound : ∀ c : Int, S c = true → ∃ k : Nat, c = k ∧ Rch (gr p) s k
  todo : ∀ x ∈ T, ∃ k : Nat, x = k ∧ k < p.funcs.length ∧ (k = s ∨ S k = true)
  clo : ∀ k' : Nat, k' ≠ k → (k' = s ∨ S k' = true) → (k' : Int) ∉ T → ∀ c : Nat, gr p k' c = true → S c = true
  own : k = s ∨ S k = true
  some : ∀ c ∈ L, S c = true
theorem RI.start (p : Pr) {s : Nat} (hs : s < p.funcs.length) : RI p s [(s : Int)] (fun _ => false) where
  sound c h := by cases h
  todo x hx := by simp at hx; exact ⟨s, hx, hs, Or.inl rfl⟩
  clo k h hk := by rcases h with rfl | h; simp at hk; cases h
theorem RI.pop {p : Pr} {s k : Nat} {T : List Int} {S : Int → Bool} (h : RI p s (T ++ [(k : Int)]) S) : RJ p s k [] T S where
  sound := h.sound
  todo x hx := h.todo x (List.mem_append_left _ hx)
  clo k' hne hs hT := h.clo k' hs (by simp [hT]; omega)
  own := by obtain ⟨k', e, _, h'⟩ := h.todo (k : Int) (by simp); obtain rfl : k = k' := by omega
            exact h'
  some c hc := by cases hc
theorem RJ.seen {p : Pr} {s k : Nat} {L T : List Int} {S : Int → Bool} {c : Int} (h : RJ p s k L T S) (hc : S c = true) : RJ p s k (L ++ [c]) T S :=
  ⟨h.sound, h.todo, h.clo, h.own, fun x hx => by rcases List.mem_append.1 hx with hx | hx; exact h.some x hx; simp at hx; subst hx; exact hc⟩
theorem RJ.push {p : Pr} {s k c : Nat} {L T : List Int} {S : Int → Bool} (h : RJ p s k L T S) (hc : S (c : Int) = false) (hg : gr p k c = true) (hn : c < p.funcs.length) : RJ p s k (L ++ [(c : Int)]) (T ++ [(c : Int)]) (fun x => if x = (c : Int) then true else S x) where
  sound x hx := by
    by_cases e : x = (c : Int)
    · refine ⟨c, e, ?_⟩
      rcases h.own with rfl | ho
      · exact .one hg
      · obtain ⟨k', e', hr⟩ := h.sound _ ho
        obtain rfl : k = k' := by omega
        exact .next hr hg
    · simp only [e, if_false] at hx; exact h.sound x hx
  todo x hx := by
    rcases List.mem_append.1 hx with hx | hx
    · obtain ⟨k', e, hl, ho⟩ := h.todo x hx
      refine ⟨k', e, hl, ?_⟩
      rcases ho with ho | ho
      · exact Or.inl ho
      · right; (try dsimp only); split <;> simp [ho]
    · simp at hx; exact ⟨c, hx, hn, Or.inr (by simp)⟩
  clo k' hne hs hT c' hg' := by
    have hk : ¬ (k' : Int) = (c : Int) := fun e => hT (by simp [e])
    have : k' = s ∨ S (k' : Int) = true := by
      rcases hs with hs | hs
      · exact Or.inl hs
      · right; simpa only [hk, if_false] using hs
    have := h.clo k' hne this (fun q => hT (List.mem_append_left _ q)) c' hg'
    (try dsimp only); split <;> simp [this]
  own := by
    rcases h.own with ho | ho
    · exact Or.inl ho
    · right; (try dsimp only); split <;> simp [ho]
  some x hx := by
    rcases List.mem_append.1 hx with hx | hx
    · have := h.some x hx; (try dsimp only); split <;> simp [this]
    · simp at hx; simp [hx]
theorem RJ.done {p : Pr} {s k : Nat} {L T : List Int} {S : Int → Bool} (h : RJ p s k L T S) (hL : ∀ c : Nat, gr p k c = true → (c : Int) ∈ L) : RI p s T S where
  sound := h.sound
  todo := h.todo
  clo k' hs hT c hg := by
    by_cases e : k' = k
    · subst e; exact h.some _ (hL c hg)
    · exact h.clo k' e hs hT c hg
theorem RI.fin {p : Pr} {s : Nat} {S : Int → Bool} (h : RI p s [] S) (c : Nat) : S (c : Int) = true ↔ Rch (gr p) s c := by
  constructor
  · intro hc; obtain ⟨k, e, hr⟩ := h.sound _ hc; obtain rfl : c = k := by omega
    exact hr
  · intro hr
    exact hr.mem (P := fun c => S (c : Int) = true) (fun c hg => h.clo s (Or.inl rfl) (by simp) c hg) (fun m c hm hg => h.clo m (Or.inr hm) (by simp) c hg)
theorem Own.lit1 {base : Nat} {e : TypeId} {w : World} {g : Nat} {x : Int} (hx : I64 x) (hg : w.heap[g]? = some (.cells #[.int .i64 x] e)) (hb : base ≤ g) : Own (fun _ => False) base e w (.slice (some ⟨g, 0, none⟩) 1 1) [x] :=
  ⟨fun _ => False, [[.int .i64 x]], fun _ h => h.elim, rfl, (fun i h h' => match i, h with | 0, _ => ⟨rfl, hx⟩), by simp, by
    refine ⟨by simp [sz_int], .inr ⟨g, 1, #[.int .i64 x], rfl, hb, hg, Nat.le_refl _, by unfold maxLen; omega, by simp [sz_int], by simp [sz_int]⟩⟩⟩
def Rg7 (lo hi b : Nat) : Prop := lo ≤ b ∧ b < hi
theorem nil_or_snoc (T : List Int) : T = [] ∨ ∃ T' x, T = T' ++ [x] := by
  rcases List.eq_nil_or_concat T with h | ⟨T', x, h⟩
  · exact Or.inl h
  · exact Or.inr ⟨T', x, by rw [h, List.concat_eq_append]⟩
theorem unseen_le (S : Int → Bool) : unseen S ≤ 8 := by
  unfold unseen; have := List.countP_le_length (p := fun c : Nat => !S (c : Int)) (l := List.range 8); simpa using this
set_option maxRecDepth 100000 in
set_option maxHeartbeats 4000000 in
theorem program_from (p : Pr) (pv : Value) (s : Nat) (w : World) {F : Nat → Prop} (hp : Sl F w pv p.funcs) (hok : prErr p = 0) (hs : s < p.funcs.length) :
    Calls Try.prog 51 #[p.v pv, .int .i64 s] w (RetP w fun v w' => ∃ B m S, v = .map (some B) ∧ MapB w' B m S ∧ w.heap.size ≤ B ∧ ∀ c : Nat, S (c : Int) = true ↔ Rch (gr p) s c) := by
  obtain ⟨a, n, cap, rfl, Hn, hm, hcap, hcm, hp⟩ := hp.open
  have Hok := Lib.hid (pr_ok hok)
  have Hok0 := Lib.hid hok
  have Hs := Lib.hid hs
  have hsn : s < n := by rw [Hn.out]; exact hs
  have hn8 : n ≤ 8 := by have := Hok.out.2.1; rw [← Hn.out] at this; exact this
  clear hok hs
  have hmm := @run_makeMap Try.prog
  go_enter Try.func51, Try.ntmps51
  go_wp2_with fail
  clear hmm
  go_loopw [6] (fun tv wr => ∃ (T : List Int) (S : Int → Bool) (m : Nat) (x : Ext), wr = ext (w.alloc (Obj.cells #[.slice a n cap] 24)) x ∧ MapB wr (w.heap.size + 1) m S ∧ Own (fun _ => False) (w.heap.size + 1 + 1) 3 wr tv T ∧ m + unseen S ≤ 8 ∧ T.length + unseen S ≤ 9 ∧ Hid (RI p s T S)) (fun tv wr => 2 * (List.range 8).countP (fun c : Nat => !resB ((Instr.lookup 89 (.map (some (w.heap.size + 1))) (.int .i64 (c : Nat)) false).run Try.prog wr)) + lenOf tv)
  case atStart =>
    obtain ⟨x, hx⟩ := ext_of_grow (W := w.alloc (Obj.cells #[.slice a n cap] 24)) (w := ((w.alloc (Obj.cells #[.slice a n cap] 24)).alloc (.map #[] 0)).alloc (.cells #[.int .i64 (s : Int)] 3)) (by (repeat (first | (with_reducible exact Grow.refl _) | assumption | refine Grow.ext ?_ _ | refine Grow.alloc ?_ _ | refine Grow.drew ?_ | refine Grow.setCell ?_ (by first | (simp; done) | (simp; omega)) _ | refine Grow.trans ?_ (by assumption))))
    refine ⟨[(s : Int)], fun _ => false, 0, x, hx, ?_, ?_, ?_, ?_, Lib.hid (RI.start p Hs.out)⟩
    · have := (MapB.made (w.alloc (Obj.cells #[.slice a n cap] 24))).mono (w' := ((w.alloc (Obj.cells #[.slice a n cap] 24)).alloc (.map #[] 0)).alloc (.cells #[.int .i64 (s : Int)] 3)) (by (repeat (first | (with_reducible exact Grow.refl _) | assumption | refine Grow.ext ?_ _ | refine Grow.alloc ?_ _ | refine Grow.drew ?_ | refine Grow.setCell ?_ (by first | (simp; done) | (simp; omega)) _ | refine Grow.trans ?_ (by assumption))))
      rwa [alloc_size] at this
    · refine Own.lit1 ⟨by omega, by omega⟩ ?_ (Nat.le_refl _)
      show (Array.push _ _)[_]? = _
      rw [Array.getElem?_push, if_pos (by simp)]
    · have := unseen_le (fun _ => false); omega
    · have := unseen_le (fun _ => false); simp; omega
  case round =>
    obtain ⟨T, S, m, x, rfl, hMB, hown, hmu, hTu, Hri⟩ := hrel
    obtain ⟨ta, tcap, rfl, htl⟩ := hown.shape
    rcases nil_or_snoc T with rfl | ⟨T', tx, rfl⟩
    · go_wp2_with fail
      go_ret
      exact RetP.mk ⟨_, m, S, rfl, hMB, by omega, fun c => Hri.out.fin c⟩ (by (repeat (first | (with_reducible exact Grow.refl _) | assumption | refine Grow.ext ?_ _ | refine Grow.alloc ?_ _ | refine Grow.drew ?_ | refine Grow.setCell ?_ (by first | (simp; done) | (simp; omega)) _ | refine Grow.trans ?_ (by assumption))))
    · obtain ⟨k, rfl, hkn, _⟩ := Hri.out.todo tx (by simp)
      have hkn' : k < n := by rw [Hn.out]; exact hkn
      clear hkn
      obtain ⟨n1, hn1⟩ : ∃ n1, n1 = T'.length := ⟨_, rfl⟩
      have e1 : (T' ++ [(k : Int)]).length = n1 + 1 := by simp [hn1]
      rw [e1] at hown hTu ⊢
      have hown1 := hown.pop
      have hsl := hown.sl
      obtain ⟨b_t, off_t, t, rfl, ⟨Hg_t, hl_t, hw_t, c_t0⟩⟩ := hsl.int n1 (by omega)
      obtain rfl : t = (k : Int) := by
        have q := Hg_t.out; rw [hn1] at q; simp at q; exact q.symm
      have Hn1 := Lib.hid hn1
      clear hn1 e1
      have htc : n1 + 1 ≤ tcap ∧ tcap ≤ 9223372036854775807 := by obtain ⟨_, _, _, he, _, hq, h1, h2, _⟩ := hsl.open; injection he with _ e2 e3; omega
      obtain ⟨htc1, htc2⟩ := htc
      obtain ⟨b_f, off_f, f, f_locals_a, f_locals_n, f_locals_c, f_blocks_a, f_blocks_n, f_blocks_c, rfl, ⟨Hg_f, hl_f, hw_f, f_locals, f_blocks, c_f0, c_f1, c_f2, c_f3, r_f0⟩⟩ := hp.fn k hkn'
      have Hfm := Lib.hid (List.mem_of_getElem? Hg_f.out)
      have Hfe := Lib.hid (Hok.out.2.2.1 f Hfm.out)
      have Hrj := Lib.hid Hri.out.pop
      have Hgr : Hid (∀ c, gr p k c = callsTo f c) := Lib.hid (fun c => by unfold gr; rw [Hg_f.out])
      have HM0 : Hid (2 * (List.range 8).countP (fun c : Nat => !resB ((Instr.lookup 89 (.map (some (w.heap.size + 1))) (.int .i64 (c : Nat)) false).run Try.prog (ext (w.alloc (Obj.cells #[.slice (some ⟨b_f, off_f, none⟩) n cap] 24)) x))) = 2 * unseen S) := Lib.hid (by rw [unsW_eq hMB])
      have hrow : b_t < (ext (w.alloc (Obj.cells #[.slice (some ⟨b_f, off_f, none⟩) n cap] 24)) x).heap.size := (hown1.row_lt b_t rfl).2
      clear hown Hri hsl
      go_wp2_with (first
        | (go_at_call 32; go_must (with_reducible refine (fnshape_Calls f _ _ _ hw_f (f_locals.mono (by (repeat (first | (with_reducible exact Grow.refl _) | assumption | refine Grow.ext ?_ _ | refine Grow.alloc ?_ _ | refine Grow.drew ?_ | refine Grow.setCell ?_ (by first | (simp; done) | (simp; omega)) _ | refine Grow.trans ?_ (by assumption))))) (f_blocks.mono (by (repeat (first | (with_reducible exact Grow.refl _) | assumption | refine Grow.ext ?_ _ | refine Grow.alloc ?_ _ | refine Grow.drew ?_ | refine Grow.setCell ?_ (by first | (simp; done) | (simp; omega)) _ | refine Grow.trans ?_ (by assumption))))) Hfe.out).mono ?_); rintro e w5 ⟨v5, rfl, ⟨u5, rfl, hs5⟩, hb5⟩; obtain ⟨x5, rfl⟩ := ext_of_grow hb5; clear hb5; obtain ⟨a5, n5, cap5, rfl, Hn5, hm5, hcap5, hcm5, hs5⟩ := hs5.open))
      have hs6 : Sl (Rg7 (ext (w.alloc (Obj.cells #[.slice (some ⟨b_f, off_f, none⟩) n cap] 24)) x).heap.size (ext (ext (w.alloc (Obj.cells #[.slice (some ⟨b_f, off_f, none⟩) n cap] 24)) x) x5).heap.size) (ext (ext (w.alloc (Obj.cells #[.slice (some ⟨b_f, off_f, none⟩) n cap] 24)) x) x5) (.slice a5 n5 cap5) (callsL f) := hs5.wide (fun b hb hF => by rcases hF with hF | hF; exact hF.elim; exact ⟨hF, hb⟩)
      obtain ⟨lo, hlo⟩ : ∃ lo, lo = (ext (w.alloc (Obj.cells #[.slice (some ⟨b_f, off_f, none⟩) n cap] 24)) x).heap.size := ⟨_, rfl⟩
      obtain ⟨hi, hhi⟩ : ∃ hi, hi = (ext (ext (w.alloc (Obj.cells #[.slice (some ⟨b_f, off_f, none⟩) n cap] 24)) x) x5).heap.size := ⟨_, rfl⟩
      rw [← hlo, ← hhi] at hs6
      have hlo1 : w.heap.size + 1 + 1 ≤ lo := by have := hMB.lt; omega
      have hbt : b_t < lo := by rw [hlo]; exact hrow
      have hMB5 := hMB.mono (grow_ext (ext (w.alloc (Obj.cells #[.slice (some ⟨b_f, off_f, none⟩) n cap] 24)) x) x5)
      have hown5 := hown1.mono (grow_ext (ext (w.alloc (Obj.cells #[.slice (some ⟨b_f, off_f, none⟩) n cap] 24)) x) x5)
      rw [ext_ext] at hs6 hMB5 hown5 hhi
      have Hhi := Lib.hid hhi
      have Hlo := Lib.hid hlo
      clear hlo hhi hs5 hrow
      go_loopw [6, 40] (fun tv i wr => ∃ (q : Nat) (T2 : List Int) (S2 : Int → Bool) (m2 : Nat) (x2 : Ext), q ≤ n5 ∧ i = .int .i64 q ∧ wr = ext (w.alloc (Obj.cells #[.slice (some ⟨b_f, off_f, none⟩) n cap] 24)) x2 ∧ hi ≤ wr.heap.size ∧ MapB wr (w.heap.size + 1) m2 S2 ∧ Own (fun _ => False) (w.heap.size + 1 + 1) 3 wr tv T2 ∧
        Sl (Rg7 lo hi) wr (.slice a5 n5 cap5) (callsL f) ∧ (∀ g, tv.ownBlock = some g → g < lo ∨ hi ≤ g) ∧ m2 + unseen S2 ≤ 8 ∧ T2.length + unseen S2 ≤ 9 ∧ 2 * unseen S2 + T2.length + 1 ≤ 2 * unseen S + (n1 + 1) ∧ Hid (RJ p s k ((callsL f).take q) T2 S2)) (fun _ i _ => n5 - (intOf i).toNat)
      case atStart =>
        refine ⟨0, T', S, m, _, Nat.zero_le _, rfl, ext_ext _ _ _, ?_, ?_, ?_, ?_, ?_, hmu, ?_, ?_, Lib.hid (by simpa using Hrj.out)⟩
        · rw [ext_ext, Hhi.out]; exact Nat.le_refl _
        · rw [ext_ext]; exact hMB5
        · rw [ext_ext]; exact hown5
        · rw [ext_ext]; exact hs6
        · intro g hg; simp [Value.ownBlock] at hg; subst hg; exact Or.inl hbt
        · rw [← Hn1.out]; omega
        · rw [← Hn1.out]; omega
      case round =>
        obtain ⟨q, T2, S2, m2, x2, hq, rfl, rfl, hhs, hMB2, hown2, hs2, hob, hmu2, hTu2, hM2, Hj⟩ := hrel
        clear hs6 hMB5 hown5 hMB hown1
        by_cases hlt : q < n5
        · obtain ⟨b_c, off_c, c, rfl, ⟨Hg_c, hl_c, hw_c, c_c0⟩⟩ := hs2.int q hlt
          obtain ⟨cn, rfl, hc8, hct⟩ := callsL_mem (List.mem_of_getElem? Hg_c.out)
          have Hcl := Lib.hid (calls_lt Hok0.out Hfm.out hct)
          have Hct := Lib.hid (show gr p k cn = true by rw [Hgr.out cn]; exact hct)
          have Htk : Hid ((callsL f).take (q + 1) = (callsL f).take q ++ [(cn : Int)]) := Lib.hid (by rw [List.take_add_one, Hg_c.out]; rfl)
          clear hct
          have hlook := hMB2.look hw_c
          cases hS : S2 (cn : Int)
          · obtain ⟨w1, hput, hMB3, hgr1⟩ := hMB2.put (by omega) hw_c
            obtain ⟨x3, rfl⟩ := ext_of_grow (W := (w.alloc (Obj.cells #[.slice (some ⟨b_f, off_f, none⟩) n cap] 24))) (grown_grow (grow_ext _ _) hgr1 (fun k hk => by simp at hk; subst hk; simp))
            have hown3 := hown2.kept hgr1 (by omega)
            have Hun := Lib.hid (unseen_put (S := S2) hc8 hS)
            have hbs3 : w.heap.size + 1 + 1 ≤ (ext (w.alloc (Obj.cells #[.slice (some ⟨b_f, off_f, none⟩) n cap] 24)) x3).heap.size := by have := hMB3.lt; omega
            have hhs3 : hi ≤ (ext (w.alloc (Obj.cells #[.slice (some ⟨b_f, off_f, none⟩) n cap] 24)) x3).heap.size := Nat.le_trans hhs hgr1.size
            go_wp2_with (first | (at_builtin; go_must (refine wpList_app2 slT_int rfl rfl rfl hown3 (by (repeat (first | (with_reducible exact Grow.refl _) | assumption | refine Grow.ext ?_ _ | refine Grow.alloc ?_ _ | refine Grow.drew ?_ | refine Grow.setCell ?_ (by first | (simp; done) | (simp; omega)) _ | refine Grow.trans ?_ (by assumption)))) (by simp) (Nat.le_trans hbs3 (by rw [alloc_size]; omega)) rfl (y := (cn : Int)) hw_c (by (repeat (refine CellsAt.cons (by go_simp) ?_)); exact CellsAt.nil _ _ _) (by omega) (by omega) ?_); intro tv' x' hown' hgr' hob'))
            go_roundw
            case rel =>
              have hne : ∀ b, b < w.heap.size + 1 + 1 → some b ≠ Value.ownBlock _ := fun b hb e => by have := (hown3.row_lt b e.symm).1; omega
              refine ⟨q + 1, T2 ++ [(cn : Int)], _, m2 + 1, x', by omega, by go_num, rfl, Nat.le_trans hhs3 hgr'.size, hMB3.agr (hgr'.block _ hMB3.lt (hne _ (by omega))), hown', ?_, ?_, ?_, ?_, ?_, Lib.hid (by rw [Htk.out]; exact Hj.out.push hS Hct.out Hcl.out)⟩
              · have h1 := hs2.keep (w' := ext (w.alloc (Obj.cells #[.slice (some ⟨b_f, off_f, none⟩) n cap] 24)) x3) (fun b hb hlt => hgr1.block b hlt (by intro e; injection e with e; have := hb.1; omega))
                exact h1.keep (fun b hb hlt => hgr'.block b hlt (fun e => by have h2 := hob b e.symm; have h3 := hb.1; have h4 := hb.2; omega))
              · intro g hg
                rcases hob' with e | e
                · exact hob g (Eq.trans (Eq.symm e) hg)
                · rw [e] at hg; injection hg with hg; right; rw [← hg, alloc_size]; omega
              · have := Hun.out; omega
              · have := Hun.out; rw [List.length_append, List.length_singleton]; omega
              · have := Hun.out; rw [List.length_append, List.length_singleton]; omega
            case measure => simp [intOf]; omega
          · go_wp2_with fail
            go_roundw
            case rel => exact ⟨q + 1, T2, S2, m2, x2, by omega, by go_num, rfl, hhs, hMB2, hown2, hs2, hob, hmu2, hTu2, hM2, Lib.hid (by rw [Htk.out]; exact Hj.out.seen hS)⟩
            case measure => simp [intOf]; omega
        · obtain ⟨ta2, tc2, rfl, _⟩ := hown2.shape
          go_wp2_with fail
          go_roundw
          case rel =>
            refine ⟨T2, S2, m2, x2, rfl, hMB2, hown2, hmu2, hTu2, Lib.hid (Hj.out.done (fun c hc => ?_))⟩
            rw [List.take_of_length_le (by rw [← hs2.len]; omega)]
            rw [Hgr.out] at hc
            exact callsL_of (by have := calls_lt Hok0.out Hfm.out hc; have := Hok.out.2.1; omega) hc
          case measure => rw [HM0.out, unsW_eq hMB2]; simp only [lenOf]; omega
end Go.Proofs.Ytiikhfjdpaofdaa
