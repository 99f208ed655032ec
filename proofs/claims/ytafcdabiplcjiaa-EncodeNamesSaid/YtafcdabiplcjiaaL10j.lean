/- Layer 10: decode.Program. Layer 10: decode.Func. -/
import Derived.Test.YtafcdabiplcjiaaL10h
import Derived.Test.YtafcdabiplcjiaaL09w
namespace Go.Proofs.Ytafcdabiplcjiaa
open Go.RowKit
set_option linter.unusedSimpArgs false
set_option linter.unusedVariables false

theorem RdW.new {T : TypeId} {W0 : World} {bv : Value} {b : List Nat} {F : Nat → Prop} (hs : Sl F W0 bv b) (rb : Nat) (hrb : rb = W0.heap.size) :
    RdW T rb bv b (fun s => W0.alloc (.cells #[bv, .int .i64 s.at', .int .i64 s.e] T)) where
  size s s' := by simp
  lt s := by simp; omega
  box s := by subst hrb; exact Array.getElem?_push_size
  setAt s k := by subst hrb; go_simp
  setE s e := by subst hrb; go_simp
  sl s := (hs.wide (fun k hk _ => by omega)).mono (by (repeat (first | (with_reducible exact Grow.refl _) | assumption | refine Grow.ext ?_ _ | refine Grow.alloc ?_ _ | refine Grow.drew ?_ | refine Grow.setCell ?_ (by first | (simp; done) | (simp; omega)) _ | refine Grow.trans ?_ (by assumption))))
/-- A program is read. -/
def rdPr (b : List Nat) : List Fn × RS := rdL (rdFn b) (rdNum b 1 8 ⟨0, 0⟩).1 (rdNum b 1 8 ⟨0, 0⟩).2
def decPr (b : List Nat) : Pr × Int :=
  if 4000 < b.length then (⟨[]⟩, 4) else if (rdPr b).2.e ≠ 0 then (⟨[]⟩, (rdPr b).2.e) else if (rdPr b).2.at' < b.length then (⟨[]⟩, 38)
  else if prErr ⟨(rdPr b).1⟩ ≠ 0 then (⟨[]⟩, prErr ⟨(rdPr b).1⟩) else (⟨(rdPr b).1⟩, 0)
def PrP (w : World) (q : Pr × Int) (v : Value) (w' : World) : Prop :=
  ∃ v1, v = .tuple #[.agg #[v1], .int .i64 q.2] ∧ Own (fun _ => False) w.heap.size 25 w' v1 q.1.funcs
set_option maxRecDepth 100000 in
set_option maxHeartbeats 8000000 in
theorem decode_Program (v : Value) (b : List Nat) (w : World) {F : Nat → Prop} (hs : Sl F w v b) :
    Calls Try.prog 29 #[v] w (RetP w (PrP w (decPr b))) := by
  obtain ⟨a, n, cap, rfl, Hn, hm, hcap, hcm, hs⟩ := hs.open
  by_cases hbig : 4000 < n
  · have Hr : Hid (decPr b = (⟨[]⟩, 4)) := Lib.hid (by unfold decPr; rw [if_pos (by rw [← Hn.out]; exact hbig)])
    rw [Hr.out]
    go_enter Try.func29, Try.ntmps29
    go_wp2_with fail
    (try simp only [Exit.inBlock, Exit.then])
    exact postP_of (by simp only [results, Try.results29]; go_simp <;> rfl) rfl (by (repeat (first | (with_reducible exact Grow.refl _) | assumption | refine Grow.ext ?_ _ | refine Grow.alloc ?_ _ | refine Grow.drew ?_ | refine Grow.setCell ?_ (by first | (simp; done) | (simp; omega)) _ | refine Grow.trans ?_ (by assumption)))) ⟨_, rfl, Own.nil _ _ _ _⟩
  · obtain ⟨q, Hq⟩ : ∃ q, Hid (q = rdPr b) := ⟨_, Lib.hid rfl⟩
    have h := RdW.new (T := 93) (hs.mono (w' := w.alloc (.cells #[.slice none 0 0] 35)) (by (repeat (first | (with_reducible exact Grow.refl _) | assumption | refine Grow.ext ?_ _ | refine Grow.alloc ?_ _ | refine Grow.drew ?_ | refine Grow.setCell ?_ (by first | (simp; done) | (simp; omega)) _ | refine Grow.trans ?_ (by assumption))))) (w.heap.size + 1) (by simp)
    have Hc : Hid (Calls Try.prog 47 #[.pointer (some ⟨w.heap.size + 1, 0, none⟩), .int .i64 1, .int .i64 8, .func (.func 46) #[.pointer (some ⟨w.heap.size + 1, 0, none⟩)] #[]]
        ((w.alloc (.cells #[.slice none 0 0] 35)).alloc (.cells #[.slice a n cap, .int .i64 0, .int .i64 0] 93)) (fun e w' => ∃ v y, e = .returned v ∧ w' = ext ((w.alloc (.cells #[.slice none 0 0] 35)).alloc (.cells #[.slice a n cap, .int .i64 q.2.at', .int .i64 q.2.e] 93)) y ∧ Own (fun _ => False) (w.heap.size + 1 + 1) 25 w' v q.1)) := Lib.hid (by
      rw [Hq.out]
      refine (decode_list_Fn h ⟨0, 0⟩ (Nat.zero_le _) 1 8 (by omega) (by omega)).mono ?_
      rintro e w' ⟨v, y, rfl, rfl, ho⟩
      exact ⟨v, y, rfl, rfl, by have := ho; dsimp only at this; simp only [alloc_size] at this; exact this⟩)
    have Hr : Hid (decPr b = if q.2.e ≠ 0 then (⟨[]⟩, q.2.e) else if q.2.at' < n then (⟨[]⟩, 38) else if prErr ⟨q.1⟩ ≠ 0 then (⟨[]⟩, prErr ⟨q.1⟩) else (⟨q.1⟩, 0)) := Lib.hid (by unfold decPr; rw [if_neg (by rw [← Hn.out]; exact hbig), ← Hq.out, ← Hn.out])
    clear Hq h
    obtain ⟨l, k, er⟩ := q
    dsimp only at Hr Hc
    by_cases he : er = 0
    · by_cases hk : k < n
      · have Hr2 : Hid (decPr b = (⟨[]⟩, 38)) := Lib.hid (by rw [Hr.out, if_neg (by simpa using he), if_pos hk])
        rw [Hr2.out]
        subst he
        clear Hr
        go_enter Try.func29, Try.ntmps29
        go_wp2_with (first
          | (go_at_call 47; ((with_reducible refine (Hc.out).mono ?_); rintro e w1 ⟨_, x0, rfl, rfl, ho⟩; obtain ⟨va, vn, vc, rfl, Hvn, hvn, ho⟩ := ho.open)))
        (try simp only [Exit.inBlock, Exit.then])
        exact postP_of (by simp only [results, Try.results29]; go_simp <;> rfl) rfl (by (repeat (first | (with_reducible exact Grow.refl _) | assumption | refine Grow.ext ?_ _ | refine Grow.alloc ?_ _ | refine Grow.drew ?_ | refine Grow.setCell ?_ (by first | (simp; done) | (simp; omega)) _ | refine Grow.trans ?_ (by assumption)))) ⟨_, rfl, Own.nil _ _ _ _⟩
      · obtain ⟨pe, hpe⟩ : ∃ e, prErr ⟨l⟩ = e := ⟨_, rfl⟩
        have Hp : Hid (∀ w' {F : Nat → Prop} pv (hp : Sl F w' pv l), Calls Try.prog 37 #[.agg #[pv]] w' (Ret w' (.int .i64 pe))) := Lib.hid (fun w' F pv hp => by have := program_Check ⟨l⟩ pv w' hp; rw [hpe] at this; exact this)
        have Hr1 : Hid (decPr b = if pe ≠ 0 then (⟨[]⟩, pe) else (⟨l⟩, 0)) := Lib.hid (by rw [Hr.out, if_neg (by simpa using he), if_neg hk, hpe])
        clear hpe Hr
        subst he
        by_cases hp0 : pe = 0
        · have Hr2 : Hid (decPr b = (⟨l⟩, 0)) := Lib.hid (by rw [Hr1.out, if_neg (by simpa using hp0)])
          rw [Hr2.out]
          subst hp0
          clear Hr1
          go_enter Try.func29, Try.ntmps29
          go_wp2_with (first
            | (go_at_call 47; ((with_reducible refine (Hc.out).mono ?_); rintro e w1 ⟨_, x0, rfl, rfl, ho⟩; obtain ⟨va, vn, vc, rfl, Hvn, hvn, ho⟩ := ho.open))
            | (go_at_call 37; ((with_reducible refine (Hp.out _ _ (ho.sl.mono (by (repeat (first | (with_reducible exact Grow.refl _) | assumption | refine Grow.ext ?_ _ | refine Grow.alloc ?_ _ | refine Grow.drew ?_ | refine Grow.setCell ?_ (by first | (simp; done) | (simp; omega)) _ | refine Grow.trans ?_ (by assumption)))))).mono ?_); rintro e w1 ⟨rfl, hb1⟩; obtain ⟨x1, rfl⟩ := ext_of_grow hb1; clear hb1)))
          (try simp only [Exit.inBlock, Exit.then])
          refine postP_of (by simp only [results, Try.results29]; go_simp <;> rfl) rfl (by (repeat (first | (with_reducible exact Grow.refl _) | assumption | refine Grow.ext ?_ _ | refine Grow.alloc ?_ _ | refine Grow.drew ?_ | refine Grow.setCell ?_ (by first | (simp; done) | (simp; omega)) _ | refine Grow.trans ?_ (by assumption)))) ⟨_, rfl, ?_⟩
          have h2 : Own (fun _ => False) (w.heap.size + 1 + 1) 25 (ext ((w.alloc (.cells #[.slice va vn vc] 35)).alloc (.cells #[.slice a n cap, .int .i64 k, .int .i64 0] 93)) x0) (.slice va vn vc) l := Own.shift (by simp) ho (by simp)
          exact (h2.mono (by (repeat (first | (with_reducible exact Grow.refl _) | assumption | refine Grow.ext ?_ _ | refine Grow.alloc ?_ _ | refine Grow.drew ?_ | refine Grow.setCell ?_ (by first | (simp; done) | (simp; omega)) _ | refine Grow.trans ?_ (by assumption))))).low (by omega)
        · have Hr2 : Hid (decPr b = (⟨[]⟩, pe)) := Lib.hid (by rw [Hr1.out, if_pos (by simpa using hp0)])
          have hp1 : (pe != 0) = true := by simp [hp0]
          rw [Hr2.out]
          clear Hr1 hp0
          go_enter Try.func29, Try.ntmps29
          go_wp2_with (first
            | (go_at_call 47; ((with_reducible refine (Hc.out).mono ?_); rintro e w1 ⟨_, x0, rfl, rfl, ho⟩; obtain ⟨va, vn, vc, rfl, Hvn, hvn, ho⟩ := ho.open))
            | (go_at_call 37; ((with_reducible refine (Hp.out _ _ (ho.sl.mono (by (repeat (first | (with_reducible exact Grow.refl _) | assumption | refine Grow.ext ?_ _ | refine Grow.alloc ?_ _ | refine Grow.drew ?_ | refine Grow.setCell ?_ (by first | (simp; done) | (simp; omega)) _ | refine Grow.trans ?_ (by assumption)))))).mono ?_); rintro e w1 ⟨rfl, hb1⟩; obtain ⟨x1, rfl⟩ := ext_of_grow hb1; clear hb1)))
          (try simp only [Exit.inBlock, Exit.then])
          exact postP_of (by simp only [results, Try.results29]; go_simp <;> rfl) rfl (by (repeat (first | (with_reducible exact Grow.refl _) | assumption | refine Grow.ext ?_ _ | refine Grow.alloc ?_ _ | refine Grow.drew ?_ | refine Grow.setCell ?_ (by first | (simp; done) | (simp; omega)) _ | refine Grow.trans ?_ (by assumption)))) ⟨_, rfl, Own.nil _ _ _ _⟩
    · have Hr2 : Hid (decPr b = (⟨[]⟩, er)) := Lib.hid (by rw [Hr.out, if_pos (by simpa using he)])
      have he1 : (er == 0) = false := by simp [he]
      have he2 : (er != 0) = true := by simp [he]
      rw [Hr2.out]
      clear Hr he
      go_enter Try.func29, Try.ntmps29
      go_wp2_with (first
        | (go_at_call 47; ((with_reducible refine (Hc.out).mono ?_); rintro e w1 ⟨_, x0, rfl, rfl, ho⟩; obtain ⟨va, vn, vc, rfl, Hvn, hvn, ho⟩ := ho.open)))
      (try simp only [Exit.inBlock, Exit.then])
      exact postP_of (by simp only [results, Try.results29]; go_simp <;> rfl) rfl (by (repeat (first | (with_reducible exact Grow.refl _) | assumption | refine Grow.ext ?_ _ | refine Grow.alloc ?_ _ | refine Grow.drew ?_ | refine Grow.setCell ?_ (by first | (simp; done) | (simp; omega)) _ | refine Grow.trans ?_ (by assumption)))) ⟨_, rfl, Own.nil _ _ _ _⟩
abbrev fn0 : Fn := ⟨0, false, [], []⟩
/-- A function, where it ends, the error. -/
def decFn (b : List Nat) : Fn × Nat × Int :=
  if 4000 < b.length then (fn0, 0, 4) else if (rdFn b ⟨0, 0⟩).2.e ≠ 0 then (fn0, 0, (rdFn b ⟨0, 0⟩).2.e)
  else if fnErr (rdFn b ⟨0, 0⟩).1 ≠ 0 then (fn0, 0, fnErr (rdFn b ⟨0, 0⟩).1) else ((rdFn b ⟨0, 0⟩).1, (rdFn b ⟨0, 0⟩).2.at', 0)
def FnP (w : World) (q : Fn × Nat × Int) (v : Value) (w' : World) : Prop :=
  ∃ v1 v2, v = .tuple #[q.1.v v1 v2, .int .i64 q.2.1, .int .i64 q.2.2] ∧ Sl (fun k => w.heap.size ≤ k) w' v1 q.1.locals ∧ Sl (fun k => w.heap.size ≤ k) w' v2 q.1.blocks
set_option maxRecDepth 100000 in
set_option maxHeartbeats 8000000 in
theorem decode_Func (v : Value) (b : List Nat) (w : World) {F : Nat → Prop} (hs : Sl F w v b) :
    Calls Try.prog 28 #[v] w (RetP w (FnP w (decFn b))) := by
  obtain ⟨a, n, cap, rfl, Hn, hm, hcap, hcm, hs⟩ := hs.open
  by_cases hbig : 4000 < n
  · have Hr : Hid (decFn b = (fn0, 0, 4)) := Lib.hid (by unfold decFn; rw [if_pos (by rw [← Hn.out]; exact hbig)])
    rw [Hr.out]
    go_enter Try.func28, Try.ntmps28
    go_wp2_with fail
    (try simp only [Exit.inBlock, Exit.then])
    exact postP_of (by simp only [results, Try.results28]; go_simp <;> rfl) rfl (by (repeat (first | (with_reducible exact Grow.refl _) | assumption | refine Grow.ext ?_ _ | refine Grow.alloc ?_ _ | refine Grow.drew ?_ | refine Grow.setCell ?_ (by first | (simp; done) | (simp; omega)) _ | refine Grow.trans ?_ (by assumption)))) ⟨.slice none 0 0, .slice none 0 0, rfl, Sl.nil _ _, Sl.nil _ _⟩
  · obtain ⟨q, Hq⟩ : ∃ q, Hid (q = rdFn b ⟨0, 0⟩) := ⟨_, Lib.hid rfl⟩
    have h := RdW.new (T := 93) (hs.mono (w' := w.alloc (.cells #[.int .i64 0, .bool false, .slice none 0 0, .slice none 0 0] 25)) (by (repeat (first | (with_reducible exact Grow.refl _) | assumption | refine Grow.ext ?_ _ | refine Grow.alloc ?_ _ | refine Grow.drew ?_ | refine Grow.setCell ?_ (by first | (simp; done) | (simp; omega)) _ | refine Grow.trans ?_ (by assumption))))) (w.heap.size + 1) (by simp)
    have Hc : Hid (Calls Try.prog 46 #[.pointer (some ⟨w.heap.size + 1, 0, none⟩)]
        ((w.alloc (.cells #[.int .i64 0, .bool false, .slice none 0 0, .slice none 0 0] 25)).alloc (.cells #[.slice a n cap, .int .i64 0, .int .i64 0] 93)) (fun e w' => ∃ v1 v2 y, e = .returned (q.1.v v1 v2) ∧ w' = ext ((w.alloc (.cells #[.int .i64 0, .bool false, .slice none 0 0, .slice none 0 0] 25)).alloc (.cells #[.slice a n cap, .int .i64 q.2.at', .int .i64 q.2.e] 93)) y ∧ Sl (fun k => w.heap.size + 1 + 1 ≤ k) w' v1 q.1.locals ∧ Sl (fun k => w.heap.size + 1 + 1 ≤ k) w' v2 q.1.blocks)) := Lib.hid (by
      rw [Hq.out]
      refine (decode_function h ⟨0, 0⟩ (Nat.zero_le _)).mono ?_
      rintro e w' ⟨v1, v2, y, rfl, rfl, h1, h2⟩
      exact ⟨v1, v2, y, rfl, rfl, by have := h1; dsimp only at this; simp only [alloc_size] at this; exact this, by have := h2; dsimp only at this; simp only [alloc_size] at this; exact this⟩)
    have Hr : Hid (decFn b = if q.2.e ≠ 0 then (fn0, 0, q.2.e) else if fnErr q.1 ≠ 0 then (fn0, 0, fnErr q.1) else (q.1, q.2.at', 0)) := Lib.hid (by unfold decFn; rw [if_neg (by rw [← Hn.out]; exact hbig), ← Hq.out])
    have hb : ∀ x ∈ b, x < 256 := by have := hs.drop_byte 0; rwa [List.drop_zero] at this
    have Hw : Hid q.1.wf := Lib.hid (by rw [Hq.out]; exact rdFn_wf hb)
    clear Hq h
    obtain ⟨⟨fp, fu, fl, fb⟩, k, er⟩ := q
    dsimp only at Hr Hc Hw
    by_cases he : er = 0
    · obtain ⟨pe, hpe⟩ : ∃ e, fnErr ⟨fp, fu, fl, fb⟩ = e := ⟨_, rfl⟩
      have Hp : Hid (∀ w' {F F' : Nat → Prop} v1 v2 (h1 : Sl F w' v1 fl) (h2 : Sl F' w' v2 fb), Calls Try.prog 32 #[.agg #[.int .i64 fp, .bool fu, v1, v2]] w' (Ret w' (.int .i64 pe))) := Lib.hid (fun w' F F' v1 v2 h1 h2 => by have := fnshape_Check ⟨fp, fu, fl, fb⟩ v1 v2 w' Hw.out h1 h2; rw [hpe] at this; exact this)
      have Hr1 : Hid (decFn b = if pe ≠ 0 then (fn0, 0, pe) else (⟨fp, fu, fl, fb⟩, k, 0)) := Lib.hid (by rw [Hr.out, if_neg (by simpa using he), hpe])
      clear hpe Hr
      subst he
      by_cases hp0 : pe = 0
      · have Hr2 : Hid (decFn b = (⟨fp, fu, fl, fb⟩, k, 0)) := Lib.hid (by rw [Hr1.out, if_neg (by simpa using hp0)])
        rw [Hr2.out]
        subst hp0
        clear Hr1
        go_enter Try.func28, Try.ntmps28
        go_wp2_with (first
          | (go_at_call 46; ((with_reducible refine (Hc.out).mono ?_); rintro e w1 ⟨_, _, x0, rfl, rfl, h1, h2⟩; obtain ⟨va, vn, vc, rfl, Hvn, hvn, _, _, h1⟩ := h1.open; obtain ⟨ja, jn, jc, rfl, Hjn, hjn, _, _, h2⟩ := h2.open))
          | (go_at_call 32; ((with_reducible refine (Hp.out _ _ _ (h1.mono (by (repeat (first | (with_reducible exact Grow.refl _) | assumption | refine Grow.ext ?_ _ | refine Grow.alloc ?_ _ | refine Grow.drew ?_ | refine Grow.setCell ?_ (by first | (simp; done) | (simp; omega)) _ | refine Grow.trans ?_ (by assumption))))) (h2.mono (by (repeat (first | (with_reducible exact Grow.refl _) | assumption | refine Grow.ext ?_ _ | refine Grow.alloc ?_ _ | refine Grow.drew ?_ | refine Grow.setCell ?_ (by first | (simp; done) | (simp; omega)) _ | refine Grow.trans ?_ (by assumption)))))).mono ?_); rintro e w1 ⟨rfl, hb1⟩; obtain ⟨x1, rfl⟩ := ext_of_grow hb1; clear hb1)))
        refine wp_region_J (fun _ => True) 8 (by kernel_rfl) (by rfl) ?_
        ((refine J_quietX 1 rfl (by decide +kernel) (by first | exact Or.inl rfl | exact Or.inr rfl) trivial ?_; (first | go_big_quiet_step (fail) | (refine wpQuiet_step (fun K hK => ?_); go_simp; split <;> (refine hK _ ?_; clear hK K))); refine wpQuiet_nil ?_); (refine J_quietX 2 rfl (by decide +kernel) (by first | exact Or.inl rfl | exact Or.inr rfl) trivial ?_; (first | go_big_quiet_step (fail) | (refine wpQuiet_step (fun K hK => ?_); go_simp; split <;> (refine hK _ ?_; clear hK K))); refine wpQuiet_nil ?_); (refine J_quietX 3 rfl (by decide +kernel) (by first | exact Or.inl rfl | exact Or.inr rfl) trivial ?_; (first | go_big_quiet_step (fail) | (refine wpQuiet_step (fun K hK => ?_); go_simp; split <;> (refine hK _ ?_; clear hK K))); refine wpQuiet_nil ?_); (repeat (any_goals (first | (refine J_quietX 6 rfl (by decide +kernel) (by first | exact Or.inl rfl | exact Or.inr rfl) trivial ?_; (first | go_big_quiet_step (fail) | (refine wpQuiet_step (fun K hK => ?_); go_simp; split <;> (refine hK _ ?_; clear hK K))); refine wpQuiet_nil ?_) | (refine J_quietX 7 rfl (by decide +kernel) (by first | exact Or.inl rfl | exact Or.inr rfl) trivial ?_; (first | go_big_quiet_step (fail) | (refine wpQuiet_step (fun K hK => ?_); go_simp; split <;> (refine hK _ ?_; clear hK K))); refine wpQuiet_nil ?_) | (refine J_any [0,4] (by decide +kernel) ?_; (refine ⟨?_, ?_⟩ <;> (refine ⟨_, rfl, fun K hK => ?_⟩; go_wp2_with (fail); refine hK _ _ trivial ?_; clear hK K))) | (refine J_any [4,5] (by decide +kernel) ?_; (refine ⟨?_, ?_⟩ <;> (refine ⟨_, rfl, fun K hK => ?_⟩; go_wp2_with (fail); refine hK _ _ trivial ?_; clear hK K))) | (refine J_any [0] (by decide +kernel) ?_; (refine ⟨_, rfl, fun K hK => ?_⟩; go_wp2_with (fail); refine hK _ _ trivial ?_; clear hK K)) | (refine J_any [4] (by decide +kernel) ?_; (refine ⟨_, rfl, fun K hK => ?_⟩; go_wp2_with (fail); refine hK _ _ trivial ?_; clear hK K)) | (refine J_any [5] (by decide +kernel) ?_; (refine ⟨_, rfl, fun K hK => ?_⟩; go_wp2_with (fail); refine hK _ _ trivial ?_; clear hK K))))))
        all_goals (refine J_end (by decide +kernel) ?_)
        all_goals
          go_wp2_with fail
          (try simp only [Exit.inBlock, Exit.then])
          refine postP_of (by simp only [results, Try.results28]; go_simp <;> rfl) rfl (by (repeat (first | (with_reducible exact Grow.refl _) | assumption | refine Grow.ext ?_ _ | refine Grow.alloc ?_ _ | refine Grow.drew ?_ | refine Grow.setCell ?_ (by first | (simp; done) | (simp; omega)) _ | refine Grow.trans ?_ (by assumption)))) ⟨.slice va vn vc, .slice ja jn jc, rfl, ?_, ?_⟩
          · have q : Sl (fun k => w.heap.size + 1 + 1 ≤ k) (ext ((w.alloc (.cells #[.int .i64 fp, .bool fu, .slice va vn vc, .slice ja jn jc] 25)).alloc (.cells #[.slice a n cap, .int .i64 k, .int .i64 0] 93)) x0) (.slice va vn vc) fl := h1.keep (AgrS.ext0 (by simp) (by simp) x0).agr
            exact (q.wide (fun k _ hk => by omega)).mono (by (repeat (first | (with_reducible exact Grow.refl _) | assumption | refine Grow.ext ?_ _ | refine Grow.alloc ?_ _ | refine Grow.drew ?_ | refine Grow.setCell ?_ (by first | (simp; done) | (simp; omega)) _ | refine Grow.trans ?_ (by assumption))))
          · have q : Sl (fun k => w.heap.size + 1 + 1 ≤ k) (ext ((w.alloc (.cells #[.int .i64 fp, .bool fu, .slice va vn vc, .slice ja jn jc] 25)).alloc (.cells #[.slice a n cap, .int .i64 k, .int .i64 0] 93)) x0) (.slice ja jn jc) fb := h2.keep (AgrS.ext0 (by simp) (by simp) x0).agr
            exact (q.wide (fun k _ hk => by omega)).mono (by (repeat (first | (with_reducible exact Grow.refl _) | assumption | refine Grow.ext ?_ _ | refine Grow.alloc ?_ _ | refine Grow.drew ?_ | refine Grow.setCell ?_ (by first | (simp; done) | (simp; omega)) _ | refine Grow.trans ?_ (by assumption))))
      · have Hr2 : Hid (decFn b = (fn0, 0, pe)) := Lib.hid (by rw [Hr1.out, if_pos (by simpa using hp0)])
        have hp1 : (pe != 0) = true := by simp [hp0]
        rw [Hr2.out]
        clear Hr1 hp0
        go_enter Try.func28, Try.ntmps28
        go_wp2_with (first
          | (go_at_call 46; ((with_reducible refine (Hc.out).mono ?_); rintro e w1 ⟨_, _, x0, rfl, rfl, h1, h2⟩; obtain ⟨va, vn, vc, rfl, Hvn, hvn, _, _, h1⟩ := h1.open; obtain ⟨ja, jn, jc, rfl, Hjn, hjn, _, _, h2⟩ := h2.open))
          | (go_at_call 32; ((with_reducible refine (Hp.out _ _ _ (h1.mono (by (repeat (first | (with_reducible exact Grow.refl _) | assumption | refine Grow.ext ?_ _ | refine Grow.alloc ?_ _ | refine Grow.drew ?_ | refine Grow.setCell ?_ (by first | (simp; done) | (simp; omega)) _ | refine Grow.trans ?_ (by assumption))))) (h2.mono (by (repeat (first | (with_reducible exact Grow.refl _) | assumption | refine Grow.ext ?_ _ | refine Grow.alloc ?_ _ | refine Grow.drew ?_ | refine Grow.setCell ?_ (by first | (simp; done) | (simp; omega)) _ | refine Grow.trans ?_ (by assumption)))))).mono ?_); rintro e w1 ⟨rfl, hb1⟩; obtain ⟨x1, rfl⟩ := ext_of_grow hb1; clear hb1)))
        (try simp only [Exit.inBlock, Exit.then])
        exact postP_of (by simp only [results, Try.results28]; go_simp <;> rfl) rfl (by (repeat (first | (with_reducible exact Grow.refl _) | assumption | refine Grow.ext ?_ _ | refine Grow.alloc ?_ _ | refine Grow.drew ?_ | refine Grow.setCell ?_ (by first | (simp; done) | (simp; omega)) _ | refine Grow.trans ?_ (by assumption)))) ⟨.slice none 0 0, .slice none 0 0, rfl, Sl.nil _ _, Sl.nil _ _⟩
    · have Hr2 : Hid (decFn b = (fn0, 0, er)) := Lib.hid (by rw [Hr.out, if_pos (by simpa using he)])
      have he1 : (er == 0) = false := by simp [he]
      have he2 : (er != 0) = true := by simp [he]
      rw [Hr2.out]
      clear Hr he
      go_enter Try.func28, Try.ntmps28
      go_wp2_with (first
        | (go_at_call 46; ((with_reducible refine (Hc.out).mono ?_); rintro e w1 ⟨_, _, x0, rfl, rfl, h1, h2⟩; obtain ⟨va, vn, vc, rfl, Hvn, hvn, _, _, h1⟩ := h1.open; obtain ⟨ja, jn, jc, rfl, Hjn, hjn, _, _, h2⟩ := h2.open)))
      (try simp only [Exit.inBlock, Exit.then])
      exact postP_of (by simp only [results, Try.results28]; go_simp <;> rfl) rfl (by (repeat (first | (with_reducible exact Grow.refl _) | assumption | refine Grow.ext ?_ _ | refine Grow.alloc ?_ _ | refine Grow.drew ?_ | refine Grow.setCell ?_ (by first | (simp; done) | (simp; omega)) _ | refine Grow.trans ?_ (by assumption)))) ⟨.slice none 0 0, .slice none 0 0, rfl, Sl.nil _ _, Sl.nil _ _⟩
end Go.Proofs.Ytafcdabiplcjiaa
