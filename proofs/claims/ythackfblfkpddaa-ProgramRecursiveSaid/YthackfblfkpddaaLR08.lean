/- Layer 8: the plain law of recursive functions: two functions exchanged. -/
import Derived.Test.YthackfblfkpddaaL08z
import Derived.Test.YthackfblfkpddaaL08s
namespace Go.Proofs.Ythackfblfkpddaa
open Go.RowKit
set_option linter.unusedSimpArgs false
set_option linter.unusedVariables false

/-- 0 and c exchanged. -/
def sw (c i : Nat) : Nat := if i = 0 then c else if i = c then 0 else i
theorem sw_sw (c i : Nat) : sw c (sw c i) = i := by unfold sw; split <;> (try split) <;> (try split) <;> (try split) <;> omega
theorem sw_zero (c : Nat) : sw c 0 = c := by unfold sw; rw [if_pos rfl]
theorem sw_c (c : Nat) : sw c c = 0 := by have := sw_sw c 0; rwa [sw_zero] at this
theorem sw_lt {c i n : Nat} (hc : c < n) (hi : i < n) : sw c i < n := by unfold sw; split <;> (try split) <;> omega
theorem sw_inj {c i j : Nat} (h : sw c i = sw c j) : i = j := by rw [← sw_sw c i, h, sw_sw]
def jR (c : Int) (j : Ju) : Ju := if j.kind = 4 ∧ j.fn = 0 then juFn j c else if j.kind = 4 ∧ j.fn = c then juFn j 0 else j
def bR (c : Int) (b : Bk) : Bk := bkJ b (jR c b.jump)
def fR (c : Int) (f : Fn) : Fn := ⟨f.params, f.uns, f.locals, f.blocks.map (bR c)⟩
/-- The program with 0 and c exchanged. -/
def qR (p : Pr) (c : Nat) : Pr := ⟨((p.funcs.set 0 (p.funcs.getD c fnz)).set c (p.funcs.getD 0 fnz)).map (fR c)⟩
theorem jR_kind (c : Int) (j : Ju) : (jR c j).kind = j.kind := by unfold jR; split; rfl; split <;> rfl
theorem jR_vis (c : Int) (j : Ju) : visJ (jR c j) = visJ j := by unfold jR; split; rfl; split <;> rfl
theorem jR_leads (c : Int) (j : Ju) : leads (jR c j) = leads j := by unfold jR; split; rfl; split <;> rfl
theorem jR_args (c : Int) (j : Ju) : (jR c j).args = j.args := by unfold jR; split; rfl; split <;> rfl
theorem jR_fn {c k : Nat} {j : Ju} (h4 : j.kind = 4) (hk : j.fn = (k : Int)) : (jR c j).fn = (sw c k : Nat) := by
  unfold jR sw
  by_cases h0 : k = 0
  · subst h0; rw [if_pos ⟨h4, by simpa using hk⟩, if_pos rfl]; rfl
  · rw [if_neg (by rintro ⟨_, h⟩; omega), if_neg h0]
    by_cases hc : k = c
    · subst hc; rw [if_pos ⟨h4, hk⟩, if_pos rfl]; rfl
    · rw [if_neg (by rintro ⟨_, h⟩; omega), if_neg hc]; exact hk
theorem jR_err {c : Nat} {j : Ju} (hc : c < 8) (h : juErr j = 0) : juErr (jR c j) = 0 := by
  unfold jR
  have key : ∀ d : Int, 0 ≤ d → d < 8 → j.kind = 4 → juErr (juFn j d) = 0 := by
    intro d h0 h8 h4
    rw [juErr_iff] at h ⊢
    unfold juOk juPre at h ⊢
    unfold juFn
    simp only [h4] at h ⊢
    simp at h ⊢
    exact ⟨⟨⟨⟨⟨⟨⟨h.1.1.1.1.1.1.1, h0⟩, h8⟩, h.1.1.1.1.2⟩, h.1.1.1.2⟩, h.1.1.2⟩, h.1.2⟩, h.2⟩
  split
  · rename_i q; exact key c (by omega) (by omega) q.1
  · split
    · rename_i q; exact key 0 (by omega) (by omega) q.1
    · exact h
theorem rch_head {g : Nat → Nat → Bool} {s t : Nat} : Rch g s t ↔ ∃ m, g s m = true ∧ (m = t ∨ Rch g m t) := by
  constructor
  · intro h
    induction h with
    | one h => exact ⟨_, h, Or.inl rfl⟩
    | next _ h ih =>
      obtain ⟨m, hm, hr⟩ := ih
      rcases hr with rfl | hr
      · exact ⟨m, hm, Or.inr (.one h)⟩
      · exact ⟨m, hm, Or.inr (.next hr h)⟩
  · rintro ⟨m, hm, rfl | hr⟩
    · exact .one hm
    · induction hr with
      | one h => exact .next (.one hm) h
      | next _ h ih => exact .next ih h
theorem rch_sw {g g' : Nat → Nat → Bool} {c : Nat} (h : ∀ i d, g' i d = g (sw c i) (sw c d)) {s t : Nat} (hr : Rch g' s t) : Rch g (sw c s) (sw c t) := by
  induction hr with
  | one e => exact .one (by rw [← h]; exact e)
  | next _ e ih => exact .next ih (by rw [← h]; exact e)
theorem rch_sw_iff {g g' : Nat → Nat → Bool} {c : Nat} (h : ∀ i d, g' i d = g (sw c i) (sw c d)) {s t : Nat} : Rch g' s t ↔ Rch g (sw c s) (sw c t) :=
  ⟨rch_sw h, fun hr => by
    have := rch_sw (g := g') (g' := g) (c := c) (fun i d => by rw [h, sw_sw, sw_sw]) hr
    rwa [sw_sw, sw_sw] at this⟩
theorem qR_len (p : Pr) (c : Nat) : (qR p c).funcs.length = p.funcs.length := by simp [qR]
theorem qR_at {p : Pr} {c i : Nat} (hc : c < p.funcs.length) (h0 : 0 < p.funcs.length) : (qR p c).funcs[i]? = (p.funcs[sw c i]?).map (fR c) := by
  unfold qR
  rw [List.getElem?_map]
  congr 1
  by_cases hi : i < p.funcs.length
  · by_cases hic : i = c
    · subst hic
      rw [sw_c, List.getElem?_set_self (by simpa using hc)]
      simp [List.getD_eq_getElem?_getD, List.getElem?_eq_getElem h0]
    · rw [List.getElem?_set_ne (fun e => hic e.symm)]
      by_cases hi0 : i = 0
      · subst hi0
        rw [sw_zero, List.getElem?_set_self h0]
        simp [List.getD_eq_getElem?_getD, List.getElem?_eq_getElem hc]
      · rw [List.getElem?_set_ne (fun e => hi0 e.symm)]
        unfold sw; rw [if_neg hi0, if_neg hic]
  · have hs : sw c i = i := by unfold sw; rw [if_neg (by omega), if_neg (by omega)]
    rw [hs, List.getElem?_eq_none (by simp; omega), List.getElem?_eq_none (by omega)]
theorem callsTo_R {c d : Nat} {f : Fn} (hf : fnErr f = 0) : callsTo (fR c f) d = callsTo f (sw c d) := by
  obtain ⟨-, g2, -⟩ := fn_good hf
  unfold callsTo fR
  rw [List.any_map]
  rw [Bool.eq_iff_iff, List.any_eq_true, List.any_eq_true]
  have hb : ∀ b ∈ f.blocks, ((fun b : Bk => decide (b.jump.kind = 4) && decide (b.jump.fn = (d : Int))) ∘ bR c) b = (decide (b.jump.kind = 4) && decide (b.jump.fn = (sw c d : Nat))) := by
    intro b hb
    have hj := (made_all g2 hb).2
    show (decide ((jR c b.jump).kind = 4) && decide ((jR c b.jump).fn = (d : Int))) = _
    rw [jR_kind]
    by_cases h4 : b.jump.kind = 4
    · obtain ⟨k, hk⟩ := Int.eq_ofNat_of_zero_le (ju_fn0 hj h4)
      rw [jR_fn h4 hk, hk]
      congr 1
      rw [decide_eq_decide]
      constructor
      · intro e
        have e' : sw c k = d := by omega
        rw [← e', sw_sw]
      · intro e
        have e' : k = sw c d := by omega
        rw [e', sw_sw]
    · simp [h4]
  constructor
  · rintro ⟨b, hm, h⟩; exact ⟨b, hm, by rw [← hb b hm]; exact h⟩
  · rintro ⟨b, hm, h⟩; exact ⟨b, hm, by rw [hb b hm]; exact h⟩
theorem bkB_R {c n nb : Nat} {b : Bk} (hc : c < 8) (h : bkB n nb b = true) : bkB n nb (bR c b) = true := by
  unfold bkB juB at h ⊢
  simp only [Bool.and_eq_true, decide_eq_true_eq] at h ⊢
  refine ⟨h.1, ⟨jR_err hc h.2.1.1, ?_⟩, ?_⟩
  · show (visJ (jR c b.jump)).all _ = true
    rw [jR_vis]; exact h.2.1.2
  · show (leads (jR c b.jump)).all _ = true
    rw [jR_leads]; exact h.2.2
theorem fnErr_R {c : Nat} {f : Fn} (hc : c < 8) (h : fnErr f = 0) : fnErr (fR c f) = 0 := by
  obtain ⟨g1, g2, g3⟩ := fn_good h
  have s1 : small (fR c f) = true := by
    rw [← g1]; unfold small fR
    simp only [List.length_map, List.all_map]
    rfl
  have s2 : madeB (fR c f) = true := by
    unfold madeB at g2 ⊢
    simp only [Bool.and_eq_true, decide_eq_true_eq, List.all_eq_true] at g2 ⊢
    refine ⟨⟨g2.1.1, by show 0 < (f.blocks.map (bR c)).length; rw [List.length_map]; exact g2.1.2⟩, fun b hb => ?_⟩
    obtain ⟨b0, hb0, rfl⟩ := List.mem_map.1 hb
    have := bkB_R (c := c) hc (g2.2 b0 hb0)
    show bkB f.locals.length (f.blocks.map (bR c)).length _ = true
    rw [List.length_map]; exact this
  have s3 : twosOk (fR c f) = true := by
    rw [← g3]; unfold twosOk
    have e : fnTS (fR c f) = fnTS f := by
      rw [fn_ts, fn_ts]
      show TS.mk ((f.blocks.map (bR c)).flatMap isB) _ _ ((f.blocks.map (bR c)).flatMap setB) = TS.mk (f.blocks.flatMap isB) _ _ (f.blocks.flatMap setB)
      have e1 : (f.blocks.map (bR c)).flatMap isB = f.blocks.flatMap isB := by rw [List.flatMap_map]; rfl
      have e2 : (f.blocks.map (bR c)).flatMap setB = f.blocks.flatMap setB := by rw [List.flatMap_map]; rfl
      rw [e1, e2]
      show TS.mk _ ((f.blocks.map (bR c)).flatMap _) ((f.blocks.map (bR c)).flatMap _) _ = _
      rw [List.flatMap_map, List.flatMap_map]
      congr 2
      · funext b; show _ ++ locV (visJ (jR c b.jump)) = _; rw [jR_vis]; rfl
      · funext b; show _ ++ pasV (visJ (jR c b.jump)) = _; rw [jR_vis]; rfl
    rw [e]; rfl
  unfold fnErr; rw [s1, s2, s3]; rfl
theorem fns_ok {l : List Fn} (h : ∀ f ∈ l, fnErr f = 0) : fnsErr l = 0 := by
  induction l with
  | nil => rfl
  | cons g l ih =>
    unfold fnsErr
    rw [if_neg (by simpa using h g (by simp))]
    exact ih (fun f hf => h f (by simp [hf]))
theorem qR_mem {p : Pr} {c : Nat} (hc : c < p.funcs.length) (h0 : 0 < p.funcs.length) {g : Fn} (h : g ∈ (qR p c).funcs) : ∃ f ∈ p.funcs, g = fR c f := by
  obtain ⟨i, hi⟩ := List.getElem?_of_mem h
  rw [qR_at hc h0] at hi
  obtain ⟨f, hf, rfl⟩ := Option.map_eq_some_iff.1 hi
  exact ⟨f, List.mem_of_getElem? hf, rfl⟩
theorem qR_ok {p : Pr} {c : Nat} (h : prErr p = 0) (hc : c < p.funcs.length) (hp : ∀ f ∈ p.funcs, f.params ≤ 0) : prErr (qR p c) = 0 := by
  obtain ⟨h1, h8, hf, hi, hcb⟩ := pr_ok h
  have hc8 : c < 8 := by omega
  have hall : ∀ g ∈ (qR p c).funcs, fnErr g = 0 := fun g hg => by
    obtain ⟨f, hm, rfl⟩ := qR_mem hc (by omega) hg
    exact fnErr_R hc8 (hf f hm)
  unfold prErr
  rw [qR_len, if_neg (by omega), if_neg (by omega), if_neg (by rw [fns_ok hall]; simp)]
  have hin : inputsB ((qR p c).funcs.getD 0 fnz) = true := by
    unfold inputsB
    have hz : ((qR p c).funcs.getD 0 fnz).params.toNat = 0 := by
      rw [List.getD_eq_getElem?_getD, qR_at hc (by omega), sw_zero, List.getElem?_eq_getElem hc]
      have := hp _ (List.getElem_mem hc)
      show (p.funcs[c]).params.toNat = 0
      omega
    rw [hz]; rfl
  have hcalls : callsB (qR p c) = true := by
    unfold callsB at hcb ⊢
    rw [List.all_eq_true] at hcb ⊢
    intro g hg
    obtain ⟨f, hm, rfl⟩ := qR_mem hc (by omega) hg
    rw [List.all_eq_true]
    intro b hb
    obtain ⟨b0, hb0, rfl⟩ := List.mem_map.1 hb
    have hq := List.all_eq_true.1 (hcb f hm) b0 hb0
    have hj := (made_all (fn_good (hf f hm)).2.1 hb0).2
    unfold callB at hq ⊢
    show (!decide ((jR c b0.jump).kind = 4) || _) = true
    rw [jR_kind]
    by_cases h4 : b0.jump.kind = 4
    · obtain ⟨k, hk⟩ := Int.eq_ofNat_of_zero_le (ju_fn0 hj h4)
      simp only [h4, decide_true, Bool.not_true, Bool.false_or, Bool.and_eq_true, decide_eq_true_eq] at hq ⊢
      show (jR c b0.jump).fn < _ ∧ ((jR c b0.jump).args.length : Int) = _
      rw [jR_fn h4 hk, jR_args, qR_len]
      have hkl : k < p.funcs.length := by have := hq.1; rw [hk] at this; omega
      have hs := sw_lt hc hkl
      refine ⟨by omega, ?_⟩
      rw [hq.2, hk]
      have e1 : ((bR (c : Int) b0).jump.fn).toNat = sw c k := by
        show ((jR c b0.jump).fn).toNat = _
        rw [jR_fn h4 hk]; rfl
      rw [e1]
      show (p.funcs.getD k fnz).params = _
      rw [List.getD_eq_getElem?_getD, List.getD_eq_getElem?_getD, qR_at hc (by omega), sw_sw, List.getElem?_eq_getElem hkl]
      rfl
    · simp [h4]
  rw [hin, hcalls]; rfl
theorem gr_R {p : Pr} {c : Nat} (h : prErr p = 0) (hc : c < p.funcs.length) (i d : Nat) : gr (qR p c) i d = gr p (sw c i) (sw c d) := by
  unfold gr
  rw [qR_at hc (by omega)]
  cases e : p.funcs[sw c i]? with
  | none => rfl
  | some f => exact callsTo_R ((pr_ok h).2.2.1 f (List.mem_of_getElem? e))
/-- What the law asks of one call. -/
def recOne (p : Pr) (f c : Nat) : Bool := (reachL (qR p c)).contains ((sw c f : Nat) : Int)
theorem recOne_iff {p : Pr} {f c : Nat} (h : prErr p = 0) (hp : ∀ g ∈ p.funcs, g.params ≤ 0) (hc : c < p.funcs.length) (hf : f < p.funcs.length) : recOne p f c = true ↔ (c = f ∨ Rch (gr p) c f) := by
  have hq := qR_ok h hc hp
  unfold recOne reachL reachUpto
  rw [List.contains_iff_mem, List.mem_map]
  constructor
  · rintro ⟨k, hk, e⟩
    have hk2 := (List.mem_filter.1 hk).2
    have e' : k = sw c f := by omega
    subst e'
    rcases (reachB_iff hq _).1 hk2 with hz | hr
    · left
      have := congrArg (sw c) hz
      rw [sw_sw, sw_zero] at this; exact this.symm
    · right
      have := (rch_sw_iff (gr_R h hc)).1 hr
      rwa [sw_zero, sw_sw] at this
  · intro hr
    refine ⟨sw c f, List.mem_filter.2 ⟨List.mem_range.2 (by rw [qR_len]; exact sw_lt hc hf), (reachB_iff hq _).2 ?_⟩, rfl⟩
    rcases hr with rfl | hr
    · left; exact sw_c c
    · right
      refine (rch_sw_iff (gr_R h hc)).2 ?_
      rwa [sw_zero, sw_sw]
theorem rec_law {p : Pr} {f : Nat} (h : prErr p = 0) (hp : ∀ g ∈ p.funcs, g.params ≤ 0) {x : Fn} (hx : p.funcs[f]? = some x) : recB p f = ((List.range 8).filter (callsTo x)).any (recOne p f) := by
  have hf := (List.getElem?_eq_some_iff.1 hx).1
  have hg : ∀ c, gr p f c = callsTo x c := fun c => by unfold gr; rw [hx]
  rw [Bool.eq_iff_iff, recB_iff h, rch_head, List.any_eq_true]
  have h8 := (pr_ok h).2.1
  constructor
  · rintro ⟨m, hm, hr⟩
    have hl := (gr_lt h _ _ hm).2
    exact ⟨m, List.mem_filter.2 ⟨List.mem_range.2 (by omega), by rw [← hg]; exact hm⟩, (recOne_iff h hp hl hf).2 hr⟩
  · rintro ⟨m, hm, hr⟩
    have hm2 := (List.mem_filter.1 hm).2
    rw [← hg] at hm2
    exact ⟨m, hm2, (recOne_iff h hp (gr_lt h _ _ hm2).2 hf).1 hr⟩
theorem rec_self {p : Pr} {f : Nat} (h : prErr p = 0) {x : Fn} (hx : p.funcs[f]? = some x) (hc : callsTo x f = true) : recB p f = true := by
  rw [recB_iff h]
  exact .one (by unfold gr; rw [hx]; exact hc)
end Go.Proofs.Ythackfblfkpddaa
