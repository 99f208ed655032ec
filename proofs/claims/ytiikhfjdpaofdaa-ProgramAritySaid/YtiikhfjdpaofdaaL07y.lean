/- Layer 7, the reference: the check of functions. -/
import Derived.Test.YtiikhfjdpaofdaaL07x
import Derived.Test.YtiikhfjdpaofdaaL07i
namespace Go.Proofs.Ytiikhfjdpaofdaa
open Go.RowKit
set_option linter.unusedSimpArgs false
set_option linter.unusedVariables false

/- What the visitors count, as lists. -/
def pasV (vs : List Vis) : List Int := vs.flatMap (fun v => if pass v.1 v.2 = true then [v.1.loc] else [])
def locV (vs : List Vis) : List Int := vs.map (fun v => v.1.loc)
theorem fold_ts (t : TS) (vs : List Vis) : visFold tstep t vs = ⟨t.is, t.all ++ locV vs, t.pas ++ pasV vs, t.sets⟩ := by
  induction vs generalizing t with
  | nil => simp [visFold, locV, pasV]
  | cons v vs ih =>
    rw [visFold_cons, ih]
    unfold tstep locV pasV
    cases h : pass v.1 v.2 <;> simp [h]
theorem st_ts (t : TS) (s : St) : stTS t s = ⟨t.is ++ (if two s = true then [s.pl.loc] else []), t.all ++ locV (visS s), t.pas ++ pasV (visS s), t.sets ++ setO s⟩ := by
  unfold stTS setO; rw [fold_ts]
  cases h : two s <;> cases h2 : setS s <;> simp
theorem sts_ts (t : TS) (l : List St) : l.foldl stTS t = ⟨t.is ++ l.flatMap (fun s => if two s = true then [s.pl.loc] else []), t.all ++ l.flatMap (fun s => locV (visS s)), t.pas ++ l.flatMap (fun s => pasV (visS s)), t.sets ++ l.flatMap setO⟩ := by
  induction l generalizing t with
  | nil => simp
  | cons s l ih => rw [List.foldl_cons, ih, st_ts]; simp [List.append_assoc]
theorem bk_ts (t : TS) (b : Bk) : bkTS t b = ⟨t.is ++ isB b, t.all ++ (b.stmts.flatMap (fun s => locV (visS s)) ++ locV (visJ b.jump)), t.pas ++ (b.stmts.flatMap (fun s => pasV (visS s)) ++ pasV (visJ b.jump)), t.sets ++ setB b⟩ := by
  unfold bkTS; rw [sts_ts, fold_ts]; simp [List.append_assoc, isB, setB]
theorem bks_ts (t : TS) (l : List Bk) : l.foldl bkTS t = ⟨t.is ++ l.flatMap isB, t.all ++ l.flatMap (fun b => b.stmts.flatMap (fun s => locV (visS s)) ++ locV (visJ b.jump)), t.pas ++ l.flatMap (fun b => b.stmts.flatMap (fun s => pasV (visS s)) ++ pasV (visJ b.jump)), t.sets ++ l.flatMap setB⟩ := by
  induction l generalizing t with
  | nil => simp
  | cons s l ih => rw [List.foldl_cons, ih, bk_ts]; simp [List.append_assoc]
theorem fn_ts (f : Fn) : fnTS f = ⟨isF f, f.blocks.flatMap (fun b => b.stmts.flatMap (fun s => locV (visS s)) ++ locV (visJ b.jump)), f.blocks.flatMap (fun b => b.stmts.flatMap (fun s => pasV (visS s)) ++ pasV (visJ b.jump)), f.blocks.flatMap setB⟩ := by
  unfold fnTS; rw [bks_ts]; simp [isF]
theorem mv_opd {o : Opd} (h : opdErr o = 0) : pasV (visO true o) = mvO o := by
  have := (opdErr_iff o).1 h
  unfold visO mvO pasV
  rcases this with q | q
  · simp [q.1]
  · have h1 : o.kind ≠ 1 := by omega
    rw [if_neg h1]
    simp only [List.flatMap_cons, List.flatMap_nil, List.append_nil, pass, Bool.true_and, Bool.and_eq_true, decide_eq_true_eq, Bool.not_eq_true', q.2.1, true_and, and_assoc]
theorem mv_no {o : Opd} : pasV (visO false o) = [] := by
  unfold visO pasV; split <;> simp [pass]
theorem mv_opds {l : List Opd} (h : ∀ o ∈ l, opdErr o = 0) : pasV (visOs true l) = mvL l := by
  induction l with
  | nil => rfl
  | cons o l ih =>
    have e : pasV (visOs true (o :: l)) = pasV (visO true o) ++ pasV (visOs true l) := by unfold visOs pasV; simp [List.flatMap_cons]
    rw [e, mv_opd (h o (by simp)), ih (fun q hq => h q (by simp [hq]))]; unfold mvL; simp
theorem mv_none {l : List Opd} : pasV (visOs false l) = [] := by
  induction l with
  | nil => rfl
  | cons o l ih =>
    have e : pasV (visOs false (o :: l)) = pasV (visO false o) ++ pasV (visOs false l) := by unfold visOs pasV; simp [List.flatMap_cons]
    rw [e, mv_no, ih]; rfl
theorem pas_one {p : Pl} {vs : List Vis} : pasV ((p, false) :: vs) = pasV vs := by unfold pasV; simp [pass]
theorem pas_st {s : St} (h : stErr s = 0) : pasV (visS s) = useS s := by
  have h' := (stErr_iff s).1 h
  unfold visS useS
  by_cases h3 : s.kind = 3
  · rw [if_pos h3, if_neg (by omega), pas_one]; rfl
  · rw [if_neg h3]
    by_cases h2 : s.kind = 2 ∨ s.kind = 4
    · rw [if_pos h2, if_neg (by omega), mv_none]
    · have h1 : s.kind = 1 := by unfold stOk at h'; grind
      have hr : rvOk s.r = true := by unfold stOk at h'; grind
      rw [if_neg h2, if_pos h1, pas_one]
      unfold visR
      by_cases h45 : s.r.kind = 4 ∨ s.r.kind = 5
      · rw [if_pos h45, if_neg (by omega), pas_one]; rfl
      · rw [if_neg h45]
        by_cases hk : s.r.kind = 1
        · have hp := rv_opds7 hr
          rw [if_pos hk, if_pos ⟨h1, hk⟩]
          have e : rvParts s.r = [s.r.a] := by unfold rvParts; rw [if_pos hk]
          rw [e] at hp ⊢
          exact mv_opds hp
        · rw [if_neg hk, if_neg (by omega), mv_none]
theorem pas_ju {j : Ju} (h : juErr j = 0) : pasV (visJ j) = useJ j := by
  have h' := (juErr_iff j).1 h
  have ha : ∀ o ∈ j.args, opdErr o = 0 := by
    intro o ho; unfold juOk argsOk at h'; simp only [Bool.and_eq_true, List.all_eq_true, decide_eq_true_eq] at h'; exact h'.2 o ho
  unfold visJ useJ
  by_cases h2 : j.kind = 2
  · rw [if_pos h2, if_neg (by omega), mv_none]
  · rw [if_neg h2]
    by_cases h4 : j.kind = 4
    · rw [if_pos h4, if_pos h4, pas_one, mv_opds ha]
    · rw [if_neg h4, if_neg h4]; rfl
theorem flatMap_congr {α β : Type} {g g' : α → List β} {l : List α} (h : ∀ x ∈ l, g x = g' x) : l.flatMap g = l.flatMap g' := by
  induction l with
  | nil => rfl
  | cons x l ih => rw [List.flatMap_cons, List.flatMap_cons, h x (by simp), ih (fun y hy => h y (by simp [hy]))]
theorem flatMap_count {α : Type} {g g' : α → List Int} {l : List α} {t : Int} (h : ∀ x ∈ l, (g x).count t = (g' x).count t) : (l.flatMap g).count t = (l.flatMap g').count t := by
  induction l with
  | nil => rfl
  | cons x l ih => rw [List.flatMap_cons, List.flatMap_cons, List.count_append, List.count_append, h x (by simp), ih (fun y hy => h y (by simp [hy]))]
theorem made_all {f : Fn} {b : Bk} (h : madeB f = true) (hb : b ∈ f.blocks) : (∀ s ∈ b.stmts, stErr s = 0) ∧ juErr b.jump = 0 := by
  obtain ⟨k, hk, e⟩ := List.getElem_of_mem hb
  exact made_at h (k := k) (Lib.hid (by rw [List.getElem?_eq_getElem hk, e]))
theorem once_two {f : Fn} (h : madeB f = true) (t : Nat) : twoAt (fnTS f) f.params t = (!decide ((t : Int) ∈ isF f) || onceB f t) := by
  rw [fn_ts]
  unfold twoAt onceB
  have e1 : f.blocks.flatMap (fun b => b.stmts.flatMap (fun s => pasV (visS s)) ++ pasV (visJ b.jump)) = f.blocks.flatMap useB := by
    apply flatMap_congr; intro b hb
    have hm := made_all h hb
    rw [pas_ju hm.2, flatMap_congr (fun s hs => pas_st (hm.1 s hs))]; rfl
  have e2 : cw (f.blocks.flatMap (fun b => b.stmts.flatMap (fun s => locV (visS s)) ++ locV (visJ b.jump))) t = cw (f.blocks.flatMap locB) t := by
    unfold cw; congr 2
    apply flatMap_count; intro b hb
    have hm := made_all h hb
    unfold locB
    rw [List.count_append, List.count_append, (locJ_perm hm.2).count_eq]
    congr 1
    apply flatMap_count; intro s hs
    exact ((locS_perm (hm.1 s hs)).count_eq _).symm
  simp only [e1, e2]
  congr 1
  cases decide (f.params < (t : Int)) <;> cases decide (cw (List.flatMap locB f.blocks) t = 2) <;> cases decide (cw (List.flatMap useB f.blocks) t = 1) <;> cases decide (cw (List.flatMap setB f.blocks) t = 1) <;> rfl
theorem twos_ref {f : Fn} (h : madeB f = true) : twosOk f = (List.range 16).all (fun t => !decide ((t : Int) ∈ isF f) || onceB f t) := by
  unfold twosOk; congr 1; funext t; exact once_two h t

set_option maxHeartbeats 1000000 in
theorem ref07_Check (f : Fn) (v1 v2 : Value) (w : World) {F F' : Nat → Prop} (hf : f.wf) (h1 : Sl F w v1 f.locals) (h2 : Sl F' w v2 f.blocks) :
    Calls Try.prog 62 #[f.v v1 v2] w (Ret w (.int .i64 (fnErr f))) := by
  obtain ⟨a, n, cap, rfl, Hn, hm, hcap, hcm, h1⟩ := h1.open
  obtain ⟨a2, n2, cap2, rfl, Hn2, hm2, hcap2, hcm2, h2⟩ := h2.open
  have e2 := is16_nil
  cases hs : small f
  · go_enter Try.func62, Try.ntmps62
    go_wp2_with (first | (go_at_call 83; ((with_reducible refine (ref07_many f _ _ _ (h1.mono (by (repeat (first | (with_reducible exact Grow.refl _) | assumption | refine Grow.ext ?_ _ | refine Grow.alloc ?_ _ | refine Grow.drew ?_ | refine Grow.setCell ?_ (by first | (simp; done) | (simp; omega)) _ | refine Grow.trans ?_ (by assumption))))) (h2.mono (by (repeat (first | (with_reducible exact Grow.refl _) | assumption | refine Grow.ext ?_ _ | refine Grow.alloc ?_ _ | refine Grow.drew ?_ | refine Grow.setCell ?_ (by first | (simp; done) | (simp; omega)) _ | refine Grow.trans ?_ (by assumption)))))).mono ?_); rintro e w1 ⟨rfl, hb1⟩; obtain ⟨x1, rfl⟩ := ext_of_grow hb1; clear hb1)))
    go_ret
    refine Ret.int ?_ (by (repeat (first | (with_reducible exact Grow.refl _) | assumption | refine Grow.ext ?_ _ | refine Grow.alloc ?_ _ | refine Grow.drew ?_ | refine Grow.setCell ?_ (by first | (simp; done) | (simp; omega)) _ | refine Grow.trans ?_ (by assumption))))
    simp [fnErr, hs]
  · have Hs := Lib.hid hs
    cases hmd : madeB f
    · go_enter Try.func62, Try.ntmps62
      go_wp2_with (first | (go_at_call 83; ((with_reducible refine (ref07_many f _ _ _ (h1.mono (by (repeat (first | (with_reducible exact Grow.refl _) | assumption | refine Grow.ext ?_ _ | refine Grow.alloc ?_ _ | refine Grow.drew ?_ | refine Grow.setCell ?_ (by first | (simp; done) | (simp; omega)) _ | refine Grow.trans ?_ (by assumption))))) (h2.mono (by (repeat (first | (with_reducible exact Grow.refl _) | assumption | refine Grow.ext ?_ _ | refine Grow.alloc ?_ _ | refine Grow.drew ?_ | refine Grow.setCell ?_ (by first | (simp; done) | (simp; omega)) _ | refine Grow.trans ?_ (by assumption)))))).mono ?_); rintro e w1 ⟨rfl, hb1⟩; obtain ⟨x1, rfl⟩ := ext_of_grow hb1; clear hb1)) | (go_at_call 84; ((with_reducible refine (ref07_Made f _ _ _ hf (h1.mono (by (repeat (first | (with_reducible exact Grow.refl _) | assumption | refine Grow.ext ?_ _ | refine Grow.alloc ?_ _ | refine Grow.drew ?_ | refine Grow.setCell ?_ (by first | (simp; done) | (simp; omega)) _ | refine Grow.trans ?_ (by assumption))))) (h2.mono (by (repeat (first | (with_reducible exact Grow.refl _) | assumption | refine Grow.ext ?_ _ | refine Grow.alloc ?_ _ | refine Grow.drew ?_ | refine Grow.setCell ?_ (by first | (simp; done) | (simp; omega)) _ | refine Grow.trans ?_ (by assumption))))) Hs.out).mono ?_); rintro e w2 ⟨rfl, hb2⟩; obtain ⟨x2, rfl⟩ := ext_of_grow hb2; clear hb2)))
      go_ret
      refine Ret.int ?_ (by (repeat (first | (with_reducible exact Grow.refl _) | assumption | refine Grow.ext ?_ _ | refine Grow.alloc ?_ _ | refine Grow.drew ?_ | refine Grow.setCell ?_ (by first | (simp; done) | (simp; omega)) _ | refine Grow.trans ?_ (by assumption))))
      simp [fnErr, hs, hmd]
    · have Hmd := Lib.hid hmd
      have Htw := Lib.hid (twos_ref hmd)
      go_enter Try.func62, Try.ntmps62
      go_wp2_with (first | (go_at_call 83; ((with_reducible refine (ref07_many f _ _ _ (h1.mono (by (repeat (first | (with_reducible exact Grow.refl _) | assumption | refine Grow.ext ?_ _ | refine Grow.alloc ?_ _ | refine Grow.drew ?_ | refine Grow.setCell ?_ (by first | (simp; done) | (simp; omega)) _ | refine Grow.trans ?_ (by assumption))))) (h2.mono (by (repeat (first | (with_reducible exact Grow.refl _) | assumption | refine Grow.ext ?_ _ | refine Grow.alloc ?_ _ | refine Grow.drew ?_ | refine Grow.setCell ?_ (by first | (simp; done) | (simp; omega)) _ | refine Grow.trans ?_ (by assumption)))))).mono ?_); rintro e w1 ⟨rfl, hb1⟩; obtain ⟨x1, rfl⟩ := ext_of_grow hb1; clear hb1)) | (go_at_call 84; ((with_reducible refine (ref07_Made f _ _ _ hf (h1.mono (by (repeat (first | (with_reducible exact Grow.refl _) | assumption | refine Grow.ext ?_ _ | refine Grow.alloc ?_ _ | refine Grow.drew ?_ | refine Grow.setCell ?_ (by first | (simp; done) | (simp; omega)) _ | refine Grow.trans ?_ (by assumption))))) (h2.mono (by (repeat (first | (with_reducible exact Grow.refl _) | assumption | refine Grow.ext ?_ _ | refine Grow.alloc ?_ _ | refine Grow.drew ?_ | refine Grow.setCell ?_ (by first | (simp; done) | (simp; omega)) _ | refine Grow.trans ?_ (by assumption))))) Hs.out).mono ?_); rintro e w2 ⟨rfl, hb2⟩; obtain ⟨x2, rfl⟩ := ext_of_grow hb2; clear hb2)) | (go_at_call 85; ((with_reducible refine (ref07_Two f _ _ _ hf (h1.mono (by (repeat (first | (with_reducible exact Grow.refl _) | assumption | refine Grow.ext ?_ _ | refine Grow.alloc ?_ _ | refine Grow.drew ?_ | refine Grow.setCell ?_ (by first | (simp; done) | (simp; omega)) _ | refine Grow.trans ?_ (by assumption))))) (h2.mono (by (repeat (first | (with_reducible exact Grow.refl _) | assumption | refine Grow.ext ?_ _ | refine Grow.alloc ?_ _ | refine Grow.drew ?_ | refine Grow.setCell ?_ (by first | (simp; done) | (simp; omega)) _ | refine Grow.trans ?_ (by assumption))))) Hmd.out).mono ?_); rintro e w3 ⟨rfl, hb3⟩; obtain ⟨x3, rfl⟩ := ext_of_grow hb3; clear hb3)))
      clear e2
      go_loopw [4] (fun i wr => ∃ (q : Nat), q ≤ 16 ∧ i = .int .i64 q ∧ Grow ((ext (ext (ext (w.alloc (Obj.cells #[.int .i64 f.params, .bool f.uns, .slice a n cap, .slice a2 n2 cap2] 49)) x1) x2) x3).alloc (.cells (is16 (isF f)) 109)) wr ∧ Hid (∀ z, z < q → (!decide ((z : Int) ∈ isF f) || onceB f z) = true)) (fun i _ => 16 - (intOf i).toNat)
      case atStart => exact ⟨0, Nat.zero_le _, rfl, (by (repeat (first | (with_reducible exact Grow.refl _) | assumption | refine Grow.ext ?_ _ | refine Grow.alloc ?_ _ | refine Grow.drew ?_ | refine Grow.setCell ?_ (by first | (simp; done) | (simp; omega)) _ | refine Grow.trans ?_ (by assumption)))), Lib.hid (fun z hz => absurd hz (Nat.not_lt_zero z))⟩
      case round =>
        obtain ⟨q, hq, rfl, hb1, Hq⟩ := hrel
        obtain ⟨y1, rfl⟩ := ext_of_grow hb1
        by_cases hlt3 : q < 16
        · have hg0 := is16_get (isF f) q hlt3
          cases hi : decide ((q : Int) ∈ isF f)
          · have Hi : Hid ((!decide ((q : Int) ∈ isF f) || onceB f q) = true) := Lib.hid (by rw [hi]; rfl)
            go_wp2_with fail
            go_roundw
            case rel => exact ⟨q + 1, by omega, by go_num, (by (repeat (first | (with_reducible exact Grow.refl _) | assumption | refine Grow.ext ?_ _ | refine Grow.alloc ?_ _ | refine Grow.drew ?_ | refine Grow.setCell ?_ (by first | (simp; done) | (simp; omega)) _ | refine Grow.trans ?_ (by assumption)))), Lib.hid (fun z hz => by rcases Nat.lt_succ_iff_lt_or_eq.1 hz with h | rfl; exact Hq.out z h; exact Hi.out)⟩
            case measure => simp [intOf]; omega
          · cases ho : onceB f q
            · have Hi : Hid (twosOk f = false) := Lib.hid (by
                rw [Htw.out, List.all_eq_false]; exact ⟨q, List.mem_range.2 hlt3, by rw [hi, ho]; simp⟩)
              go_wp2_with (first | (go_at_call 86; ((with_reducible refine (ref07_once f _ _ q _ hf (h1.mono (by (repeat (first | (with_reducible exact Grow.refl _) | assumption | refine Grow.ext ?_ _ | refine Grow.alloc ?_ _ | refine Grow.drew ?_ | refine Grow.setCell ?_ (by first | (simp; done) | (simp; omega)) _ | refine Grow.trans ?_ (by assumption))))) (h2.mono (by (repeat (first | (with_reducible exact Grow.refl _) | assumption | refine Grow.ext ?_ _ | refine Grow.alloc ?_ _ | refine Grow.drew ?_ | refine Grow.setCell ?_ (by first | (simp; done) | (simp; omega)) _ | refine Grow.trans ?_ (by assumption))))) Hmd.out hlt3).mono ?_); rintro e w4 ⟨rfl, hb4⟩; obtain ⟨x4, rfl⟩ := ext_of_grow hb4; clear hb4)))
              go_ret
              refine Ret.int ?_ (by (repeat (first | (with_reducible exact Grow.refl _) | assumption | refine Grow.ext ?_ _ | refine Grow.alloc ?_ _ | refine Grow.drew ?_ | refine Grow.setCell ?_ (by first | (simp; done) | (simp; omega)) _ | refine Grow.trans ?_ (by assumption))))
              simp [fnErr, Hs.out, Hmd.out, Hi.out]
            · have Hi : Hid ((!decide ((q : Int) ∈ isF f) || onceB f q) = true) := Lib.hid (by rw [ho]; simp)
              go_wp2_with (first | (go_at_call 86; ((with_reducible refine (ref07_once f _ _ q _ hf (h1.mono (by (repeat (first | (with_reducible exact Grow.refl _) | assumption | refine Grow.ext ?_ _ | refine Grow.alloc ?_ _ | refine Grow.drew ?_ | refine Grow.setCell ?_ (by first | (simp; done) | (simp; omega)) _ | refine Grow.trans ?_ (by assumption))))) (h2.mono (by (repeat (first | (with_reducible exact Grow.refl _) | assumption | refine Grow.ext ?_ _ | refine Grow.alloc ?_ _ | refine Grow.drew ?_ | refine Grow.setCell ?_ (by first | (simp; done) | (simp; omega)) _ | refine Grow.trans ?_ (by assumption))))) Hmd.out hlt3).mono ?_); rintro e w4 ⟨rfl, hb4⟩; obtain ⟨x4, rfl⟩ := ext_of_grow hb4; clear hb4)))
              go_roundw
              case rel => exact ⟨q + 1, by omega, by go_num, (by (repeat (first | (with_reducible exact Grow.refl _) | assumption | refine Grow.ext ?_ _ | refine Grow.alloc ?_ _ | refine Grow.drew ?_ | refine Grow.setCell ?_ (by first | (simp; done) | (simp; omega)) _ | refine Grow.trans ?_ (by assumption)))), Lib.hid (fun z hz => by rcases Nat.lt_succ_iff_lt_or_eq.1 hz with h | rfl; exact Hq.out z h; exact Hi.out)⟩
              case measure => simp [intOf]; omega
        · have Hi : Hid (twosOk f = true) := Lib.hid (by
            rw [Htw.out, List.all_eq_true]; intro z hz; exact Hq.out z (by have := List.mem_range.1 hz; omega))
          go_wp2_with fail
          go_ret
          refine Ret.int ?_ (by (repeat (first | (with_reducible exact Grow.refl _) | assumption | refine Grow.ext ?_ _ | refine Grow.alloc ?_ _ | refine Grow.drew ?_ | refine Grow.setCell ?_ (by first | (simp; done) | (simp; omega)) _ | refine Grow.trans ?_ (by assumption))))
          simp [fnErr, Hs.out, Hmd.out, Hi.out]
end Go.Proofs.Ytiikhfjdpaofdaa
