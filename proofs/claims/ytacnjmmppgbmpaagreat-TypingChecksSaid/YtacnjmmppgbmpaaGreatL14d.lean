/- Layer 14: the reference of rvalues. -/
import Derived.Test.YtacnjmmppgbmpaaGreatL14c
namespace Go.Proofs.YtacnjmmppgbmpaaGreat
open Go.RowKit
set_option linter.unusedSimpArgs false
set_option linter.unusedVariables false

theorem slT_Type : SlT Tryz.prog 30 56 2 2 := SlT.mk' (z := .agg #[.int .u8 0, .int .u8 0]) Tryz.underlying30 (by kernel_rfl) rfl (by omega)

def Rng (lo hi b : Nat) : Prop := lo ≤ b ∧ b < hi
theorem Sl.rng {α : Type} [Rp α] {lo : Nat} {w : World} {v : Value} {xs : List α} (h : Sl (Fr (fun _ => False) lo) w v xs) : Sl (Rng lo w.heap.size) w v xs :=
  h.wide fun b hb hF => ⟨by rcases hF with q | q; exact q.elim; exact q, hb⟩

theorem opTy_err {ts : List Ty} {o : Opd} (h : (opTy ts o).2 ≠ 0) : opTy ts o = (⟨0, 0⟩, (opTy ts o).2) := by
  unfold opTy at *; grind
theorem plaTy_tyOk {ts : List Ty} {p : Pl} (h : (plaTy ts p).2 = 0) : TyOk (plaTy ts p).1 := by
  have h0 := plaTy_ok h
  obtain ⟨h1, h2, h3⟩ := plaErr_ok h0
  have ht : TyOk (locAt ts p) := by
    have hk : p.loc.toNat < ts.length := by omega
    have : ts[p.loc.toNat]? = some (locAt ts p) := by unfold locAt; simp [List.getD_eq_getElem?_getD, List.getElem?_eq_getElem hk]
    exact locOk_at h1 this
  have e : plaTy ts p = tyOut (typed (locAt ts p) p) := by unfold plaTy; rw [if_neg (by simpa using h0)]
  rw [e] at h ⊢
  clear e h0 h1 h2 h3
  generalize locAt ts p = t at *
  obtain ⟨a, b⟩ := t
  obtain ⟨l, d, f⟩ := p
  cases d
  · by_cases hf : f = 0
    · simp [typed, drf, hf, tyOut] at h ⊢; exact ht
    · by_cases h2 : a = 2
      · simp [typed, drf, hf, tyOut, h2]; exact Or.inl ⟨Or.inl rfl, rfl⟩
      · simp [typed, drf, hf, tyOut, h2] at h
  · by_cases h3 : 3 ≤ a
    · have hb : b = 1 ∨ b = 2 := by rcases ht with q | q; simp at q; omega; exact q.2
      by_cases hf : f = 0
      · simp [typed, drf, hf, tyOut, h3]; exact Or.inl ⟨hb, rfl⟩
      · by_cases h2 : b = 2
        · simp [typed, drf, hf, tyOut, h2, h3]; exact Or.inl ⟨Or.inl rfl, rfl⟩
        · simp [typed, drf, hf, tyOut, h2, h3] at h
    · simp [typed, drf, tyOut, h3] at h
theorem opTy_ok {ts : List Ty} {o : Opd} (h : (opTy ts o).2 = 0) : TyOk (opTy ts o).1 := by
  have := @plaTy_tyOk ts o.pl
  unfold opTy at *
  by_cases h1 : o.kind = 1
  · rw [if_pos h1]; exact Or.inl ⟨Or.inl rfl, rfl⟩
  rw [if_neg h1] at h ⊢
  by_cases h2 : (plaTy ts o.pl).2 ≠ 0
  · rw [if_pos h2] at h; exact absurd h h2
  rw [if_neg h2] at h ⊢
  by_cases h3 : ((o.kind == 3) != ((plaTy ts o.pl).1.kind == 4)) = true
  · rw [if_pos h3] at h; exact absurd h (by decide)
  rw [if_neg h3]; exact this (by simpa using h2)
theorem intsErr2 {ts : List Ty} {a b : Opd} (ha : (opTy ts a).2 = 0) (hb : (opTy ts b).2 = 0) : intsErr ts [a, b] = if (opTy ts a).1.kind = 1 ∧ (opTy ts b).1.kind = 1 then 0 else 42 := by
  have h1 := opTy_ok ha; have h2 := opTy_ok hb
  simp only [intsErr, intsL, ha, hb]
  generalize (opTy ts a).1 = x at *
  generalize (opTy ts b).1 = y at *
  grind
theorem tyOk_wf {t : Ty} (h : TyOk t) : t.wf := ⟨⟨by omega, by omega⟩, ⟨by omega, by omega⟩⟩
theorem rv_kinds {r : Rv} (h : rvOk r = true) : r.kind = 1 ∨ r.kind = 2 ∨ r.kind = 3 ∨ r.kind = 4 ∨ r.kind = 5 := by unfold rvOk at h; grind
theorem rv_part {r : Rv} {o : Opd} (h : rvOk r = true) (ho : o ∈ rvParts r) : o.kind = 1 ∨ o.kind = 2 ∨ o.kind = 3 := by
  have : opdErr o = 0 := by unfold rvOk at h; unfold rvParts at ho; grind
  have := (opdErr_iff o).1 this; rcases this with q | q; exact Or.inl q.1; exact Or.inr q.1
theorem rvTy_bad {ts : List Ty} {r : Rv} {o : Opd} {k : Nat} (hg : (rvParts r)[k]? = some o) (hp : ∀ q ∈ (rvParts r).take k, (opTy ts q).2 = 0) (h : (opTy ts o).2 ≠ 0) : rvTy ts r = (⟨0, 0⟩, (opTy ts o).2) := by
  have he := opTy_err h
  unfold rvTy
  by_cases h1 : r.kind = 1
  · rw [if_pos h1]
    simp only [rvParts, h1, if_true] at hg
    have : o = r.a := by cases k <;> simp at hg; exact hg.symm
    rw [← this]; exact he
  · by_cases h2 : r.kind = 2 ∨ r.kind = 3
    · have hi : intsErr ts [r.a, r.b] = (opTy ts o).2 := by
        simp only [rvParts, h1, h2, if_true, if_false] at hg hp
        match k, hg with
        | 0, hg => simp at hg; subst hg; simp [intsErr, intsL, h]
        | 1, hg => simp at hg; subst hg; have := hp r.a (by simp); simp [intsErr, intsL, h, this]
      rw [if_neg h1]
      by_cases h3 : r.kind = 3
      · rw [if_pos h3, hi, if_pos h]
      · rw [if_neg h3, if_pos (by omega), hi, if_pos h]
    · simp [rvParts, h1, h2] at hg
theorem oks_step {ts : List Ty} {l : List Opd} {k : Nat} {o : Opd} (hg : Hid (l[k]? = some o)) (hp : ∀ q ∈ l.take k, (opTy ts q).2 = 0) (h : (opTy ts o).2 = 0) : ∀ q ∈ l.take (k + 1), (opTy ts q).2 = 0 := by
  intro q hq
  rw [List.take_add_one, hg.out] at hq
  simp at hq
  rcases hq with hq | rfl
  · exact hp q hq
  · exact h
theorem take_map_snoc {α β : Type} {f : α → β} {l : List α} {k : Nat} {o : α} (hg : Hid (l[k]? = some o)) : (l.take k).map f ++ [f o] = (l.take (k + 1)).map f := by
  rw [List.take_add_one, hg.out]; simp

set_option maxRecDepth 100000 in
set_option maxHeartbeats 1000000 in
theorem ref14_Taken (v : Value) (ts : List Ty) (r : Rv) (w : World) {F : Nat → Prop} (hv : Sl F w v ts) (hw : r.wf) (hok : rvOk r = true) :
    Calls Tryz.prog 58 #[v, r.v] w (Ret w (.tuple #[(rvTy ts r).1.v, .int .i64 (rvTy ts r).2])) := by
  obtain ⟨l, Hl⟩ : ∃ l, Hid (l = rvParts r) := ⟨_, rfl⟩
  have Hok := Lib.hid hok; clear hok
  go_enter Tryz.func58, Tryz.ntmps58
  go_wp2_with (first | (go_at_call 81; ((with_reducible refine (ref04_Parts r _ hw).mono ?_); rintro e w1 ⟨v1, rfl, hs1, hb1⟩; obtain ⟨x1, rfl⟩ := ext_of_grow hb1; clear hb1; obtain ⟨a1, n1, cap1, rfl, Hn1, hm1, hcap1, hcm1, hs1⟩ := hs1.open)))
  rw [← Hl.out] at Hn1 hs1
  have hs1 := Sl.rng hs1
  simp only [alloc_size, size_ext] at hs1
  have hn2 : n1 ≤ 2 := by rw [Hn1.out, Hl.out]; exact rvParts_le r
  go_loopw [7, 8] (fun tv i wr => ∃ k : Nat, k ≤ n1 ∧ i = .int .i64 k ∧
      (∃ x, wr = ext ((w.alloc (.cells #[.int .u8 r.kind, .int .u8 r.op, .int .u8 r.bo, .int .u8 r.a.kind, .int .i64 r.a.n, .int .i64 r.a.pl.loc, .bool r.a.pl.deref, .int .u8 r.a.pl.field, .int .u8 r.b.kind, .int .i64 r.b.n, .int .i64 r.b.pl.loc, .bool r.b.pl.deref, .int .u8 r.b.pl.field, .int .i64 r.pl.loc, .bool r.pl.deref, .int .u8 r.pl.field] 45)).alloc (.cells #[.int .u8 0, .int .u8 0] 56)) x) ∧
      w.heap.size + 1 + 1 + x1.k ≤ wr.heap.size ∧ Own (fun _ => False) (w.heap.size + 1 + 1 + x1.k) 56 wr tv ((l.take k).map fun o => (opTy ts o).1) ∧
      Sl (Rng (w.heap.size + 1 + 1) (w.heap.size + 1 + 1 + x1.k)) wr (.slice a1 n1 cap1) l ∧ Hid (∀ q ∈ l.take k, (opTy ts q).2 = 0)) (fun _ i _ => n1 - (intOf i).toNat)
  case atStart => exact ⟨0, Nat.zero_le _, rfl, ⟨x1, rfl⟩, by simp, Own.nil _ _ _ _, hs1, fun q hq => by simp at hq⟩
  case round =>
    obtain ⟨k, hk, rfl, ⟨x, rfl⟩, hsz, hown, hs, Ha⟩ := hrel
    simp only [size_ext, alloc_size] at hsz
    by_cases hlt : k < n1
    · obtain ⟨b_o, off_o, o, rfl, ⟨Hg_o, hl_o, hw_o, c_o0, c_o1, c_o2, c_o3, c_o4, r_o0, r_o1⟩⟩ := hs.opd k hlt
      have Hk : Hid (o.kind = 1 ∨ o.kind = 2 ∨ o.kind = 3) := rv_part Hok.out (by rw [← Hl.out]; exact List.mem_of_getElem? Hg_o.out)
      by_cases he : (opTy ts o).2 = 0
      · have hwf := tyOk_wf (opTy_ok he)
        go_wp2_with (first | (go_at_call 61; ((with_reducible refine (ref14_Told _ ts o _ (hv.mono (by (repeat (first | (with_reducible exact Grow.refl _) | assumption | refine Grow.ext ?_ _ | refine Grow.alloc ?_ _ | refine Grow.drew ?_ | refine Grow.setCell ?_ (by first | (simp; done) | (simp; omega)) _ | refine Grow.trans ?_ (by assumption))))) hw_o Hk.out).mono ?_); rintro e w2 ⟨rfl, hb2⟩; obtain ⟨x2, rfl⟩ := ext_of_grow hb2; clear hb2)) | (at_builtin; refine wpList_app1 (α := Ty) slT_Type rfl rfl rfl hown (by (repeat (first | (with_reducible exact Grow.refl _) | assumption | refine Grow.ext ?_ _ | refine Grow.alloc ?_ _ | refine Grow.drew ?_ | refine Grow.setCell ?_ (by first | (simp; done) | (simp; omega)) _ | refine Grow.trans ?_ (by assumption)))) (by simp) (by simp; omega) rfl (y := (opTy ts o).1) (Gy := fun _ => False) ⟨rfl, hwf⟩ (fun _ h => h.elim) (by (repeat (refine CellsAt.cons (by go_simp) ?_)); exact CellsAt.nil _ _ _) (by simp [Value.oneCell']) (by simp; omega) (by simp; omega) ?_; intro tv' x' hown' hsz' hagr))
        go_roundw
        case rel =>
          refine ⟨k + 1, by omega, by go_num, ⟨x', rfl⟩, ?_, ?_, ?_, oks_step Hg_o Ha he⟩
          · simp only [size_ext, alloc_size] at hsz' ⊢; omega
          · rw [← take_map_snoc Hg_o]; exact hown'
          · exact hs.keep (hagr _ (fun q hq _ e => by have := hown.row_lt q e; unfold Rng at hq; omega))
        case measure => simp [intOf]; omega
      · have he' : ((opTy ts o).2 != 0) = true := by simpa using he
        have He := Lib.hid he; clear he
        go_wp2_with (first | (go_at_call 61; ((with_reducible refine (ref14_Told _ ts o _ (hv.mono (by (repeat (first | (with_reducible exact Grow.refl _) | assumption | refine Grow.ext ?_ _ | refine Grow.alloc ?_ _ | refine Grow.drew ?_ | refine Grow.setCell ?_ (by first | (simp; done) | (simp; omega)) _ | refine Grow.trans ?_ (by assumption))))) hw_o Hk.out).mono ?_); rintro e w2 ⟨rfl, hb2⟩; obtain ⟨x2, rfl⟩ := ext_of_grow hb2; clear hb2)))
        ((try simp only [Exit.inBlock, Exit.then]); refine post_of (by simp only [results, Tryz.results58]; go_simp; rfl) rfl (by (repeat (first | (with_reducible exact Grow.refl _) | assumption | refine Grow.ext ?_ _ | refine Grow.alloc ?_ _ | refine Grow.drew ?_ | refine Grow.setCell ?_ (by first | (simp; done) | (simp; omega)) _ | refine Grow.trans ?_ (by assumption)))) ?_)
        rw [rvTy_bad (by rw [← Hl.out]; exact Hg_o.out) (by rw [← Hl.out]; exact Ha.out) He.out]
    · have hkn : k = n1 := by omega
      have htk : l.take k = l := List.take_of_length_le (by rw [← Hn1.out]; omega)
      rw [htk] at Ha hown
      have Hall := Ha
      have hts := hown.sl
      clear hown Ha hs hs1 htk
      rw [Hl.out] at hts Hall
      obtain ⟨a2, n2, cap2, rfl, Hn2, hm2, hcap2, hcm2, hts⟩ := hts.open
      clear Hl Hn1
      obtain ⟨rk, op, bo, a, b, pl⟩ := r
      have hkd := rv_kinds Hok.out
      have Hpf := Lib.hid hw.pl.field.1
      rcases hkd with rfl | rfl | rfl | rfl | rfl
      · obtain rfl : n2 = 1 := by rw [Hn2.out]; simp [rvParts]
        obtain ⟨b_t, off_t, t, rfl, ⟨Hg_t, hl_t, hw_t, c_t0, c_t1, r_t0⟩⟩ := hts.ty 0 (by omega)
        have Ht : Hid (t = (opTy ts a).1) := by have := Hg_t.out; simp [rvParts] at this; exact this.symm
        have Hs : Hid (rvTy ts ⟨1, op, bo, a, b, pl⟩ = (t, 0)) := by
          show _ = _; unfold rvTy; rw [if_pos rfl, Ht.out, ← Hall.out a (by simp [rvParts])]
        simp only [Nat.zero_mul, Nat.add_zero] at c_t0 c_t1 r_t0
        go_wp2_with fail
        ((try simp only [Exit.inBlock, Exit.then]); refine post_of (by simp only [results, Tryz.results58]; go_simp; rfl) rfl (by (repeat (first | (with_reducible exact Grow.refl _) | assumption | refine Grow.ext ?_ _ | refine Grow.alloc ?_ _ | refine Grow.drew ?_ | refine Grow.setCell ?_ (by first | (simp; done) | (simp; omega)) _ | refine Grow.trans ?_ (by assumption)))) ?_)
        rw [Hs.out]
      · obtain rfl : n2 = 2 := by rw [Hn2.out]; simp [rvParts]
        have Ha2 := Hall.out a (by simp [rvParts]); have Hb2 := Hall.out b (by simp [rvParts])
        have Hs : Hid (rvTy ts ⟨2, op, bo, a, b, pl⟩ = if (opTy ts a).1.kind = 1 ∧ (opTy ts b).1.kind = 1 then (⟨1, 0⟩, 0) else (⟨0, 0⟩, 42)) := by
          show _ = _; unfold rvTy; rw [if_neg (by show ¬ (2 : Int) = 1; decide), if_neg (by show ¬ (2 : Int) = 3; decide), if_pos rfl, intsErr2 Ha2 Hb2]; split <;> rfl
        clear Ha2 Hb2
        go_wp2_with fail
        go_loop [11] (fun i => ∃ j : Nat, j ≤ 2 ∧ i = .int .i64 j ∧ Hid (∀ q : Nat, q < j → ∀ z, ((rvParts ⟨2, op, bo, a, b, pl⟩).map fun o => (opTy ts o).1)[q]? = some z → z.kind = 1)) (fun i => 2 - (intOf i).toNat)
        case atStart => exact ⟨0, by omega, rfl, fun q hq => by omega⟩
        case round =>
          obtain ⟨j, hj, rfl, Hj⟩ := hrel
          by_cases hj2 : j < 2
          · obtain ⟨b_t, off_t, t, rfl, ⟨Hg_t, hl_t, hw_t, c_t0, c_t1, r_t0⟩⟩ := hts.ty j hj2
            go_wp2_with fail
            · ((try simp only [Exit.inBlock, Exit.then]); refine post_of (by simp only [results, Tryz.results58]; go_simp; rfl) rfl (by (repeat (first | (with_reducible exact Grow.refl _) | assumption | refine Grow.ext ?_ _ | refine Grow.alloc ?_ _ | refine Grow.drew ?_ | refine Grow.setCell ?_ (by first | (simp; done) | (simp; omega)) _ | refine Grow.trans ?_ (by assumption)))) ?_)
              rw [Hs.out, if_neg]
              rintro ⟨z1, z2⟩
              have := Hg_t.out
              obtain rfl | rfl : j = 0 ∨ j = 1 := by omega
              all_goals (simp [rvParts] at this; subst this; go_light; grind)
            · go_round
              case rel => exact ⟨j + 1, by omega, by go_num, fun q hq z hz => by
                by_cases e : q = j
                · subst e; rw [Hg_t.out] at hz; injection hz with hz; subst hz; go_light; grind
                · exact Hj.out q (by omega) z hz⟩
              case measure => simp [intOf]; omega
          · obtain rfl : j = 2 := by omega
            have e1 := Hj.out 0 (by omega) (opTy ts a).1 (by simp [rvParts]); have e2 := Hj.out 1 (by omega) (opTy ts b).1 (by simp [rvParts])
            have Hs2 : Hid (rvTy ts ⟨2, op, bo, a, b, pl⟩ = (⟨1, 0⟩, 0)) := by show _ = _; rw [Hs.out, if_pos ⟨e1, e2⟩]
            clear e1 e2
            go_wp2_with fail
            ((try simp only [Exit.inBlock, Exit.then]); refine post_of (by simp only [results, Tryz.results58]; go_simp; rfl) rfl (by (repeat (first | (with_reducible exact Grow.refl _) | assumption | refine Grow.ext ?_ _ | refine Grow.alloc ?_ _ | refine Grow.drew ?_ | refine Grow.setCell ?_ (by first | (simp; done) | (simp; omega)) _ | refine Grow.trans ?_ (by assumption)))) ?_)
            rw [Hs2.out]
      · obtain rfl : n2 = 2 := by rw [Hn2.out]; simp [rvParts]
        have Ha2 := Hall.out a (by simp [rvParts]); have Hb2 := Hall.out b (by simp [rvParts])
        have Hs : Hid (rvTy ts ⟨3, op, bo, a, b, pl⟩ = if (opTy ts a).1.kind = 1 ∧ (opTy ts b).1.kind = 1 then (⟨2, 0⟩, 0) else (⟨0, 0⟩, 42)) := by
          show _ = _; unfold rvTy; rw [if_neg (by show ¬ (3 : Int) = 1; decide), if_pos rfl, intsErr2 Ha2 Hb2]; split <;> rfl
        clear Ha2 Hb2
        go_wp2_with fail
        go_loop [11] (fun i => ∃ j : Nat, j ≤ 2 ∧ i = .int .i64 j ∧ Hid (∀ q : Nat, q < j → ∀ z, ((rvParts ⟨3, op, bo, a, b, pl⟩).map fun o => (opTy ts o).1)[q]? = some z → z.kind = 1)) (fun i => 2 - (intOf i).toNat)
        case atStart => exact ⟨0, by omega, rfl, fun q hq => by omega⟩
        case round =>
          obtain ⟨j, hj, rfl, Hj⟩ := hrel
          by_cases hj2 : j < 2
          · obtain ⟨b_t, off_t, t, rfl, ⟨Hg_t, hl_t, hw_t, c_t0, c_t1, r_t0⟩⟩ := hts.ty j hj2
            go_wp2_with fail
            · ((try simp only [Exit.inBlock, Exit.then]); refine post_of (by simp only [results, Tryz.results58]; go_simp; rfl) rfl (by (repeat (first | (with_reducible exact Grow.refl _) | assumption | refine Grow.ext ?_ _ | refine Grow.alloc ?_ _ | refine Grow.drew ?_ | refine Grow.setCell ?_ (by first | (simp; done) | (simp; omega)) _ | refine Grow.trans ?_ (by assumption)))) ?_)
              rw [Hs.out, if_neg]
              rintro ⟨z1, z2⟩
              have := Hg_t.out
              obtain rfl | rfl : j = 0 ∨ j = 1 := by omega
              all_goals (simp [rvParts] at this; subst this; go_light; grind)
            · go_round
              case rel => exact ⟨j + 1, by omega, by go_num, fun q hq z hz => by
                by_cases e : q = j
                · subst e; rw [Hg_t.out] at hz; injection hz with hz; subst hz; go_light; grind
                · exact Hj.out q (by omega) z hz⟩
              case measure => simp [intOf]; omega
          · obtain rfl : j = 2 := by omega
            have e1 := Hj.out 0 (by omega) (opTy ts a).1 (by simp [rvParts]); have e2 := Hj.out 1 (by omega) (opTy ts b).1 (by simp [rvParts])
            have Hs2 : Hid (rvTy ts ⟨3, op, bo, a, b, pl⟩ = (⟨2, 0⟩, 0)) := by show _ = _; rw [Hs.out, if_pos ⟨e1, e2⟩]
            clear e1 e2
            go_wp2_with fail
            ((try simp only [Exit.inBlock, Exit.then]); refine post_of (by simp only [results, Tryz.results58]; go_simp; rfl) rfl (by (repeat (first | (with_reducible exact Grow.refl _) | assumption | refine Grow.ext ?_ _ | refine Grow.alloc ?_ _ | refine Grow.drew ?_ | refine Grow.setCell ?_ (by first | (simp; done) | (simp; omega)) _ | refine Grow.trans ?_ (by assumption)))) ?_)
            rw [Hs2.out]
      · obtain rfl : n2 = 0 := by rw [Hn2.out]; simp [rvParts]
        have Hs : Hid (rvTy ts ⟨4, op, bo, a, b, pl⟩ = borTy ts ⟨4, op, bo, a, b, pl⟩) := by
          show _ = _; unfold rvTy; rw [if_neg (by show ¬ (4 : Int) = 1; decide), if_neg (by show ¬ (4 : Int) = 3; decide), if_neg (by show ¬ (4 : Int) = 2; decide)]
        have Ht := @plaTy_tyOk ts pl
        have HT := Lib.hid Ht; clear Ht
        go_wp2_with (first | (go_at_call 83; ((with_reducible refine (ref13_Type _ ts pl _ (hv.mono (by (repeat (first | (with_reducible exact Grow.refl _) | assumption | refine Grow.ext ?_ _ | refine Grow.alloc ?_ _ | refine Grow.drew ?_ | refine Grow.setCell ?_ (by first | (simp; done) | (simp; omega)) _ | refine Grow.trans ?_ (by assumption)))))).mono ?_); rw [tyR_eq ts pl Hpf.out]; rintro e w3 ⟨rfl, hb3⟩; obtain ⟨x3, rfl⟩ := ext_of_grow hb3; clear hb3)) | (go_at_call 84; ((with_reducible refine (ref13_Write _ ts pl _ (hv.mono (by (repeat (first | (with_reducible exact Grow.refl _) | assumption | refine Grow.ext ?_ _ | refine Grow.alloc ?_ _ | refine Grow.drew ?_ | refine Grow.setCell ?_ (by first | (simp; done) | (simp; omega)) _ | refine Grow.trans ?_ (by assumption)))))).mono ?_); rw [writeR_eq ts pl Hpf.out]; rintro e w4 ⟨rfl, hb4⟩; obtain ⟨x4, rfl⟩ := ext_of_grow hb4; clear hb4)))
        all_goals ((try simp only [Exit.inBlock, Exit.then]); refine post_of (by simp only [results, Tryz.results58]; go_simp; rfl) rfl (by (repeat (first | (with_reducible exact Grow.refl _) | assumption | refine Grow.ext ?_ _ | refine Grow.alloc ?_ _ | refine Grow.drew ?_ | refine Grow.setCell ?_ (by first | (simp; done) | (simp; omega)) _ | refine Grow.trans ?_ (by assumption)))) ?_)
        all_goals (rw [Hs.out]; go_light; have hT := HT.out; clear hts Hn2 hw Hok Hall Hs HT; grind [borTy])
      · obtain rfl : n2 = 0 := by rw [Hn2.out]; simp [rvParts]
        have Hs : Hid (rvTy ts ⟨5, op, bo, a, b, pl⟩ = borTy ts ⟨5, op, bo, a, b, pl⟩) := by
          show _ = _; unfold rvTy; rw [if_neg (by show ¬ (5 : Int) = 1; decide), if_neg (by show ¬ (5 : Int) = 3; decide), if_neg (by show ¬ (5 : Int) = 2; decide)]
        have Ht := @plaTy_tyOk ts pl
        have HT := Lib.hid Ht; clear Ht
        go_wp2_with (first | (go_at_call 83; ((with_reducible refine (ref13_Type _ ts pl _ (hv.mono (by (repeat (first | (with_reducible exact Grow.refl _) | assumption | refine Grow.ext ?_ _ | refine Grow.alloc ?_ _ | refine Grow.drew ?_ | refine Grow.setCell ?_ (by first | (simp; done) | (simp; omega)) _ | refine Grow.trans ?_ (by assumption)))))).mono ?_); rw [tyR_eq ts pl Hpf.out]; rintro e w3 ⟨rfl, hb3⟩; obtain ⟨x3, rfl⟩ := ext_of_grow hb3; clear hb3)) | (go_at_call 84; ((with_reducible refine (ref13_Write _ ts pl _ (hv.mono (by (repeat (first | (with_reducible exact Grow.refl _) | assumption | refine Grow.ext ?_ _ | refine Grow.alloc ?_ _ | refine Grow.drew ?_ | refine Grow.setCell ?_ (by first | (simp; done) | (simp; omega)) _ | refine Grow.trans ?_ (by assumption)))))).mono ?_); rw [writeR_eq ts pl Hpf.out]; rintro e w4 ⟨rfl, hb4⟩; obtain ⟨x4, rfl⟩ := ext_of_grow hb4; clear hb4)))
        all_goals ((try simp only [Exit.inBlock, Exit.then]); refine post_of (by simp only [results, Tryz.results58]; go_simp; rfl) rfl (by (repeat (first | (with_reducible exact Grow.refl _) | assumption | refine Grow.ext ?_ _ | refine Grow.alloc ?_ _ | refine Grow.drew ?_ | refine Grow.setCell ?_ (by first | (simp; done) | (simp; omega)) _ | refine Grow.trans ?_ (by assumption)))) ?_)
        all_goals (rw [Hs.out]; go_light; have hT := HT.out; clear hts Hn2 hw Hok Hall Hs HT; grind [borTy])
end Go.Proofs.YtacnjmmppgbmpaaGreat
