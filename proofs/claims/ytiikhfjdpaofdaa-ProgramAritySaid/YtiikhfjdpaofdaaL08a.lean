/- Layer 8: the law of arity. -/
import Derived.Test.YtiikhfjdpaofdaaL08l
import Derived.Test.YtiikhfjdpaofdaaL08d
import Derived.Test.YtiikhfjdpaofdaaL08z
namespace Go.Proofs.Ytiikhfjdpaofdaa
open Go.RowKit
set_option linter.unusedSimpArgs false
set_option linter.unusedVariables false

/-- A world seen with one of its newer blocks in sight. -/
theorem split_at {W : World} {x : Ext} {R : Nat} {o : Obj} (h : (ext W x).heap[R]? = some o) (hR : W.heap.size ≤ R) : ∃ xa xb, R = W.heap.size + xa.k ∧ ext W x = ext ((ext W xa).alloc o) xb := by
  have hlt : R < (W.heap ++ x.x).size := (Array.getElem?_eq_some_iff.1 h).1
  have hsz : (W.heap ++ x.x).size = W.heap.size + x.x.size := by simp
  refine ⟨⟨0, x.x.extract 0 (R - W.heap.size)⟩, ⟨x.d, x.x.extract (R - W.heap.size + 1) x.x.size⟩, by unfold Ext.k; simp; omega, ?_⟩
  simp only [ext, World.alloc]
  congr 1
  have h' : (W.heap ++ x.x)[R]? = some o := h
  apply Array.ext_getElem?
  intro i
  by_cases h1 : i < W.heap.size
  · rw [Array.getElem?_append_left h1, Array.getElem?_append_left (by simp; omega), Array.getElem?_push, if_neg (by simp; omega), Array.getElem?_append_left h1]
  · rw [Array.getElem?_append_right (by omega)]
    by_cases h2 : i < R
    · rw [Array.getElem?_append_left (by simp; omega), Array.getElem?_push, if_neg (by simp; omega), Array.getElem?_append_right (by omega), Array.getElem?_extract, if_pos (by omega)]; congr 1; omega
    · by_cases h3 : i = R
      · subst h3
        rw [Array.getElem?_append_left (by simp; omega), Array.getElem?_push, if_pos (by simp; omega)]
        rw [Array.getElem?_append_right (by omega)] at h'; exact h'
      · rw [Array.getElem?_append_right (by simp; omega), Array.getElem?_extract]
        simp only [Array.size_push, Array.size_append, Array.size_extract]
        by_cases h4 : i < W.heap.size + x.x.size
        · rw [if_pos (by omega)]; congr 1; omega
        · rw [if_neg (by omega), Array.getElem?_eq_none (by omega)]
theorem twin_a (p : Pr) (pv : Value) (w : World) {F : Nat → Prop} (hp : Sl F w pv p.funcs) (hsm : bigPr 12 p = false) :
    Calls Try.prog 16 #[p.v pv] w (RetP w fun v w' => ∃ ua un uc fss, v = p.v (.slice ua un uc) ∧ Hid (fss.map FnS.f = p.funcs ∧ Rising fss) ∧ Own (fun _ => False) w.heap.size 49 w' (.slice ua un uc) fss) := ref08_Twin p pv w hp hsm
theorem wpList_appG {α : Type} [Rp α] {P : Program} {ops : Array Oper} {rest : List Oper} {o : Oper} {a : Act} {w : World} {Q : Exit → Act → World → Prop} {s x : Operand} {t e : TypeId} {bytes : Nat}
    (T : SlT P t e (Rp.sz α) bytes) (hgd : o.guard = none) (ho : o.op = .call { callee := .builtin .append, args := #[s, x], argTypes := #[t, t] })
    {F : Nat → Prop} {base : Nat} {v : Value} {xs : List α} (hs : a.eval s = v) (hown : Own F base e w v xs) (hbs : base ≤ w.heap.size)
    {b off c : Nat} (hx : a.eval x = .slice (some ⟨b, off, none⟩) 1 c) {y : α} {cs : List Value} {Gy : Nat → Prop} (hR : Rp.R Gy w y cs) (hGy : ∀ k, Gy k → k < w.heap.size ∧ (F k ∨ base ≤ k) ∧ v.ownBlock ≠ some k)
    (hc : CellsAt w b off cs) (h1 : cs.all (·.oneCell') = true) (hlen : (xs.length + 1) * bytes ≤ 140737488355328) (hlen' : xs.length + 1 ≤ 140737488355328)
    (h : ∀ v' w', Own F base e w' v' (xs ++ [y]) → w.grownBy w' v.ownBlock → (v'.ownBlock = v.ownBlock ∨ v'.ownBlock = some w.heap.size) → wpList P ops Q rest (a.put o.dst v') w') : wpList P ops Q (o :: rest) a w := by
  obtain ⟨G, css, hG, hl, hRs, hn, hor⟩ := hown
  have hcl : cs.length = Rp.sz α := Rp.len hR
  obtain ⟨v', w', hr, h2, h3, h4⟩ := run_app (P := P) w base t o.type e _ bytes T v _ _ hor ⟨b, off, none⟩ 1 c cs (by rw [hcl]; simp) (fun j u hu => by
    obtain ⟨hj, rfl⟩ := List.getElem?_eq_some_iff.1 hu
    rw [Addr.add_lit]; exact hc j hj) (fun u hu => (List.all_eq_true.1 h1) u hu) (by omega) hlen hlen' hbs
  have hOwn : Own F base e w' v' (xs ++ [y]) := Own.snoc (ds := [cs]) (Gy := Gy) hG hl hRs hGy rfl (fun i h h' => match i, h with | 0, _ => hR) hlen' (by simpa using h2) h3 h4
  refine wpList_plain hgd fun _ hK => ?_
  unfold Oper.wp execOp
  simp only [ho, resolve, invoke, builtin, Sem.run_bind, Sem.run_pure, Result.andThen_ok, List.map_toArray, List.map_cons, List.map_nil, hs, hx, hr]
  exact hK _ _ (h v' w' hOwn h3 h4)
theorem OwnR.own {α : Type} [Rp α] [Leaf α] {lo hi base : Nat} {e : TypeId} {w : World} {v : Value} {xs : List α} (h : OwnR lo hi e w v xs) (hb : ∀ k, v.ownBlock = some k → base ≤ k) : Own (fun _ => False) base e w v xs := by
  obtain ⟨G, css, hG, hv, hl, hR, hn, h1, h2⟩ := h
  refine ⟨fun _ => False, css, fun _ h => h.elim, hl, fun i h h' => Leaf.any (hR i h h'), hn, h1, ?_⟩
  rcases h2 with h2 | ⟨g, cap, cur, rfl, hbg, hr⟩
  · exact .inl h2
  · exact .inr ⟨g, cap, cur, rfl, hb g rfl, hr⟩
theorem OwnR.row {α : Type} [Rp α] {lo hi : Nat} {e : TypeId} {w : World} {v : Value} {xs : List α} (h : OwnR lo hi e w v xs) : ∀ k, v.ownBlock = some k → lo ≤ k ∧ k < hi := by
  obtain ⟨G, css, hG, hv, _⟩ := h; exact hv
theorem Own.leafSl {α : Type} [Rp α] [Leaf α] {F : Nat → Prop} {base : Nat} {e : TypeId} {w : World} {v : Value} {xs : List α} (h : Own F base e w v xs) : Sl (fun k => v.ownBlock = some k) w v xs := by
  obtain ⟨G, css, hG, hl, hR, hn, hown⟩ := h
  rcases id hown.2 with ⟨rfl, h0⟩ | ⟨g, cap, cur, rfl, hbg, hg, hnc, hcm, hcs, htake⟩
  · obtain rfl : xs = [] := List.eq_nil_of_length_eq_zero h0
    exact Sl.nil _ _
  · refine Sl.mk rfl rfl (Array.getElem?_eq_some_iff.1 hg).1 hnc (by unfold maxLen at hcm; exact hcm) fun i hi => ?_
    refine ⟨css[i]'(by omega), Leaf.any (hR i hi (by omega)), fun j hj => ?_⟩
    have := hown.cells (g := g) rfl (i * Rp.sz α + j) _ (flatten_cells xs css hl hR i (by omega) j hj)
    rw [Addr.add_lit] at this; simpa using this
theorem row_one {w : World} {b : Nat} {v : Value} {t : TypeId} (h : w.heap[b]? = some (.cells #[v] t)) : row? w b 0 1 = some [v] := by
  unfold row?; rw [h]; rfl
theorem turn_agr {B : World} {c c' : Obj} {x : Ext} {R : Nat} (hR : R = B.heap.size) : ∀ k, k < (ext (B.alloc c) x).heap.size → k ≠ R → (ext (B.alloc c') x).heap[k]? = (ext (B.alloc c) x).heap[k]? :=
  fun k hk hne => ((AgrS.alloc (AgrS.refl (fun k => k ≠ R) B) (by simp [hR]) c c').ext x).agr k hne hk
theorem turn_size {B : World} {c c' : Obj} {x : Ext} : (ext (B.alloc c) x).heap.size = (ext (B.alloc c') x).heap.size := by simp
theorem turn_at {B : World} {c : Obj} {x : Ext} {R : Nat} (hR : R = B.heap.size) : (ext (B.alloc c) x).heap[R]? = some c := by
  subst hR
  rw [(grow_ext (B.alloc c) x).block _ (by simp)]
  exact Array.getElem?_push_size
theorem Check_at (p : Pr) (pv : Value) (w : World) {F : Nat → Prop} (hp : Sl F w pv p.funcs) {e : Int} (h : prErr p = e) : Calls Try.prog 25 #[p.v pv] w (Ret w (.int .i64 e)) := h ▸ program_Check p pv w hp
set_option maxRecDepth 100000 in
set_option maxHeartbeats 4000000 in
theorem law_ProgramArity (p : Pr) (pv : Value) (f b which : Int) (w : World) {F : Nat → Prop} (hpw : p.wf) (hp : Sl F w pv p.funcs) (hf : I64 f) (hb : I64 b) (hwh : I64 which) :
    Calls Try.prog 5 #[p.v pv, .int .i64 f, .int .i64 b, .int .i64 which] w (Ret w (.bool true)) := by
  obtain ⟨a, n, cap, rfl, Hn, hm, hcap, hcm, hp⟩ := hp.open
  cases hg : bigPr 12 p
  case true =>
    go_enter Try.func5, Try.ntmps5
    go_wp2_with (first | (go_at_call 15; ((with_reducible refine (ref08_Great p _ _ (hp.mono (by (repeat (first | (with_reducible exact Grow.refl _) | assumption | refine Grow.ext ?_ _ | refine Grow.alloc ?_ _ | refine Grow.drew ?_ | refine Grow.setCell ?_ (by first | (simp; done) | (simp; omega)) _ | refine Grow.trans ?_ (by assumption)))))).mono ?_); rintro e w1 ⟨rfl, hb1⟩; obtain ⟨x1, rfl⟩ := ext_of_grow hb1; clear hb1)) | (go_at_call 31; ((with_reducible refine (law08_alive _).mono ?_); rintro e w3 ⟨rfl, hb3⟩; obtain ⟨x3, rfl⟩ := ext_of_grow hb3; clear hb3)))
    go_ret
    exact Ret.bool rfl (by (repeat (first | (with_reducible exact Grow.refl _) | assumption | refine Grow.ext ?_ _ | refine Grow.alloc ?_ _ | refine Grow.drew ?_ | refine Grow.setCell ?_ (by first | (simp; done) | (simp; omega)) _ | refine Grow.trans ?_ (by assumption))))
  cases hpe : (prErr p != 0)
  case true =>
    go_enter Try.func5, Try.ntmps5
    go_wp2_with (first | (go_at_call 15; ((with_reducible refine (ref08_Great p _ _ (hp.mono (by (repeat (first | (with_reducible exact Grow.refl _) | assumption | refine Grow.ext ?_ _ | refine Grow.alloc ?_ _ | refine Grow.drew ?_ | refine Grow.setCell ?_ (by first | (simp; done) | (simp; omega)) _ | refine Grow.trans ?_ (by assumption)))))).mono ?_); rintro e w1 ⟨rfl, hb1⟩; obtain ⟨x1, rfl⟩ := ext_of_grow hb1; clear hb1)) | (go_at_call 26; ((with_reducible refine (ref08_Check p _ _ (hp.mono (by (repeat (first | (with_reducible exact Grow.refl _) | assumption | refine Grow.ext ?_ _ | refine Grow.alloc ?_ _ | refine Grow.drew ?_ | refine Grow.setCell ?_ (by first | (simp; done) | (simp; omega)) _ | refine Grow.trans ?_ (by assumption)))))).mono ?_); rintro e w2 ⟨rfl, hb2⟩; obtain ⟨x2, rfl⟩ := ext_of_grow hb2; clear hb2)) | (go_at_call 31; ((with_reducible refine (law08_alive _).mono ?_); rintro e w3 ⟨rfl, hb3⟩; obtain ⟨x3, rfl⟩ := ext_of_grow hb3; clear hb3)))
    go_ret
    exact Ret.bool rfl (by (repeat (first | (with_reducible exact Grow.refl _) | assumption | refine Grow.ext ?_ _ | refine Grow.alloc ?_ _ | refine Grow.drew ?_ | refine Grow.setCell ?_ (by first | (simp; done) | (simp; omega)) _ | refine Grow.trans ?_ (by assumption))))
  by_cases hf0 : f < 0
  case pos =>
    have hf0' : decide (f < 0) = true := by simpa using hf0
    go_enter Try.func5, Try.ntmps5
    go_wp2_with (first | (go_at_call 15; ((with_reducible refine (ref08_Great p _ _ (hp.mono (by (repeat (first | (with_reducible exact Grow.refl _) | assumption | refine Grow.ext ?_ _ | refine Grow.alloc ?_ _ | refine Grow.drew ?_ | refine Grow.setCell ?_ (by first | (simp; done) | (simp; omega)) _ | refine Grow.trans ?_ (by assumption)))))).mono ?_); rintro e w1 ⟨rfl, hb1⟩; obtain ⟨x1, rfl⟩ := ext_of_grow hb1; clear hb1)) | (go_at_call 26; ((with_reducible refine (ref08_Check p _ _ (hp.mono (by (repeat (first | (with_reducible exact Grow.refl _) | assumption | refine Grow.ext ?_ _ | refine Grow.alloc ?_ _ | refine Grow.drew ?_ | refine Grow.setCell ?_ (by first | (simp; done) | (simp; omega)) _ | refine Grow.trans ?_ (by assumption)))))).mono ?_); rintro e w2 ⟨rfl, hb2⟩; obtain ⟨x2, rfl⟩ := ext_of_grow hb2; clear hb2)) | (go_at_call 31; ((with_reducible refine (law08_alive _).mono ?_); rintro e w3 ⟨rfl, hb3⟩; obtain ⟨x3, rfl⟩ := ext_of_grow hb3; clear hb3)))
    go_ret
    exact Ret.bool rfl (by (repeat (first | (with_reducible exact Grow.refl _) | assumption | refine Grow.ext ?_ _ | refine Grow.alloc ?_ _ | refine Grow.drew ?_ | refine Grow.setCell ?_ (by first | (simp; done) | (simp; omega)) _ | refine Grow.trans ?_ (by assumption))))
  by_cases hb0 : b < 0
  case pos =>
    have hb0' : decide (b < 0) = true := by simpa using hb0
    go_enter Try.func5, Try.ntmps5
    go_wp2_with (first | (go_at_call 15; ((with_reducible refine (ref08_Great p _ _ (hp.mono (by (repeat (first | (with_reducible exact Grow.refl _) | assumption | refine Grow.ext ?_ _ | refine Grow.alloc ?_ _ | refine Grow.drew ?_ | refine Grow.setCell ?_ (by first | (simp; done) | (simp; omega)) _ | refine Grow.trans ?_ (by assumption)))))).mono ?_); rintro e w1 ⟨rfl, hb1⟩; obtain ⟨x1, rfl⟩ := ext_of_grow hb1; clear hb1)) | (go_at_call 26; ((with_reducible refine (ref08_Check p _ _ (hp.mono (by (repeat (first | (with_reducible exact Grow.refl _) | assumption | refine Grow.ext ?_ _ | refine Grow.alloc ?_ _ | refine Grow.drew ?_ | refine Grow.setCell ?_ (by first | (simp; done) | (simp; omega)) _ | refine Grow.trans ?_ (by assumption)))))).mono ?_); rintro e w2 ⟨rfl, hb2⟩; obtain ⟨x2, rfl⟩ := ext_of_grow hb2; clear hb2)) | (go_at_call 31; ((with_reducible refine (law08_alive _).mono ?_); rintro e w3 ⟨rfl, hb3⟩; obtain ⟨x3, rfl⟩ := ext_of_grow hb3; clear hb3)))
    go_ret
    exact Ret.bool rfl (by (repeat (first | (with_reducible exact Grow.refl _) | assumption | refine Grow.ext ?_ _ | refine Grow.alloc ?_ _ | refine Grow.drew ?_ | refine Grow.setCell ?_ (by first | (simp; done) | (simp; omega)) _ | refine Grow.trans ?_ (by assumption))))
  obtain ⟨fN, rfl⟩ := Int.eq_ofNat_of_zero_le (by omega : 0 ≤ f)
  obtain ⟨bN, rfl⟩ := Int.eq_ofNat_of_zero_le (by omega : 0 ≤ b)
  clear hf0 hb0
  have Hok : Hid (prErr p = 0) := Lib.hid (by simpa using hpe)
  have Hg := Lib.hid hg
  have H8 := Lib.hid (pr_ok Hok.out)
  have hn8 : n ≤ 8 := by rw [Hn.out]; exact H8.out.2.1
  have hn0 : 0 < n := by rw [Hn.out]; exact H8.out.1
  go_enter Try.func5, Try.ntmps5
  go_upto_region 6 with (first | (go_at_call 15; ((with_reducible refine (ref08_Great p _ _ (hp.mono (by (repeat (first | (with_reducible exact Grow.refl _) | assumption | refine Grow.ext ?_ _ | refine Grow.alloc ?_ _ | refine Grow.drew ?_ | refine Grow.setCell ?_ (by first | (simp; done) | (simp; omega)) _ | refine Grow.trans ?_ (by assumption)))))).mono ?_); rintro e w1 ⟨rfl, hb1⟩; obtain ⟨x1, rfl⟩ := ext_of_grow hb1; clear hb1)) | (go_at_call 26; ((with_reducible refine (ref08_Check p _ _ (hp.mono (by (repeat (first | (with_reducible exact Grow.refl _) | assumption | refine Grow.ext ?_ _ | refine Grow.alloc ?_ _ | refine Grow.drew ?_ | refine Grow.setCell ?_ (by first | (simp; done) | (simp; omega)) _ | refine Grow.trans ?_ (by assumption)))))).mono ?_); rintro e w2 ⟨rfl, hb2⟩; obtain ⟨x2, rfl⟩ := ext_of_grow hb2; clear hb2)) | (go_at_call 25; ((with_reducible refine (program_Check p _ _ (hp.mono (by (repeat (first | (with_reducible exact Grow.refl _) | assumption | refine Grow.ext ?_ _ | refine Grow.alloc ?_ _ | refine Grow.drew ?_ | refine Grow.setCell ?_ (by first | (simp; done) | (simp; omega)) _ | refine Grow.trans ?_ (by assumption)))))).mono ?_); rintro e w4 ⟨rfl, hb4⟩; obtain ⟨x4, rfl⟩ := ext_of_grow hb4; clear hb4)) | (go_at_call 16; ((with_reducible refine (twin_a p _ _ (hp.mono (by (repeat (first | (with_reducible exact Grow.refl _) | assumption | refine Grow.ext ?_ _ | refine Grow.alloc ?_ _ | refine Grow.drew ?_ | refine Grow.setCell ?_ (by first | (simp; done) | (simp; omega)) _ | refine Grow.trans ?_ (by assumption))))) Hg.out).mono ?_); rintro e w5 ⟨_, rfl, ⟨ua, un, uc, fss, rfl, Hf, hown⟩, hb5⟩; obtain ⟨x5, rfl⟩ := ext_of_grow hb5; clear hb5)))
  have Hun : Hid (un = n) := Lib.hid (by
    have h1 := hown.sl.len; have h2 := congrArg List.length Hf.out.1; rw [List.length_map] at h2; rw [h1, h2, Hn.out])
  obtain rfl : un = n := Hun.out
  obtain ⟨fi, hfe⟩ : ∃ fi, fi = fN % un := ⟨_, rfl⟩
  have hfi : fi < un := by rw [hfe]; exact Nat.mod_lt _ hn0
  have hfr : Int.tmod (fN : Int) (un : Int) = (fi : Int) := by rw [hfe]; rfl
  clear hfe
  obtain ⟨x, hx⟩ : ∃ x, fss[fi]? = some x := ⟨_, List.getElem?_eq_getElem (by rw [← hown.sl.len]; exact hfi)⟩
  have Hxf : Hid (p.funcs[fi]? = some x.f) := Lib.hid (by rw [← Hf.out.1, List.getElem?_map, hx]; rfl)
  have Hfe := Lib.hid (H8.out.2.2.1 x.f (List.mem_of_getElem? Hxf.out))
  obtain ⟨bl, hbl⟩ : ∃ bl, bl = x.f.blocks.length := ⟨_, rfl⟩
  have hbl0 : 0 < bl := by have := (fn_good Hfe.out).2.1; unfold madeB at this; simp only [Bool.and_eq_true, decide_eq_true_eq] at this; omega
  obtain ⟨bi, hbe⟩ : ∃ bi, bi = bN % bl := ⟨_, rfl⟩
  have hbi : bi < bl := by rw [hbe]; exact Nat.mod_lt _ hbl0
  have hbr : Int.tmod (bN : Int) (bl : Int) = (bi : Int) := by rw [hbe]; rfl
  clear hbe
  obtain ⟨b, hb⟩ : ∃ b, x.f.blocks[bi]? = some b := ⟨_, List.getElem?_eq_getElem (by omega)⟩
  have Hb := Lib.hid hb
  obtain ⟨bA, n', capA, la, ln, lc, R, bn, bc, cur, sa, sn, sc, ja, jn, jc, lo, hi, hv, hbA, hcA, Hbn, hbnc, hbcm, hRc, hRA, hbR, hRlt, hcell, hbw, hargs, hin, hEf, hEs⟩ := own_at hown Hf.out.2 hx hb
  injection hv with v1 v2 v3
  subst v1 v2 v3
  obtain rfl : bl = bn := by rw [hbl, Hbn.out]
  obtain ⟨xa, xb, hRe, hsp⟩ := split_at hRc hbR
  have hk5 : w.heap.size + 1 + x1.k + x2.k + x4.k + x5.k = w.heap.size + 1 + x1.k + x2.k + x4.k + xa.k + 1 + xb.k := by
    have := congrArg (fun W => W.heap.size) hsp; simp only [size_ext, alloc_size] at this; omega
  rw [hk5]
  rw [hsp] at hcA hbA hargs ⊢
  simp only [size_ext, alloc_size] at hRe
  subst hRe
  have hcA3 : (ext ((ext (ext (ext (ext (w.alloc (Obj.cells #[.slice a un cap] 24)) x1) x2) x4) xa).alloc (.cells cur 68)) xb).cell? ⟨bA, fi * 4 + 3, none⟩ = some (.slice (some ⟨w.heap.size + 1 + x1.k + x2.k + x4.k + xa.k, 0, none⟩) bl bc) := hcA 3 (by simp)
  have hlA : LtW bA (ext ((ext (ext (ext (ext (w.alloc (Obj.cells #[.slice a un cap] 24)) x1) x2) x4) xa).alloc (.cells cur 68)) xb) := ⟨hbA⟩
  have hc1 : cur[bi * 14 + 1]? = some (.int .u8 b.jump.kind) := hcell 1 (by omega)
  have hc7 : cur[bi * 14 + 7]? = some (.int .i64 b.jump.fn) := hcell 7 (by omega)
  have hc10 : cur[bi * 14 + 10]? = some (.slice ja jn jc) := hcell 10 (by omega)
  have Hbl := Lib.hid hbl
  clear hbl
  have HE := Lib.hid (And.intro hEf hEs)
  have Hsp := Lib.hid hsp
  have Hin := Lib.hid hin
  clear hEf hEs hsp hin hcell hown hRc hcA hRA hbA hx hb hbR hRlt
  have hnz : ((un : Int) == 0) = false := by simp; omega
  have hbz : ((bl : Int) == 0) = false := by simp; omega
  (refine wp_region_ext (by kernel_rfl) (by kernel_rfl) ?_; (repeat (any_goals (first | go_big_quiet_step (first | fail) | (refine wpQuiet_step (fun K hK => ?_); go_simp; split <;> (refine hK _ ?_; clear hK K))))); all_goals (refine wpQuiet_nil ?_; intro w6 hb6; obtain ⟨x6, rfl⟩ := ext_of_grow hb6; clear hb6))
  go_wp2_with fail
  (refine wp_region_ext (by kernel_rfl) (by kernel_rfl) ?_; (repeat (any_goals (first | go_big_quiet_step (first | fail) | (refine wpQuiet_step (fun K hK => ?_); go_simp; split <;> (refine hK _ ?_; clear hK K))))); all_goals (refine wpQuiet_nil ?_; intro w7 hb7; obtain ⟨x7, rfl⟩ := ext_of_grow hb7; clear hb7))
  go_upto_region 8 with fail
  cases hk4 : (b.jump.kind != 4)
  case true =>
    go_wp2_with (first | (go_at_call 31; ((with_reducible refine (law08_alive _).mono ?_); rintro e w9 ⟨rfl, hb9⟩; obtain ⟨x9, rfl⟩ := ext_of_grow hb9; clear hb9)))
    go_ret
    exact Ret.bool rfl (by (repeat (first | (with_reducible exact Grow.refl _) | assumption | refine Grow.ext ?_ _ | refine Grow.alloc ?_ _ | refine Grow.drew ?_ | refine Grow.setCell ?_ (by first | (simp; done) | (simp; omega)) _ | refine Grow.trans ?_ (by assumption))))
  have H4 : Hid (b.jump.kind = 4) := Lib.hid (by simpa using hk4)
  by_cases hw0 : which = 0
  · subst hw0
    have Hjl := Lib.hid hargs.sl.len
    have hjc : jn ≤ jc ∧ jc ≤ 9223372036854775807 := by obtain ⟨_, _, _, he, _, hq, h1, h2, _⟩ := hargs.sl.open; injection he with _ e2 e3; omega
    obtain ⟨hjc1, hjc2⟩ := hjc
    by_cases hj7 : 7 < jn
    case pos =>
      have hj7' : (7 < jn) = True := by simpa using hj7
      go_wp2_with (first | (go_at_call 31; ((with_reducible refine (law08_alive _).mono ?_); rintro e w9 ⟨rfl, hb9⟩; obtain ⟨x9, rfl⟩ := ext_of_grow hb9; clear hb9)))
      go_ret
      exact Ret.bool rfl (by (repeat (first | (with_reducible exact Grow.refl _) | assumption | refine Grow.ext ?_ _ | refine Grow.alloc ?_ _ | refine Grow.drew ?_ | refine Grow.setCell ?_ (by first | (simp; done) | (simp; omega)) _ | refine Grow.trans ?_ (by assumption))))
    have hj7' : (7 < jn) = False := by simpa using hj7
    have hj7'' : ((7 : Int) < (jn : Int)) = False := by simp; omega
    clear hj7
    have Hbad : Hid (prErr (prB p fi (fnB x.f bi (bkJ b (juArgs b.jump (b.jump.args ++ [⟨1, 0, ⟨0, false, 0⟩⟩]))))) = 8) := Lib.hid (arity_more Hok.out Hxf.out Hb.out H4.out rfl)
    have hrowj := hargs.row
    have hob : ∀ k, (Value.slice ja jn jc).ownBlock = some k → w.heap.size + 1 + x1.k + x2.k + x4.k ≤ k ∧ k ≠ w.heap.size + 1 + x1.k + x2.k + x4.k + xa.k ∧ k ≠ bA := fun k hk => by
      have q := hrowj k hk; have q := Hin.out k q.1 q.2; simpa using q
    have hobl : ∀ k, (Value.slice ja jn jc).ownBlock = some k → k < w.heap.size + 1 + x1.k + x2.k + x4.k + xa.k + 1 + xb.k := fun k hk => by
      have := (hargs.own (base := 0) (fun _ _ => Nat.zero_le _)).row_lt k hk; simpa using this.2
    have hao := hargs.own (base := w.heap.size + 1 + x1.k + x2.k + x4.k) (fun k hk => (hob k hk).1)
    have hal : b.jump.args.length ≤ 7 := by have := Hjl.out; simp at hj7'; omega
    go_upto_region 17 with fail
    go_wp2_with (first | (at_builtin; go_must (refine wpList_appG (α := Opd) slTv_Opd rfl rfl rfl (hao.mono (by (repeat (first | (with_reducible exact Grow.refl _) | assumption | refine Grow.ext ?_ _ | refine Grow.alloc ?_ _ | refine Grow.drew ?_ | refine Grow.setCell ?_ (by first | (simp; done) | (simp; omega)) _ | refine Grow.trans ?_ (by assumption))))) (by simp <;> omega) rfl (y := ⟨1, 0, ⟨0, false, 0⟩⟩) (Gy := fun _ => False) ⟨rfl, ⟨⟨by decide, by decide⟩, ⟨by decide, by decide⟩, ⟨⟨by decide, by decide⟩, ⟨by decide, by decide⟩⟩⟩⟩ (fun _ h => h.elim) (by (repeat (refine CellsAt.cons (by go_simp) ?_)); exact CellsAt.nil _ _ _) rfl (by omega) (by omega) ?_); go_loud (
      intro av' w8 hown8 hgr8 hob8
      obtain ⟨na, nn, nc, rfl, Hnn, hnn, hown8⟩ := hown8.open
      obtain ⟨x8, rfl⟩ := ext_of_grow (grown_grow (W := (ext (ext (ext (w.alloc (Obj.cells #[.slice a un cap] 24)) x1) x2) x4)) (by (repeat (first | (with_reducible exact Grow.refl _) | assumption | refine Grow.ext ?_ _ | refine Grow.alloc ?_ _ | refine Grow.drew ?_ | refine Grow.setCell ?_ (by first | (simp; done) | (simp; omega)) _ | refine Grow.trans ?_ (by assumption)))) hgr8 (fun k hk => by have := (hob k hk).1; simpa using this))
      have hR8 : (ext (ext (ext (ext (w.alloc (Obj.cells #[.slice a un cap] 24)) x1) x2) x4) x8).heap[(w.heap.size + 1 + x1.k + x2.k + x4.k + xa.k)]? = some (.cells cur 68) := by
        rw [hgr8.block _ (by simp <;> omega) (fun e => (hob _ e.symm).2.1 rfl)]; simp only [hp_alloc, hp_at, hp_ext, hp_drew]
      have hQ8 : (ext (ext (ext (ext (w.alloc (Obj.cells #[.slice a un cap] 24)) x1) x2) x4) x8).heap[(w.heap.size + 1 + x1.k + x2.k + x4.k + xa.k + 1 + xb.k)]? = some (.cells #[.slice (some ⟨bA, 0, none⟩) un uc] 24) := by
        rw [hgr8.block _ (by simp <;> omega) (fun e => by have := hobl _ e.symm; omega)]; simp only [hp_alloc, hp_at, hp_ext, hp_drew]
      obtain ⟨ya, yb, hRe8, hsp8⟩ := split_at hR8 (by simp <;> omega)
      have hxy : xa.k = ya.k := by simp at hRe8; omega
      have hRs : (w.heap.size + 1 + x1.k + x2.k + x4.k + xa.k) = (ext (ext (ext (ext (w.alloc (Obj.cells #[.slice a un cap] 24)) x1) x2) x4) ya).heap.size := by rw [size_ext]; exact hRe8
      have hq8 : ∀ c', row? (ext ((ext (ext (ext (ext (w.alloc (Obj.cells #[.slice a un cap] 24)) x1) x2) x4) ya).alloc (.cells c' 68)) yb) (w.heap.size + 1 + x1.k + x2.k + x4.k + ya.k + 1 + xb.k) 0 1 = some [.slice (some ⟨bA, 0, none⟩) un uc] := fun c' => row_one (t := 24) (by
        have q := turn_agr (B := ext (ext (ext (ext (w.alloc (Obj.cells #[.slice a un cap] 24)) x1) x2) x4) ya) (c := .cells cur 68) (c' := .cells c' 68) (x := yb) (R := (w.heap.size + 1 + x1.k + x2.k + x4.k + xa.k)) hRs (w.heap.size + 1 + x1.k + x2.k + x4.k + xa.k + 1 + xb.k) (by rw [← hsp8]; exact (Array.getElem?_eq_some_iff.1 hQ8).1) (by omega)
        rw [← hxy, q, ← hsp8]; exact hQ8)
      have hfin : Sl (fun _ => True) (ext ((ext (ext (ext (ext (w.alloc (Obj.cells #[.slice a un cap] 24)) x1) x2) x4) ya).alloc (.cells (cur.setIfInBounds (bi * 14 + 1 + 9) (.slice na nn nc)) 68)) yb) (.slice (some ⟨bA, 0, none⟩) un uc) (prB p fi (fnB x.f bi (bkJ b (juArgs b.jump (b.jump.args ++ [⟨1, 0, ⟨0, false, 0⟩⟩]))))).funcs := by
        have hag : ∀ k, k < (ext (ext (ext (ext (w.alloc (Obj.cells #[.slice a un cap] 24)) x1) x2) x4) x8).heap.size → k ≠ (w.heap.size + 1 + x1.k + x2.k + x4.k + xa.k) → (ext ((ext (ext (ext (ext (w.alloc (Obj.cells #[.slice a un cap] 24)) x1) x2) x4) ya).alloc (.cells (cur.setIfInBounds (bi * 14 + 10) (.slice na nn nc)) 68)) yb).heap[k]? = (ext (ext (ext (ext (w.alloc (Obj.cells #[.slice a un cap] 24)) x1) x2) x4) x8).heap[k]? := by
          rw [hsp8]; exact turn_agr hRs
        have hs2 : Sl (fun _ => True) (ext ((ext (ext (ext (ext (w.alloc (Obj.cells #[.slice a un cap] 24)) x1) x2) x4) ya).alloc (.cells (cur.setIfInBounds (bi * 14 + 10) (.slice na nn nc)) 68)) yb) (.slice na nn nc) (b.jump.args ++ [⟨1, 0, ⟨0, false, 0⟩⟩]) :=
          (hown8.leafSl.keep (fun k hk hlt => hag k hlt (fun e => by
            rcases hob8 with q | q
            · rw [hk] at q; exact (hob k q.symm).2.1 e
            · rw [hk] at q; injection q with q; simp at q; omega))).wide (fun _ _ _ => trivial)
        have q2 := HE.out.2 (b.jump.args ++ [⟨1, 0, ⟨0, false, 0⟩⟩]) na nn nc (ext ((ext (ext (ext (ext (w.alloc (Obj.cells #[.slice a un cap] 24)) x1) x2) x4) ya).alloc (.cells (cur.setIfInBounds (bi * 14 + 10) (.slice na nn nc)) 68)) yb) (fun k hk hne hno => by
          have hk2 : k < w.heap.size + 1 + x1.k + x2.k + x4.k + xa.k + 1 + xb.k := by rw [Hsp.out] at hk; simpa using hk
          have q := hgr8.block k (by simp; omega) (Ne.symm hno)
          rw [hag k (Nat.lt_of_lt_of_le (by simp; omega) hgr8.size) hne, q, Hsp.out]
          have hlk : LtW k (ext ((ext (ext (ext (ext (w.alloc (Obj.cells #[.slice a un cap] 24)) x1) x2) x4) xa).alloc (.cells cur 68)) xb) := ⟨by simp; omega⟩
          simp only [hp_alloc, hp_ext, hp_drew]) (turn_at hRs) hs2
        rw [Hf.out.1] at q2
        exact q2
      clear hRe8 hQ8 hR8 hRs
      rw [hsp8])))
    clear hao hargs
    go_wp2_with (first | (go_at_call 25; ((with_reducible refine (Check_at (prB p fi (fnB x.f bi (bkJ b (juArgs b.jump (b.jump.args ++ [⟨1, 0, ⟨0, false, 0⟩⟩]))))) _ _ (hfin.mono (by (repeat (first | (with_reducible exact Grow.refl _) | assumption | refine Grow.ext ?_ _ | refine Grow.alloc ?_ _ | refine Grow.drew ?_ | refine Grow.setCell ?_ (by first | (simp; done) | (simp; omega)) _ | refine Grow.trans ?_ (by assumption))))) Hbad.out).mono ?_); rintro e w8 ⟨rfl, hb8⟩; obtain ⟨x8, rfl⟩ := ext_of_grow hb8; clear hb8)) | (go_at_call 31; ((with_reducible refine (law08_alive _).mono ?_); rintro e w9 ⟨rfl, hb9⟩; obtain ⟨x9, rfl⟩ := ext_of_grow hb9; clear hb9)))
    go_ret
    exact Ret.bool rfl (by (repeat (first | (with_reducible exact Grow.refl _) | assumption | refine Grow.ext ?_ _ | refine Grow.alloc ?_ _ | refine Grow.drew ?_ | refine Grow.setCell ?_ (by first | (simp; done) | (simp; omega)) _ | refine Grow.trans ?_ (by assumption))))
  · by_cases hw1 : which = 1
    · subst hw1
      have hjl := hargs.sl.len
      have hsl := hargs.sl
      have Hjl := Lib.hid hjl
      clear hjl
      by_cases hj0 : jn = 0
      · subst hj0
        go_wp2_with (first | (go_at_call 31; ((with_reducible refine (law08_alive _).mono ?_); rintro e w9 ⟨rfl, hb9⟩; obtain ⟨x9, rfl⟩ := ext_of_grow hb9; clear hb9)))
        go_ret
        exact Ret.bool rfl (by (repeat (first | (with_reducible exact Grow.refl _) | assumption | refine Grow.ext ?_ _ | refine Grow.alloc ?_ _ | refine Grow.drew ?_ | refine Grow.setCell ?_ (by first | (simp; done) | (simp; omega)) _ | refine Grow.trans ?_ (by assumption))))
      have hj0' : ((jn : Int) == 0) = false := by simp; omega
      obtain ⟨b_o, off_o, o, rfl, ⟨Hg_o, hl_o, hw_o, c_o0, c_o1, c_o2, c_o3, c_o4, r_o0, r_o1⟩⟩ := hsl.opd 0 (by omega : 0 < jn)
      simp only [Nat.zero_mul, Nat.add_zero] at c_o0 c_o1 c_o2 c_o3 c_o4 r_o0
      cases hmv : (o.kind == 3)
      case true =>
        go_wp2_with (first | (go_at_call 31; ((with_reducible refine (law08_alive _).mono ?_); rintro e w9 ⟨rfl, hb9⟩; obtain ⟨x9, rfl⟩ := ext_of_grow hb9; clear hb9)))
        go_ret
        exact Ret.bool rfl (by (repeat (first | (with_reducible exact Grow.refl _) | assumption | refine Grow.ext ?_ _ | refine Grow.alloc ?_ _ | refine Grow.drew ?_ | refine Grow.setCell ?_ (by first | (simp; done) | (simp; omega)) _ | refine Grow.trans ?_ (by assumption))))
      obtain ⟨l, Hl⟩ : ∃ l, Hid (b.jump.args = o :: l) := by
        have := Hg_o.out
        cases hq : b.jump.args with
        | nil => rw [hq] at this; cases this
        | cons y l => rw [hq] at this; simp at this; subst this; exact ⟨l, Lib.hid rfl⟩
      have Hbad : Hid (prErr (prB p fi (fnB x.f bi (bkJ b (juArgs b.jump l)))) = 8) := Lib.hid (arity_less Hok.out Hxf.out Hb.out H4.out Hl.out (by simpa using hmv))
      have hjc : jn ≤ jc ∧ jc ≤ 9223372036854775807 := by obtain ⟨_, _, _, he, _, hq, h1, h2, _⟩ := hsl.open; injection he with _ e2 e3; omega
      obtain ⟨hjc1, hjc2⟩ := hjc
      have hl1 : l.length + 1 = jn := by have := Hjl.out; rw [Hl.out, List.length_cons] at this; omega
      have Hl1 := Lib.hid hl1
      clear hl1
      by_cases hj1 : jc = 1
      · have hlz : l = [] := List.eq_nil_of_length_eq_zero (by have := Hl1.out; omega)
        have Hlz := Lib.hid hlz
        clear hlz
        have hj1' : (jc = 1) = True := by simpa using hj1
        have Hj1 := Lib.hid hj1
        clear hj1
        have hs2 : Sl (fun _ => True) (ext ((ext (ext (ext (ext (w.alloc (Obj.cells #[.slice a un cap] 24)) x1) x2) x4) xa).alloc (.cells (cur.setIfInBounds (bi * 14 + 10) (.slice (some ⟨b_o, off_o, none⟩) (jn - 1) (jc - 1))) 68)) xb) (.slice (some ⟨b_o, off_o, none⟩) (jn - 1) (jc - 1)) l := by
          have hlz := Hlz.out
          subst hlz
          exact ⟨some ⟨b_o, off_o, none⟩, jc - 1, by have := Hj1.out; simp; omega, by simp, by omega, (fun e => by cases e), fun i hi => by cases hi⟩
        have hfin : Sl (fun _ => True) (ext ((ext (ext (ext (ext (w.alloc (Obj.cells #[.slice a un cap] 24)) x1) x2) x4) xa).alloc (.cells (cur.setIfInBounds (bi * 14 + 1 + 9) (.slice (some ⟨b_o, off_o, none⟩) (jn - 1) (jc - 1))) 68)) xb) (.slice (some ⟨bA, 0, none⟩) un uc) (prB p fi (fnB x.f bi (bkJ b (juArgs b.jump l)))).funcs := by
          have q2 := HE.out.2 l (some ⟨b_o, off_o, none⟩) (jn - 1) (jc - 1) (ext ((ext (ext (ext (ext (w.alloc (Obj.cells #[.slice a un cap] 24)) x1) x2) x4) xa).alloc (.cells (cur.setIfInBounds (bi * 14 + 10) (.slice (some ⟨b_o, off_o, none⟩) (jn - 1) (jc - 1))) 68)) xb) (by rw [Hsp.out]; exact fun k hk hne _ => turn_agr (by simp) k hk hne) (turn_at (by simp)) hs2
          rw [Hf.out.1] at q2
          exact q2
        clear hs2
        go_wp2_with (first | (go_at_call 25; ((with_reducible refine (Check_at (prB p fi (fnB x.f bi (bkJ b (juArgs b.jump l)))) _ _ (hfin.mono (by (repeat (first | (with_reducible exact Grow.refl _) | assumption | refine Grow.ext ?_ _ | refine Grow.alloc ?_ _ | refine Grow.drew ?_ | refine Grow.setCell ?_ (by first | (simp; done) | (simp; omega)) _ | refine Grow.trans ?_ (by assumption))))) Hbad.out).mono ?_); rintro e w8 ⟨rfl, hb8⟩; obtain ⟨x8, rfl⟩ := ext_of_grow hb8; clear hb8)) | (go_at_call 31; ((with_reducible refine (law08_alive _).mono ?_); rintro e w9 ⟨rfl, hb9⟩; obtain ⟨x9, rfl⟩ := ext_of_grow hb9; clear hb9)))
        go_ret
        exact Ret.bool rfl (by (repeat (first | (with_reducible exact Grow.refl _) | assumption | refine Grow.ext ?_ _ | refine Grow.alloc ?_ _ | refine Grow.drew ?_ | refine Grow.setCell ?_ (by first | (simp; done) | (simp; omega)) _ | refine Grow.trans ?_ (by assumption))))
      · have hk := fun AA => (hsl.keep (w' := ext ((ext (ext (ext (ext (w.alloc (Obj.cells #[.slice a un cap] 24)) x1) x2) x4) xa).alloc (.cells (cur.setIfInBounds (bi * 14 + 10) AA) 68)) xb) (fun k hk hlt => turn_agr (R := w.heap.size + 1 + x1.k + x2.k + x4.k + xa.k) (by simp) k hlt (Hin.out k hk.1 hk.2).2.1)).wide (F' := fun _ => True) (fun _ _ _ => trivial)
        have hs2 : Sl (fun _ => True) (ext ((ext (ext (ext (ext (w.alloc (Obj.cells #[.slice a un cap] 24)) x1) x2) x4) xa).alloc (.cells (cur.setIfInBounds (bi * 14 + 10) (.slice (some ⟨b_o, off_o + 5, none⟩) (jn - 1) (jc - 1))) 68)) xb) (.slice (some ⟨b_o, off_o + 5, none⟩) (jn - 1) (jc - 1)) l := by
          have := (hk (.slice (some ⟨b_o, off_o + 5, none⟩) (jn - 1) (jc - 1))).sub 1 (jn - 1) (by omega)
          rw [Hl.out] at this
          simp only [List.drop_succ_cons, List.drop_zero] at this
          rw [List.take_of_length_le (by have := Hl1.out; omega)] at this
          exact this
        have hfin : Sl (fun _ => True) (ext ((ext (ext (ext (ext (w.alloc (Obj.cells #[.slice a un cap] 24)) x1) x2) x4) xa).alloc (.cells (cur.setIfInBounds (bi * 14 + 1 + 9) (.slice (some ⟨b_o, off_o + 5, none⟩) (jn - 1) (jc - 1))) 68)) xb) (.slice (some ⟨bA, 0, none⟩) un uc) (prB p fi (fnB x.f bi (bkJ b (juArgs b.jump l)))).funcs := by
          have q2 := HE.out.2 l (some ⟨b_o, off_o + 5, none⟩) (jn - 1) (jc - 1) (ext ((ext (ext (ext (ext (w.alloc (Obj.cells #[.slice a un cap] 24)) x1) x2) x4) xa).alloc (.cells (cur.setIfInBounds (bi * 14 + 10) (.slice (some ⟨b_o, off_o + 5, none⟩) (jn - 1) (jc - 1))) 68)) xb) (by rw [Hsp.out]; exact fun k hk hne _ => turn_agr (by simp) k hk hne) (turn_at (by simp)) hs2
          rw [Hf.out.1] at q2
          exact q2
        clear hs2 hk
        go_wp2_with (first | (go_at_call 25; ((with_reducible refine (Check_at (prB p fi (fnB x.f bi (bkJ b (juArgs b.jump l)))) _ _ (hfin.mono (by (repeat (first | (with_reducible exact Grow.refl _) | assumption | refine Grow.ext ?_ _ | refine Grow.alloc ?_ _ | refine Grow.drew ?_ | refine Grow.setCell ?_ (by first | (simp; done) | (simp; omega)) _ | refine Grow.trans ?_ (by assumption))))) Hbad.out).mono ?_); rintro e w8 ⟨rfl, hb8⟩; obtain ⟨x8, rfl⟩ := ext_of_grow hb8; clear hb8)) | (go_at_call 31; ((with_reducible refine (law08_alive _).mono ?_); rintro e w9 ⟨rfl, hb9⟩; obtain ⟨x9, rfl⟩ := ext_of_grow hb9; clear hb9)))
        go_ret
        exact Ret.bool rfl (by (repeat (first | (with_reducible exact Grow.refl _) | assumption | refine Grow.ext ?_ _ | refine Grow.alloc ?_ _ | refine Grow.drew ?_ | refine Grow.setCell ?_ (by first | (simp; done) | (simp; omega)) _ | refine Grow.trans ?_ (by assumption))))
    · have hw0' : (which == 0) = false := by simpa using hw0
      have hw1' : (which == 1) = false := by simpa using hw1
      clear hw0 hw1
      by_cases h7 : un ≤ 7
      case neg =>
        have h7' : (7 < un) = True := by simp; omega
        go_wp2_with (first | (go_at_call 31; ((with_reducible refine (law08_alive _).mono ?_); rintro e w9 ⟨rfl, hb9⟩; obtain ⟨x9, rfl⟩ := ext_of_grow hb9; clear hb9)))
        go_ret
        exact Ret.bool rfl (by (repeat (first | (with_reducible exact Grow.refl _) | assumption | refine Grow.ext ?_ _ | refine Grow.alloc ?_ _ | refine Grow.drew ?_ | refine Grow.setCell ?_ (by first | (simp; done) | (simp; omega)) _ | refine Grow.trans ?_ (by assumption))))
      have h7' : (7 < un) = False := by simp; omega
      have Hbad : Hid (prErr (prB p fi (fnB x.f bi (bkJ b (juFn b.jump (un : Nat))))) = 8) := Lib.hid (by
        have := arity_none Hok.out Hxf.out Hb.out H4.out; rw [← Hn.out] at this; exact this)
      have hIu : I64 (un : Nat) := ⟨by omega, by omega⟩
      have hfin : Sl (fun _ => True) (ext ((ext (ext (ext (ext (w.alloc (Obj.cells #[.slice a un cap] 24)) x1) x2) x4) xa).alloc (.cells (cur.setIfInBounds (bi * 14 + 1 + 6) (.int .i64 (un : Nat))) 68)) xb) (.slice (some ⟨bA, 0, none⟩) un uc) (prB p fi (fnB x.f bi (bkJ b (juFn b.jump (un : Nat))))).funcs := by
        have q := HE.out.1 (un : Nat) (ext ((ext (ext (ext (ext (w.alloc (Obj.cells #[.slice a un cap] 24)) x1) x2) x4) xa).alloc (.cells (cur.setIfInBounds (bi * 14 + 7) (.int .i64 (un : Nat))) 68)) xb) hIu (by rw [Hsp.out]; exact turn_agr (by simp)) (by rw [Hsp.out]; exact Nat.le_of_eq turn_size) (turn_at (by simp))
        have q2 := q.sl.fns.wide (F' := fun _ => True) (fun _ _ _ => trivial)
        rw [List.map_set, Hf.out.1] at q2
        exact q2
      go_wp2_with (first | (go_at_call 25; ((with_reducible refine (Check_at (prB p fi (fnB x.f bi (bkJ b (juFn b.jump (un : Nat))))) _ _ (hfin.mono (by (repeat (first | (with_reducible exact Grow.refl _) | assumption | refine Grow.ext ?_ _ | refine Grow.alloc ?_ _ | refine Grow.drew ?_ | refine Grow.setCell ?_ (by first | (simp; done) | (simp; omega)) _ | refine Grow.trans ?_ (by assumption))))) Hbad.out).mono ?_); rintro e w8 ⟨rfl, hb8⟩; obtain ⟨x8, rfl⟩ := ext_of_grow hb8; clear hb8)) | (go_at_call 31; ((with_reducible refine (law08_alive _).mono ?_); rintro e w9 ⟨rfl, hb9⟩; obtain ⟨x9, rfl⟩ := ext_of_grow hb9; clear hb9)))
      go_ret
      exact Ret.bool rfl (by (repeat (first | (with_reducible exact Grow.refl _) | assumption | refine Grow.ext ?_ _ | refine Grow.alloc ?_ _ | refine Grow.drew ?_ | refine Grow.setCell ?_ (by first | (simp; done) | (simp; omega)) _ | refine Grow.trans ?_ (by assumption))))
end Go.Proofs.Ytiikhfjdpaofdaa
