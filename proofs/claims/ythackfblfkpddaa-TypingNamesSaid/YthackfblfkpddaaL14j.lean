/- Layer 14: calls. -/
import Derived.Test.YthackfblfkpddaaL14i
import Derived.Deep.DeepCutAuto
namespace Go.Proofs.Ythackfblfkpddaa
open Go.RowKit
set_option linter.unusedSimpArgs false
set_option linter.unusedVariables false

def tyEq (a b : Ty) : Bool := (a.kind == b.kind) && (a.to == b.to)
def callL (ts ls : List Ty) : Bool → Nat → List Opd → Int × Bool
  | r, _, [] => (0, r)
  | r, i, o :: l => if (opTy ts o).2 ≠ 0 then ((opTy ts o).2, false) else callL ts ls (r && tyEq (opTy ts o).1 (ls.getD (i + 1) ⟨0, 0⟩)) (i + 1) l
def callOut (ts : List Ty) (j : Ju) (ls : List Ty) (x : Int × Bool) : Int := if x.1 ≠ 0 then x.1 else if x.2 = false then 42 else fitsErr ts j.dest (ls.getD 0 ⟨0, 0⟩)
def fn0 : Fn := ⟨0, false, [], []⟩
def callErr (fs : List Fn) (ts : List Ty) (j : Ju) : Int :=
  if (fs.length : Int) ≤ j.fn then 6
  else callOut ts j (fs.getD j.fn.toNat fn0).locals (callL ts (fs.getD j.fn.toNat fn0).locals (decide ((j.args.length : Int) = (fs.getD j.fn.toNat fn0).params)) 0 j.args)
theorem callErr_at {fs : List Fn} {ts : List Ty} {j : Ju} {f : Fn} {k : Nat} (hk : j.fn = k) (h : Hid (fs[k]? = some f)) : callErr fs ts j = callOut ts j f.locals (callL ts f.locals (decide ((j.args.length : Int) = f.params)) 0 j.args) := by
  have hl : k < fs.length := (List.getElem?_eq_some_iff.1 h.out).1
  unfold callErr; rw [if_neg (by omega)]
  have : fs.getD j.fn.toNat fn0 = f := by rw [hk, List.getD_eq_getElem?_getD, show (k : Int).toNat = k from rfl, h.out]; rfl
  rw [this]
theorem callL_false (ts ls : List Ty) : ∀ (l : List Opd) (i : Nat), (callL ts ls false i l).2 = false
  | [], i => rfl
  | o :: l, i => by rw [callL]; split; rfl; simpa using callL_false ts ls l (i + 1)
theorem head_at {p : Pr} {f : Fn} {k : Nat} (h : headsOk p = true) (hk : Hid (p.funcs[k]? = some f)) : headOk f = true := by
  unfold headsOk at h
  simp only [Bool.and_eq_true, List.all_eq_true] at h
  exact h.2 f (List.mem_of_getElem? hk.out)
theorem head_par {f : Fn} (h : headOk f = true) : 0 ≤ f.params ∧ f.params < (f.locals.length : Int) := by
  unfold headOk at h; simp at h; omega
theorem getD_at {ls : List Ty} {k : Nat} {t : Ty} (h : Hid (ls[k]? = some t)) : ls.getD k ⟨0, 0⟩ = t := by
  rw [List.getD_eq_getElem?_getD, h.out]; rfl

set_option maxHeartbeats 1000000 in
theorem typing_call (p : Pr) (pv v jv : Value) (ts : List Ty) (j : Ju) (w : World) {F F' F'' : Nat → Prop} (hp : Sl F w pv p.funcs) (hv : Sl F' w v ts) (hjv : Sl F'' w jv j.args) (hj : j.wf) (hh : headsOk p = true) (hf : 0 ≤ j.fn) :
    Calls Try.prog 37 #[p.v pv, v, j.v jv] w (Ret w (.int .i64 (callErr p.funcs ts j))) := by
  obtain ⟨a, n, cap, rfl, Hn, hm, hcap, hcm, hp⟩ := hp.open
  obtain ⟨va, vn, vcap, rfl, Hvn, hvm, hvcap, hvcm, hv⟩ := hv.open
  obtain ⟨ja, jn, jcap, rfl, Hjn, hjm, hjcap, hjcm, hjv⟩ := hjv.open
  have Hh := Lib.hid hh; clear hh
  obtain ⟨kind, oa, fn, next, els, args, dest⟩ := j
  obtain ⟨q, rfl⟩ := Int.eq_ofNat_of_zero_le hf
  by_cases hlt : q < n
  · obtain ⟨b_f, off_f, f, f_locals_a, f_locals_n, f_locals_c, f_blocks_a, f_blocks_n, f_blocks_c, rfl, ⟨Hg_f, hl_f, hw_f, f_locals, f_blocks, c_f0, c_f1, c_f2, c_f3, r_f0⟩⟩ := hp.fn q hlt
    have Hf := Lib.hid (head_par (head_at Hh.out Hg_f))
    have Hfl := Lib.hid f_locals.len
    have hl0 : 0 < f_locals_n := by have q1 := Hf.out; have q2 := Hfl.out; omega
    have Hc := Lib.hid (callErr_at (ts := ts) (j := ⟨kind, oa, q, next, els, args, dest⟩) rfl Hg_f)
    have hw := hw_f.params
    go_enter Try.func37, Try.ntmps37
    go_wp2_with fail
    go_loopw [8, 34] (fun rt i wr => ∃ (k : Nat) (r : Bool), k ≤ jn ∧ rt = .bool r ∧ i = .int .i64 k ∧
      Grow (((w.alloc (Obj.cells #[.slice (some ⟨b_f, off_f, none⟩) n cap] 43)).alloc (Obj.cells #[.int .u8 (⟨kind, oa, q, next, els, args, dest⟩ : Ju).kind, .int .u8 (⟨kind, oa, q, next, els, args, dest⟩ : Ju).a.kind, .int .i64 (⟨kind, oa, q, next, els, args, dest⟩ : Ju).a.n, .int .i64 (⟨kind, oa, q, next, els, args, dest⟩ : Ju).a.pl.loc, .bool (⟨kind, oa, q, next, els, args, dest⟩ : Ju).a.pl.deref, .int .u8 (⟨kind, oa, q, next, els, args, dest⟩ : Ju).a.pl.field, .int .i64 (⟨kind, oa, q, next, els, args, dest⟩ : Ju).fn, .int .i64 (⟨kind, oa, q, next, els, args, dest⟩ : Ju).next, .int .i64 (⟨kind, oa, q, next, els, args, dest⟩ : Ju).els, .slice ja jn jcap, .int .i64 (⟨kind, oa, q, next, els, args, dest⟩ : Ju).dest.loc, .bool (⟨kind, oa, q, next, els, args, dest⟩ : Ju).dest.deref, .int .u8 (⟨kind, oa, q, next, els, args, dest⟩ : Ju).dest.field] 46)).alloc (Obj.cells #[.int .i64 f.params, .bool f.uns, .slice f_locals_a f_locals_n f_locals_c, .slice f_blocks_a f_blocks_n f_blocks_c] 50)) wr ∧
      Hid (r = true → (jn : Int) = f.params) ∧ Hid (callErr p.funcs ts ⟨kind, oa, q, next, els, args, dest⟩ = callOut ts ⟨kind, oa, q, next, els, args, dest⟩ f.locals (callL ts f.locals r k (args.drop k)))) (fun _ i _ => jn - (intOf i).toNat)
    case atStart =>
      refine ⟨0, _, Nat.zero_le _, rfl, rfl, (by (repeat (first | (with_reducible exact Grow.refl _) | assumption | refine Grow.ext ?_ _ | refine Grow.alloc ?_ _ | refine Grow.drew ?_ | refine Grow.setCell ?_ (by first | (simp; done) | (simp; omega)) _ | refine Grow.trans ?_ (by assumption)))), fun h => by simpa using h, ?_⟩
      show _ = _
      have e : (jn : Int) = args.length := (by have := Hjn.out; omega)
      rw [Hc.out, List.drop_zero, e]; rfl
    case round =>
      obtain ⟨k, r, hk, rfl, rfl, hb1, Hr, Ht⟩ := hrel
      (obtain ⟨x1, rfl⟩ := ext_of_grow hb1; clear hb1)
      by_cases hlt2 : k < jn
      · obtain ⟨b_y, off_y, y, rfl, ⟨Hg_y, hl_y, hw_y, c_y0, c_y1, c_y2, c_y3, c_y4, r_y0, r_y1⟩⟩ := hjv.opd k hlt2
        have Hst : Hid (callL ts f.locals r k (args.drop k) = if (opTy ts y).2 ≠ 0 then ((opTy ts y).2, false) else callL ts f.locals (r && tyEq (opTy ts y).1 (f.locals.getD (k + 1) ⟨0, 0⟩)) (k + 1) (args.drop (k + 1))) := by
          show _ = _; rw [drop_cons Hg_y, callL]
        by_cases he : (opTy ts y).2 = 0
        · have He := Lib.hid he
          have he : ((opTy ts y).2 != 0) = false := by simpa using he
          cases r
          · go_wp2_with (first | (go_at_call 61; ((with_reducible refine (typing_operand _ ts y _ (hv.mono (by (repeat (first | (with_reducible exact Grow.refl _) | assumption | refine Grow.ext ?_ _ | refine Grow.alloc ?_ _ | refine Grow.drew ?_ | refine Grow.setCell ?_ (by first | (simp; done) | (simp; omega)) _ | refine Grow.trans ?_ (by assumption)))))).mono ?_); rintro e w2 ⟨rfl, hb2⟩; obtain ⟨x2, rfl⟩ := ext_of_grow hb2; clear hb2)))
            (refine wp_region_ext (by kernel_rfl) (by kernel_rfl) ?_; (repeat (any_goals (first | go_big_quiet_step (first | fail) | (refine wpQuiet_step (fun K hK => ?_); go_simp; split <;> (refine hK _ ?_; clear hK K))))); all_goals (refine wpQuiet_nil ?_; intro w3 hb3; obtain ⟨x3, rfl⟩ := ext_of_grow hb3; clear hb3))
            go_wp2_with fail
            go_roundw
            case rel =>
              refine ⟨k + 1, false, by omega, rfl, by go_num, (by (repeat (first | (with_reducible exact Grow.refl _) | assumption | refine Grow.ext ?_ _ | refine Grow.alloc ?_ _ | refine Grow.drew ?_ | refine Grow.setCell ?_ (by first | (simp; done) | (simp; omega)) _ | refine Grow.trans ?_ (by assumption)))), (fun h => by cases h), ?_⟩
              show _ = _
              rw [Ht.out, Hst.out, if_neg (by simpa using He.out)]; rfl
            case measure => simp [intOf]; omega
          · have hix : k + 1 < f_locals_n := by
              have q1 := Hf.out; have q2 := Hfl.out; have q3 := Hr.out (by simp); omega
            obtain ⟨b_t, off_t, t, rfl, ⟨Hg_t, hl_t, hw_t, c_t0, c_t1, r_t0⟩⟩ := f_locals.ty (k + 1) hix
            go_wp2_with (first | (go_at_call 61; ((with_reducible refine (typing_operand _ ts y _ (hv.mono (by (repeat (first | (with_reducible exact Grow.refl _) | assumption | refine Grow.ext ?_ _ | refine Grow.alloc ?_ _ | refine Grow.drew ?_ | refine Grow.setCell ?_ (by first | (simp; done) | (simp; omega)) _ | refine Grow.trans ?_ (by assumption)))))).mono ?_); rintro e w2 ⟨rfl, hb2⟩; obtain ⟨x2, rfl⟩ := ext_of_grow hb2; clear hb2)))
            (refine wp_region_ext (by kernel_rfl) (by kernel_rfl) ?_; (repeat (any_goals (first | go_big_quiet_step (first | fail) | (refine wpQuiet_step (fun K hK => ?_); go_simp; split <;> (refine hK _ ?_; clear hK K))))); all_goals (refine wpQuiet_nil ?_; intro w3 hb3; obtain ⟨x3, rfl⟩ := ext_of_grow hb3; clear hb3))
            go_wp2_with fail
            go_roundw
            case rel =>
              refine ⟨k + 1, _, by omega, rfl, by go_num, (by (repeat (first | (with_reducible exact Grow.refl _) | assumption | refine Grow.ext ?_ _ | refine Grow.alloc ?_ _ | refine Grow.drew ?_ | refine Grow.setCell ?_ (by first | (simp; done) | (simp; omega)) _ | refine Grow.trans ?_ (by assumption)))), (fun h => Hr.out (by simp)), ?_⟩
              show _ = _
              rw [Ht.out, Hst.out, if_neg (by simpa using He.out), getD_at Hg_t]; rfl
            case measure => simp [intOf]; omega
        · have He := Lib.hid he
          have he : ((opTy ts y).2 != 0) = true := by simpa using he
          go_wp2_with (first | (go_at_call 61; ((with_reducible refine (typing_operand _ ts y _ (hv.mono (by (repeat (first | (with_reducible exact Grow.refl _) | assumption | refine Grow.ext ?_ _ | refine Grow.alloc ?_ _ | refine Grow.drew ?_ | refine Grow.setCell ?_ (by first | (simp; done) | (simp; omega)) _ | refine Grow.trans ?_ (by assumption)))))).mono ?_); rintro e w2 ⟨rfl, hb2⟩; obtain ⟨x2, rfl⟩ := ext_of_grow hb2; clear hb2)))
          go_ret
          refine Ret.int ?_ (by (repeat (first | (with_reducible exact Grow.refl _) | assumption | refine Grow.ext ?_ _ | refine Grow.alloc ?_ _ | refine Grow.drew ?_ | refine Grow.setCell ?_ (by first | (simp; done) | (simp; omega)) _ | refine Grow.trans ?_ (by assumption))))
          rw [Ht.out, Hst.out, if_pos He.out]; unfold callOut; rw [if_pos He.out]
      · have Hd : Hid (callL ts f.locals r k (args.drop k) = (0, r)) := by show _ = _; rw [drop_all Hjn (by omega), callL]
        obtain ⟨b_t, off_t, t, rfl, ⟨Hg_t, hl_t, hw_t, c_t0, c_t1, r_t0⟩⟩ := f_locals.ty 0 hl0
        simp only [Nat.zero_mul, Nat.add_zero] at c_t0 c_t1 r_t0
        cases r
        · go_wp2_with fail
          go_ret
          refine Ret.int ?_ (by (repeat (first | (with_reducible exact Grow.refl _) | assumption | refine Grow.ext ?_ _ | refine Grow.alloc ?_ _ | refine Grow.drew ?_ | refine Grow.setCell ?_ (by first | (simp; done) | (simp; omega)) _ | refine Grow.trans ?_ (by assumption))))
          rw [Ht.out, Hd.out]; rfl
        · go_wp2_with fail
          (refine wp_region_ext (by kernel_rfl) (by kernel_rfl) ?_; (repeat (any_goals (first | go_big_quiet_step (first | (go_at_call 32; refine ext_call (typing_fits _ ts dest t _ (hv.mono (by (repeat (first | (with_reducible exact Grow.refl _) | assumption | refine Grow.ext ?_ _ | refine Grow.alloc ?_ _ | refine Grow.drew ?_ | refine Grow.setCell ?_ (by first | (simp; done) | (simp; omega)) _ | refine Grow.trans ?_ (by assumption)))))))) | (refine wpQuiet_step (fun K hK => ?_); go_simp; split <;> (refine hK _ ?_; clear hK K))))); all_goals (refine wpQuiet_nil ?_; intro w4 hb4; obtain ⟨x4, rfl⟩ := ext_of_grow hb4; clear hb4))
          go_wp2_with fail
          go_ret
          refine Ret.int ?_ (by (repeat (first | (with_reducible exact Grow.refl _) | assumption | refine Grow.ext ?_ _ | refine Grow.alloc ?_ _ | refine Grow.drew ?_ | refine Grow.setCell ?_ (by first | (simp; done) | (simp; omega)) _ | refine Grow.trans ?_ (by assumption))))
          rw [Ht.out, Hd.out]; unfold callOut; simp [← getD_at Hg_t]
  · go_enter Try.func37, Try.ntmps37
    go_wp2_with fail
    all_goals (go_ret; refine Ret.int ?_ (by (repeat (first | (with_reducible exact Grow.refl _) | assumption | refine Grow.ext ?_ _ | refine Grow.alloc ?_ _ | refine Grow.drew ?_ | refine Grow.setCell ?_ (by first | (simp; done) | (simp; omega)) _ | refine Grow.trans ?_ (by assumption)))); have q1 := Hn.out; unfold callErr; rw [if_pos (by simp only; omega)])
end Go.Proofs.Ythackfblfkpddaa
