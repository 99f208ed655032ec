/- Layer 14: the types of rvalues. -/
import Derived.Test.YthackfblfkpddaaL14
namespace Go.Proofs.Ythackfblfkpddaa
open Go.RowKit
set_option linter.unusedSimpArgs false
set_option linter.unusedVariables false

def intsL (ts : List Ty) : Bool → List Opd → Int
  | r, [] => if r = true then 0 else 42
  | r, o :: l => if (opTy ts o).2 ≠ 0 then (opTy ts o).2 else intsL ts (r && (decide ((opTy ts o).1.kind = 1) && decide ((opTy ts o).1.to = 0))) l
def intsErr (ts : List Ty) (l : List Opd) : Int := intsL ts true l

set_option maxHeartbeats 400000 in
theorem typing_ints (v lv : Value) (ts : List Ty) (l : List Opd) (w : World) {F F' : Nat → Prop} (hv : Sl F w v ts) (hl : Sl F' w lv l) :
    Calls Try.prog 33 #[v, lv] w (Ret w (.int .i64 (intsErr ts l))) := by
  obtain ⟨a, n, cap, rfl, Hn, hm, hcap, hcm, hl⟩ := hl.open
  go_enter Try.func33, Try.ntmps33
  go_wp2
  go_loopw [5, 12] (fun rt i wr => ∃ (k : Nat) (r : Bool), k ≤ n ∧ i = .int .i64 k ∧ rt = .bool r ∧ Grow w wr ∧ Hid (intsErr ts l = intsL ts r (l.drop k))) (fun _ i _ => n - (intOf i).toNat)
  case atStart => exact ⟨0, true, Nat.zero_le _, rfl, rfl, Grow.refl _, rfl⟩
  case round =>
    obtain ⟨k, r, hk, rfl, rfl, hb1, ht⟩ := hrel
    (obtain ⟨x1, rfl⟩ := ext_of_grow hb1; clear hb1)
    by_cases hlt : k < n
    · obtain ⟨b_o, off_o, o, rfl, ⟨Hg_o, hl_o, hw_o, c_o0, c_o1, c_o2, c_o3, c_o4, r_o0, r_o1⟩⟩ := hl.opd k hlt
      have Hst : Hid (intsErr ts l = if (opTy ts o).2 ≠ 0 then (opTy ts o).2 else intsL ts (r && (decide ((opTy ts o).1.kind = 1) && decide ((opTy ts o).1.to = 0))) (l.drop (k + 1))) := by
        show _ = _; rw [ht.out, drop_cons Hg_o, intsL]
      by_cases he : (opTy ts o).2 = 0
      · cases r
        all_goals
          go_wp2_with (first | (go_at_call 61; ((with_reducible refine (typing_operand _ ts o _ (hv.mono (by (repeat (first | (with_reducible exact Grow.refl _) | assumption | refine Grow.ext ?_ _ | refine Grow.alloc ?_ _ | refine Grow.drew ?_ | refine Grow.setCell ?_ (by first | (simp; done) | (simp; omega)) _ | refine Grow.trans ?_ (by assumption)))))).mono ?_); rintro e w2 ⟨rfl, hb2⟩; obtain ⟨x2, rfl⟩ := ext_of_grow hb2; clear hb2)))
          (refine wp_region_ext (by kernel_rfl) (by kernel_rfl) ?_; (repeat (any_goals (first | go_big_quiet_step (first | (go_at_call 60; refine ext_call (typing_number _))) | (refine wpQuiet_step (fun K hK => ?_); go_simp; split <;> (refine hK _ ?_; clear hK K))))); all_goals (refine wpQuiet_nil ?_; intro w3 hb3; obtain ⟨x3, rfl⟩ := ext_of_grow hb3; clear hb3))
          go_wp2_with fail
          go_roundw
          case rel =>
            refine ⟨k + 1, _, by omega, by go_num, rfl, (by (repeat (first | (with_reducible exact Grow.refl _) | assumption | refine Grow.ext ?_ _ | refine Grow.alloc ?_ _ | refine Grow.drew ?_ | refine Grow.setCell ?_ (by first | (simp; done) | (simp; omega)) _ | refine Grow.trans ?_ (by assumption)))), ?_⟩
            show _ = _
            rw [Hst.out, if_neg (by simpa using he)]
            rfl
          case measure => simp [intOf]; omega
      · have he' : ((opTy ts o).2 != 0) = true := by simpa using he
        have He := Lib.hid he; clear he
        go_wp2_with (first | (go_at_call 61; ((with_reducible refine (typing_operand _ ts o _ (hv.mono (by (repeat (first | (with_reducible exact Grow.refl _) | assumption | refine Grow.ext ?_ _ | refine Grow.alloc ?_ _ | refine Grow.drew ?_ | refine Grow.setCell ?_ (by first | (simp; done) | (simp; omega)) _ | refine Grow.trans ?_ (by assumption)))))).mono ?_); rintro e w2 ⟨rfl, hb2⟩; obtain ⟨x2, rfl⟩ := ext_of_grow hb2; clear hb2)))
        go_ret
        exact Ret.int (by rw [Hst.out, if_pos He.out]) (by (repeat (first | (with_reducible exact Grow.refl _) | assumption | refine Grow.ext ?_ _ | refine Grow.alloc ?_ _ | refine Grow.drew ?_ | refine Grow.setCell ?_ (by first | (simp; done) | (simp; omega)) _ | refine Grow.trans ?_ (by assumption))))
    · have Hd : Hid (intsErr ts l = if r = true then 0 else 42) := by show _ = _; rw [ht.out, drop_all Hn (by omega), intsL]
      cases r
      all_goals
        go_wp2_with fail
        go_ret
        exact Ret.int (by rw [Hd.out]; rfl) (by (repeat (first | (with_reducible exact Grow.refl _) | assumption | refine Grow.ext ?_ _ | refine Grow.alloc ?_ _ | refine Grow.drew ?_ | refine Grow.setCell ?_ (by first | (simp; done) | (simp; omega)) _ | refine Grow.trans ?_ (by assumption))))

def borTy (ts : List Ty) (r : Rv) : Ty × Int :=
  if (plaTy ts r.pl).2 ≠ 0 then (⟨0, 0⟩, (plaTy ts r.pl).2)
  else if (plaTy ts r.pl).1.kind ≠ 1 ∧ (plaTy ts r.pl).1.kind ≠ 2 then (⟨0, 0⟩, 42)
  else if r.kind = 5 then (⟨5, (plaTy ts r.pl).1.kind⟩, 0)
  else if r.bo = 1 then (⟨3, (plaTy ts r.pl).1.kind⟩, 0)
  else if plaWr ts r.pl ≠ 0 then (⟨0, 0⟩, plaWr ts r.pl)
  else (⟨4, (plaTy ts r.pl).1.kind⟩, 0)

set_option maxHeartbeats 400000 in
theorem typing_borrowed (v : Value) (ts : List Ty) (r : Rv) (w : World) {F : Nat → Prop} (hv : Sl F w v ts) :
    Calls Try.prog 62 #[v, r.v] w (Ret w (.tuple #[(borTy ts r).1.v, .int .i64 (borTy ts r).2])) := by
  go_enter Try.func62, Try.ntmps62
  go_wp2_with (first | (go_at_call 55; ((with_reducible refine (placing_Type _ ts r.pl _ (hv.mono (by (repeat (first | (with_reducible exact Grow.refl _) | assumption | refine Grow.ext ?_ _ | refine Grow.alloc ?_ _ | refine Grow.drew ?_ | refine Grow.setCell ?_ (by first | (simp; done) | (simp; omega)) _ | refine Grow.trans ?_ (by assumption)))))).mono ?_); rintro e w1 ⟨rfl, hb1⟩; obtain ⟨x1, rfl⟩ := ext_of_grow hb1; clear hb1)) | (go_at_call 63; ((with_reducible refine (placing_Write _ ts r.pl _ (hv.mono (by (repeat (first | (with_reducible exact Grow.refl _) | assumption | refine Grow.ext ?_ _ | refine Grow.alloc ?_ _ | refine Grow.drew ?_ | refine Grow.setCell ?_ (by first | (simp; done) | (simp; omega)) _ | refine Grow.trans ?_ (by assumption)))))).mono ?_); rintro e w2 ⟨rfl, hb2⟩; obtain ⟨x2, rfl⟩ := ext_of_grow hb2; clear hb2)))
  all_goals ((try simp only [Exit.inBlock, Exit.then]); refine post_of (by simp only [results, Try.results62]; go_simp; rfl) rfl (by (repeat (first | (with_reducible exact Grow.refl _) | assumption | refine Grow.ext ?_ _ | refine Grow.alloc ?_ _ | refine Grow.drew ?_ | refine Grow.setCell ?_ (by first | (simp; done) | (simp; omega)) _ | refine Grow.trans ?_ (by assumption)))) ?_)
  all_goals (go_light; grind [borTy])

end Go.Proofs.Ythackfblfkpddaa
