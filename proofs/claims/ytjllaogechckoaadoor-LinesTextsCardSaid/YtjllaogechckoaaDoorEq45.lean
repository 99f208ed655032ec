/- Layer 45: places, touches and clashes compared. -/
import Derived.Test.YtjllaogechckoaaDoorV45
namespace Go.Proofs.YtjllaogechckoaaDoor
open Go.RowKit
set_option linter.unusedSimpArgs false
set_option linter.unusedVariables false

theorem eqf_cons {P : Program} {w : World} {d : Nat} {xs ys : Array Value} {f : Field} {fs : List Field} {a b : Value} {r r' : Bool} (hn : f.name ≠ "_") (ha : (part f.type xs f.offset).run P w = .ok a w) (hb : (part f.type ys f.offset).run P w = .ok b w)
    (he : (Op.equalIn d f.type a b).run P w = .ok r w) (hr : (Op.eqFields d xs ys fs).run P w = .ok r' w) : (Op.eqFields d xs ys (f :: fs)).run P w = .ok (r && r') w := by
  rw [Op.eqFields, if_pos hn]
  simp only [Sem.run_bind, ha, hb, he, Result.andThen_ok]
  cases r
  · rfl
  · simpa using hr
theorem eqf_one {P : Program} {w : World} {d : Nat} {xs ys : Array Value} {f : Field} {a b : Value} {r : Bool} (hn : f.name ≠ "_") (ha : (part f.type xs f.offset).run P w = .ok a w) (hb : (part f.type ys f.offset).run P w = .ok b w)
    (he : (Op.equalIn d f.type a b).run P w = .ok r w) : (Op.eqFields d xs ys [f]).run P w = .ok r w := by
  have := eqf_cons (fs := []) hn ha hb he (r' := true) rfl
  simpa using this

theorem eqin_Pl (d : Nat) (w : World) (a0 b0 a2 b2 : Int) (a1 b1 : Bool) : (Op.equalIn (d + 2) 24 (.agg #[.int .i64 a0, .bool a1, .int .u8 a2]) (.agg #[.int .i64 b0, .bool b1, .int .u8 b2])).run Tryd.prog w = .ok (((a0 == b0) && ((a1 == b1) && (a2 == b2)))) w := by
  rw [run_equalIn_struct w (d + 1) 24 _ _ (by kernel_rfl) (by kernel_rfl)]
  simp only [Program.fieldsOf, Tryd.underlying24]
  show (Op.eqFields _ _ _ [_, _, _]).run _ _ = _
  refine eqf_cons (by decide) (by first | (simp [go_sem]; done) | (simp [go_sem]; rfl)) (by first | (simp [go_sem]; done) | (simp [go_sem]; rfl)) (run_equalIn_int w (d + 0) _ _ _ a0 b0 Tryd.underlying3) ?_
  refine eqf_cons (by decide) (by first | (simp [go_sem]; done) | (simp [go_sem]; rfl)) (by first | (simp [go_sem]; done) | (simp [go_sem]; rfl)) (run_equalIn_bool w (d + 0) _ a1 b1 Tryd.underlying4) ?_
  refine eqf_one (by decide) (by first | (simp [go_sem]; done) | (simp [go_sem]; rfl)) (by first | (simp [go_sem]; done) | (simp [go_sem]; rfl)) (run_equalIn_int w (d + 0) _ _ _ a2 b2 Tryd.underlying5)
theorem eql_Pl (w : World) (a0 b0 a2 b2 : Int) (a1 b1 : Bool) : (binOp .eql 24 (.agg #[.int .i64 a0, .bool a1, .int .u8 a2]) (.agg #[.int .i64 b0, .bool b1, .int .u8 b2])).run Tryd.prog w = .ok (.bool (((a0 == b0) && ((a1 == b1) && (a2 == b2))))) w := by
  have h := eqin_Pl 9998 w a0 b0 a2 b2 a1 b1
  simp only [binOp, Op.equal, Op.maxDepth, Sem.run_bind, h]; rfl
theorem neq_Pl (w : World) (a0 b0 a2 b2 : Int) (a1 b1 : Bool) : (binOp .neq 24 (.agg #[.int .i64 a0, .bool a1, .int .u8 a2]) (.agg #[.int .i64 b0, .bool b1, .int .u8 b2])).run Tryd.prog w = .ok (.bool (!((a0 == b0) && ((a1 == b1) && (a2 == b2))))) w := by
  have h := eqin_Pl 9998 w a0 b0 a2 b2 a1 b1
  simp only [binOp, Op.equal, Op.maxDepth, Sem.run_bind, h]; rfl
attribute [go_sem high] eql_Pl neq_Pl
theorem eqin_Touch (d : Nat) (w : World) (a0 b0 a2 b2 : Int) (a1 b1 a3 b3 a4 b4 : Bool) : (Op.equalIn (d + 3) 26 (.agg #[.int .i64 a0, .bool a1, .int .u8 a2, .bool a3, .bool a4]) (.agg #[.int .i64 b0, .bool b1, .int .u8 b2, .bool b3, .bool b4])).run Tryd.prog w = .ok (((a0 == b0) && ((a1 == b1) && (a2 == b2))) && ((a3 == b3) && (a4 == b4))) w := by
  rw [run_equalIn_struct w (d + 2) 26 _ _ (by kernel_rfl) (by kernel_rfl)]
  simp only [Program.fieldsOf, Tryd.underlying26]
  show (Op.eqFields _ _ _ [_, _, _]).run _ _ = _
  refine eqf_cons (by decide) (by first | (simp [go_sem]; done) | (simp [go_sem]; rfl)) (by first | (simp [go_sem]; done) | (simp [go_sem]; rfl)) (eqin_Pl d w a0 b0 a2 b2 a1 b1) ?_
  refine eqf_cons (by decide) (by first | (simp [go_sem]; done) | (simp [go_sem]; rfl)) (by first | (simp [go_sem]; done) | (simp [go_sem]; rfl)) (run_equalIn_bool w (d + 1) _ a3 b3 Tryd.underlying4) ?_
  refine eqf_one (by decide) (by first | (simp [go_sem]; done) | (simp [go_sem]; rfl)) (by first | (simp [go_sem]; done) | (simp [go_sem]; rfl)) (run_equalIn_bool w (d + 1) _ a4 b4 Tryd.underlying4)
theorem eqin_Clash (d : Nat) (w : World) (p q r s a0 b0 a2 b2 : Int) (a1 b1 a3 b3 a4 b4 : Bool) : (Op.equalIn (d + 4) 28 (.agg #[.int .i64 p, .int .i64 r, .int .i64 a0, .bool a1, .int .u8 a2, .bool a3, .bool a4]) (.agg #[.int .i64 q, .int .i64 s, .int .i64 b0, .bool b1, .int .u8 b2, .bool b3, .bool b4])).run Tryd.prog w = .ok ((p == q) && ((r == s) && (((a0 == b0) && ((a1 == b1) && (a2 == b2))) && ((a3 == b3) && (a4 == b4))))) w := by
  rw [run_equalIn_struct w (d + 3) 28 _ _ (by kernel_rfl) (by kernel_rfl)]
  simp only [Program.fieldsOf, Tryd.underlying28]
  show (Op.eqFields _ _ _ [_, _, _]).run _ _ = _
  refine eqf_cons (by decide) (by first | (simp [go_sem]; done) | (simp [go_sem]; rfl)) (by first | (simp [go_sem]; done) | (simp [go_sem]; rfl)) (run_equalIn_int w (d + 2) _ _ _ p q Tryd.underlying3) ?_
  refine eqf_cons (by decide) (by first | (simp [go_sem]; done) | (simp [go_sem]; rfl)) (by first | (simp [go_sem]; done) | (simp [go_sem]; rfl)) (run_equalIn_int w (d + 2) _ _ _ r s Tryd.underlying3) ?_
  refine eqf_one (by decide) (by first | (simp [go_sem]; done) | (simp [go_sem]; rfl)) (by first | (simp [go_sem]; done) | (simp [go_sem]; rfl)) (eqin_Touch d w a0 b0 a2 b2 a1 b1 a3 b3 a4 b4)
/-- The clashes of two verdicts are the same. -/
def clEq (v x : Ve) : Bool := (v.at_ == x.at_) && ((v.loan == x.loan) && (((v.pl.loc == x.pl.loc) && ((v.pl.deref == x.pl.deref) && (v.pl.field == x.pl.field))) && ((v.write == x.write) && (v.deep == x.deep))))
def clZ (v : Ve) : Bool := clEq v ve0
theorem neq_Clash (w : World) (v x : Ve) : (binOp .neq 28 (.agg #[.int .i64 v.at_, .int .i64 v.loan, .int .i64 v.pl.loc, .bool v.pl.deref, .int .u8 v.pl.field, .bool v.write, .bool v.deep]) (.agg #[.int .i64 x.at_, .int .i64 x.loan, .int .i64 x.pl.loc, .bool x.pl.deref, .int .u8 x.pl.field, .bool x.write, .bool x.deep])).run Tryd.prog w = .ok (.bool (!clEq v x)) w := by
  have h := eqin_Clash 9996 w v.at_ x.at_ v.loan x.loan v.pl.loc x.pl.loc v.pl.field x.pl.field v.pl.deref x.pl.deref v.write x.write v.deep x.deep
  simp only [binOp, Op.equal, Op.maxDepth, Sem.run_bind, h]; rfl
theorem eql_Clash (w : World) (v x : Ve) : (binOp .eql 28 (.agg #[.int .i64 v.at_, .int .i64 v.loan, .int .i64 v.pl.loc, .bool v.pl.deref, .int .u8 v.pl.field, .bool v.write, .bool v.deep]) (.agg #[.int .i64 x.at_, .int .i64 x.loan, .int .i64 x.pl.loc, .bool x.pl.deref, .int .u8 x.pl.field, .bool x.write, .bool x.deep])).run Tryd.prog w = .ok (.bool (clEq v x)) w := by
  have h := eqin_Clash 9996 w v.at_ x.at_ v.loan x.loan v.pl.loc x.pl.loc v.pl.field x.pl.field v.pl.deref x.pl.deref v.write x.write v.deep x.deep
  simp only [binOp, Op.equal, Op.maxDepth, Sem.run_bind, h]; rfl
theorem neqz_Clash (w : World) (v : Ve) : (binOp .neq 28 (.agg #[.int .i64 v.at_, .int .i64 v.loan, .int .i64 v.pl.loc, .bool v.pl.deref, .int .u8 v.pl.field, .bool v.write, .bool v.deep]) (.agg #[.int .i64 0, .int .i64 0, .int .i64 0, .bool false, .int .u8 0, .bool false, .bool false])).run Tryd.prog w = .ok (.bool (!clZ v)) w := neq_Clash w v ve0
attribute [go_sem high] neqz_Clash eql_Clash
theorem found_eq (v : Ve) : v.found = (v.fn != 0 || !clZ v) := by
  unfold Ve.found clZ clEq ve0
  obtain ⟨k, e, fn, at_, loan, ⟨l, d, f⟩, w, dp, o, s, p, r⟩ := v
  dsimp only
  congr 2
  rw [Bool.eq_iff_iff]; simp [Pl.mk.injEq, and_assoc]
end Go.Proofs.YtjllaogechckoaaDoor
