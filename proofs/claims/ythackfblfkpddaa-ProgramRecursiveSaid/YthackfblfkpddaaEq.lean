/- Structs compared. Printed by geneq.py. -/
import Derived.Test.YthackfblfkpddaaTypes
namespace Go.Proofs.Ythackfblfkpddaa
open Go.RowKit
set_option linter.unusedSimpArgs false
set_option linter.unusedVariables false

theorem eqf_cons {P : Program} {w : World} {d : Nat} {xs ys : Array Value} {f : Field} {fs : List Field} {a b : Value} {r r' : Bool} (hn : f.name ≠ "_") (ha : (part f.type xs f.offset).run P w = .ok a w) (hb : (part f.type ys f.offset).run P w = .ok b w)
    (he : (Op.equalIn d f.type a b).run P w = .ok r w) (hr : (Op.eqFields d xs ys fs).run P w = .ok r' w) : (Op.eqFields d xs ys (f :: fs)).run P w = .ok (r && r') w := by
  rw [Op.eqFields, if_pos hn]
  simp only [Sem.run_bind, ha, hb, he, Result.andThen_ok]
  cases r
  · rfl
  · simpa using hr
theorem eqf_one {P : Program} {w : World} {d : Nat} {xs ys : Array Value} {f : Field} {a b : Value} {r : Bool} (hn : f.name ≠ "_") (ha : (part f.type xs f.offset).run P w = .ok a w) (hb : (part f.type ys f.offset).run P w = .ok b w)
    (he : (Op.equalIn d f.type a b).run P w = .ok r w) : (Op.eqFields d xs ys [f]).run P w = .ok r w := by
  have := eqf_cons (fs := []) hn ha hb he (r' := true) rfl
  simpa using this

theorem eqin_Ty (d : Nat) (w : World) (a0 b0 a1 b1 : Int) : (Op.equalIn (d + 2) 23 (.agg #[.int .u8 a0, .int .u8 a1]) (.agg #[.int .u8 b0, .int .u8 b1])).run Try.prog w = .ok (((a0 == b0) && (a1 == b1))) w := by
  rw [run_equalIn_struct w (d + 1) 23 _ _ (by kernel_rfl) (by kernel_rfl)]
  simp only [Program.fieldsOf, Try.underlying23]
  show (Op.eqFields _ _ _ [_, _]).run _ _ = _
  refine eqf_cons (by decide) (by first | (simp [go_sem]; done) | (simp [go_sem]; rfl)) (by first | (simp [go_sem]; done) | (simp [go_sem]; rfl)) (run_equalIn_int w (d + 0) _ _ _ a0 b0 Try.underlying5) ?_
  refine eqf_one (by decide) (by first | (simp [go_sem]; done) | (simp [go_sem]; rfl)) (by first | (simp [go_sem]; done) | (simp [go_sem]; rfl)) (run_equalIn_int w (d + 0) _ _ _ a1 b1 Try.underlying5)
theorem eql_Ty (w : World) (a0 b0 a1 b1 : Int) : (binOp .eql 23 (.agg #[.int .u8 a0, .int .u8 a1]) (.agg #[.int .u8 b0, .int .u8 b1])).run Try.prog w = .ok (.bool (((a0 == b0) && (a1 == b1)))) w := by
  have h := eqin_Ty 9998 w a0 b0 a1 b1
  simp only [binOp, Op.equal, Op.maxDepth, Sem.run_bind, h]; rfl
theorem neq_Ty (w : World) (a0 b0 a1 b1 : Int) : (binOp .neq 23 (.agg #[.int .u8 a0, .int .u8 a1]) (.agg #[.int .u8 b0, .int .u8 b1])).run Try.prog w = .ok (.bool (!((a0 == b0) && (a1 == b1)))) w := by
  have h := eqin_Ty 9998 w a0 b0 a1 b1
  simp only [binOp, Op.equal, Op.maxDepth, Sem.run_bind, h]; rfl
attribute [go_sem high] eql_Ty neq_Ty
theorem eqin_Pl (d : Nat) (w : World) (a0 b0 a2 b2 : Int) (a1 b1 : Bool) : (Op.equalIn (d + 2) 26 (.agg #[.int .i64 a0, .bool a1, .int .u8 a2]) (.agg #[.int .i64 b0, .bool b1, .int .u8 b2])).run Try.prog w = .ok (((a0 == b0) && ((a1 == b1) && (a2 == b2)))) w := by
  rw [run_equalIn_struct w (d + 1) 26 _ _ (by kernel_rfl) (by kernel_rfl)]
  simp only [Program.fieldsOf, Try.underlying26]
  show (Op.eqFields _ _ _ [_, _, _]).run _ _ = _
  refine eqf_cons (by decide) (by first | (simp [go_sem]; done) | (simp [go_sem]; rfl)) (by first | (simp [go_sem]; done) | (simp [go_sem]; rfl)) (run_equalIn_int w (d + 0) _ _ _ a0 b0 Try.underlying3) ?_
  refine eqf_cons (by decide) (by first | (simp [go_sem]; done) | (simp [go_sem]; rfl)) (by first | (simp [go_sem]; done) | (simp [go_sem]; rfl)) (run_equalIn_bool w (d + 0) _ a1 b1 Try.underlying4) ?_
  refine eqf_one (by decide) (by first | (simp [go_sem]; done) | (simp [go_sem]; rfl)) (by first | (simp [go_sem]; done) | (simp [go_sem]; rfl)) (run_equalIn_int w (d + 0) _ _ _ a2 b2 Try.underlying5)
theorem eql_Pl (w : World) (a0 b0 a2 b2 : Int) (a1 b1 : Bool) : (binOp .eql 26 (.agg #[.int .i64 a0, .bool a1, .int .u8 a2]) (.agg #[.int .i64 b0, .bool b1, .int .u8 b2])).run Try.prog w = .ok (.bool (((a0 == b0) && ((a1 == b1) && (a2 == b2))))) w := by
  have h := eqin_Pl 9998 w a0 b0 a2 b2 a1 b1
  simp only [binOp, Op.equal, Op.maxDepth, Sem.run_bind, h]; rfl
theorem neq_Pl (w : World) (a0 b0 a2 b2 : Int) (a1 b1 : Bool) : (binOp .neq 26 (.agg #[.int .i64 a0, .bool a1, .int .u8 a2]) (.agg #[.int .i64 b0, .bool b1, .int .u8 b2])).run Try.prog w = .ok (.bool (!((a0 == b0) && ((a1 == b1) && (a2 == b2))))) w := by
  have h := eqin_Pl 9998 w a0 b0 a2 b2 a1 b1
  simp only [binOp, Op.equal, Op.maxDepth, Sem.run_bind, h]; rfl
attribute [go_sem high] eql_Pl neq_Pl
theorem eqin_Opd (d : Nat) (w : World) (a0 b0 a1 b1 a2 b2 a4 b4 : Int) (a3 b3 : Bool) : (Op.equalIn (d + 3) 28 (.agg #[.int .u8 a0, .int .i64 a1, .int .i64 a2, .bool a3, .int .u8 a4]) (.agg #[.int .u8 b0, .int .i64 b1, .int .i64 b2, .bool b3, .int .u8 b4])).run Try.prog w = .ok (((a0 == b0) && ((a1 == b1) && ((a2 == b2) && ((a3 == b3) && (a4 == b4)))))) w := by
  rw [run_equalIn_struct w (d + 2) 28 _ _ (by kernel_rfl) (by kernel_rfl)]
  simp only [Program.fieldsOf, Try.underlying28]
  show (Op.eqFields _ _ _ [_, _, _]).run _ _ = _
  refine eqf_cons (by decide) (by first | (simp [go_sem]; done) | (simp [go_sem]; rfl)) (by first | (simp [go_sem]; done) | (simp [go_sem]; rfl)) (run_equalIn_int w (d + 1) _ _ _ a0 b0 Try.underlying5) ?_
  refine eqf_cons (by decide) (by first | (simp [go_sem]; done) | (simp [go_sem]; rfl)) (by first | (simp [go_sem]; done) | (simp [go_sem]; rfl)) (run_equalIn_int w (d + 1) _ _ _ a1 b1 Try.underlying2) ?_
  refine eqf_one (by decide) (by first | (simp [go_sem]; done) | (simp [go_sem]; rfl)) (by first | (simp [go_sem]; done) | (simp [go_sem]; rfl)) (eqin_Pl (d + 0) w a2 b2 a4 b4 a3 b3)
theorem eql_Opd (w : World) (a0 b0 a1 b1 a2 b2 a4 b4 : Int) (a3 b3 : Bool) : (binOp .eql 28 (.agg #[.int .u8 a0, .int .i64 a1, .int .i64 a2, .bool a3, .int .u8 a4]) (.agg #[.int .u8 b0, .int .i64 b1, .int .i64 b2, .bool b3, .int .u8 b4])).run Try.prog w = .ok (.bool (((a0 == b0) && ((a1 == b1) && ((a2 == b2) && ((a3 == b3) && (a4 == b4))))))) w := by
  have h := eqin_Opd 9997 w a0 b0 a1 b1 a2 b2 a4 b4 a3 b3
  simp only [binOp, Op.equal, Op.maxDepth, Sem.run_bind, h]; rfl
theorem neq_Opd (w : World) (a0 b0 a1 b1 a2 b2 a4 b4 : Int) (a3 b3 : Bool) : (binOp .neq 28 (.agg #[.int .u8 a0, .int .i64 a1, .int .i64 a2, .bool a3, .int .u8 a4]) (.agg #[.int .u8 b0, .int .i64 b1, .int .i64 b2, .bool b3, .int .u8 b4])).run Try.prog w = .ok (.bool (!((a0 == b0) && ((a1 == b1) && ((a2 == b2) && ((a3 == b3) && (a4 == b4))))))) w := by
  have h := eqin_Opd 9997 w a0 b0 a1 b1 a2 b2 a4 b4 a3 b3
  simp only [binOp, Op.equal, Op.maxDepth, Sem.run_bind, h]; rfl
attribute [go_sem high] eql_Opd neq_Opd
theorem eqin_Rv (d : Nat) (w : World) (a0 b0 a1 b1 a2 b2 a3 b3 a4 b4 a5 b5 a7 b7 a8 b8 a9 b9 a10 b10 a12 b12 a13 b13 a15 b15 : Int) (a6 b6 a11 b11 a14 b14 : Bool) : (Op.equalIn (d + 4) 33 (.agg #[.int .u8 a0, .int .u8 a1, .int .u8 a2, .int .u8 a3, .int .i64 a4, .int .i64 a5, .bool a6, .int .u8 a7, .int .u8 a8, .int .i64 a9, .int .i64 a10, .bool a11, .int .u8 a12, .int .i64 a13, .bool a14, .int .u8 a15]) (.agg #[.int .u8 b0, .int .u8 b1, .int .u8 b2, .int .u8 b3, .int .i64 b4, .int .i64 b5, .bool b6, .int .u8 b7, .int .u8 b8, .int .i64 b9, .int .i64 b10, .bool b11, .int .u8 b12, .int .i64 b13, .bool b14, .int .u8 b15])).run Try.prog w = .ok (((a0 == b0) && ((a1 == b1) && ((a2 == b2) && (((a3 == b3) && ((a4 == b4) && ((a5 == b5) && ((a6 == b6) && (a7 == b7))))) && (((a8 == b8) && ((a9 == b9) && ((a10 == b10) && ((a11 == b11) && (a12 == b12))))) && ((a13 == b13) && ((a14 == b14) && (a15 == b15))))))))) w := by
  rw [run_equalIn_struct w (d + 3) 33 _ _ (by kernel_rfl) (by kernel_rfl)]
  simp only [Program.fieldsOf, Try.underlying33]
  show (Op.eqFields _ _ _ [_, _, _, _, _, _]).run _ _ = _
  refine eqf_cons (by decide) (by first | (simp [go_sem]; done) | (simp [go_sem]; rfl)) (by first | (simp [go_sem]; done) | (simp [go_sem]; rfl)) (run_equalIn_int w (d + 2) _ _ _ a0 b0 Try.underlying5) ?_
  refine eqf_cons (by decide) (by first | (simp [go_sem]; done) | (simp [go_sem]; rfl)) (by first | (simp [go_sem]; done) | (simp [go_sem]; rfl)) (run_equalIn_int w (d + 2) _ _ _ a1 b1 Try.underlying5) ?_
  refine eqf_cons (by decide) (by first | (simp [go_sem]; done) | (simp [go_sem]; rfl)) (by first | (simp [go_sem]; done) | (simp [go_sem]; rfl)) (run_equalIn_int w (d + 2) _ _ _ a2 b2 Try.underlying5) ?_
  refine eqf_cons (by decide) (by first | (simp [go_sem]; done) | (simp [go_sem]; rfl)) (by first | (simp [go_sem]; done) | (simp [go_sem]; rfl)) (eqin_Opd (d + 0) w a3 b3 a4 b4 a5 b5 a7 b7 a6 b6) ?_
  refine eqf_cons (by decide) (by first | (simp [go_sem]; done) | (simp [go_sem]; rfl)) (by first | (simp [go_sem]; done) | (simp [go_sem]; rfl)) (eqin_Opd (d + 0) w a8 b8 a9 b9 a10 b10 a12 b12 a11 b11) ?_
  refine eqf_one (by decide) (by first | (simp [go_sem]; done) | (simp [go_sem]; rfl)) (by first | (simp [go_sem]; done) | (simp [go_sem]; rfl)) (eqin_Pl (d + 1) w a13 b13 a15 b15 a14 b14)
theorem eql_Rv (w : World) (a0 b0 a1 b1 a2 b2 a3 b3 a4 b4 a5 b5 a7 b7 a8 b8 a9 b9 a10 b10 a12 b12 a13 b13 a15 b15 : Int) (a6 b6 a11 b11 a14 b14 : Bool) : (binOp .eql 33 (.agg #[.int .u8 a0, .int .u8 a1, .int .u8 a2, .int .u8 a3, .int .i64 a4, .int .i64 a5, .bool a6, .int .u8 a7, .int .u8 a8, .int .i64 a9, .int .i64 a10, .bool a11, .int .u8 a12, .int .i64 a13, .bool a14, .int .u8 a15]) (.agg #[.int .u8 b0, .int .u8 b1, .int .u8 b2, .int .u8 b3, .int .i64 b4, .int .i64 b5, .bool b6, .int .u8 b7, .int .u8 b8, .int .i64 b9, .int .i64 b10, .bool b11, .int .u8 b12, .int .i64 b13, .bool b14, .int .u8 b15])).run Try.prog w = .ok (.bool (((a0 == b0) && ((a1 == b1) && ((a2 == b2) && (((a3 == b3) && ((a4 == b4) && ((a5 == b5) && ((a6 == b6) && (a7 == b7))))) && (((a8 == b8) && ((a9 == b9) && ((a10 == b10) && ((a11 == b11) && (a12 == b12))))) && ((a13 == b13) && ((a14 == b14) && (a15 == b15)))))))))) w := by
  have h := eqin_Rv 9996 w a0 b0 a1 b1 a2 b2 a3 b3 a4 b4 a5 b5 a7 b7 a8 b8 a9 b9 a10 b10 a12 b12 a13 b13 a15 b15 a6 b6 a11 b11 a14 b14
  simp only [binOp, Op.equal, Op.maxDepth, Sem.run_bind, h]; rfl
theorem neq_Rv (w : World) (a0 b0 a1 b1 a2 b2 a3 b3 a4 b4 a5 b5 a7 b7 a8 b8 a9 b9 a10 b10 a12 b12 a13 b13 a15 b15 : Int) (a6 b6 a11 b11 a14 b14 : Bool) : (binOp .neq 33 (.agg #[.int .u8 a0, .int .u8 a1, .int .u8 a2, .int .u8 a3, .int .i64 a4, .int .i64 a5, .bool a6, .int .u8 a7, .int .u8 a8, .int .i64 a9, .int .i64 a10, .bool a11, .int .u8 a12, .int .i64 a13, .bool a14, .int .u8 a15]) (.agg #[.int .u8 b0, .int .u8 b1, .int .u8 b2, .int .u8 b3, .int .i64 b4, .int .i64 b5, .bool b6, .int .u8 b7, .int .u8 b8, .int .i64 b9, .int .i64 b10, .bool b11, .int .u8 b12, .int .i64 b13, .bool b14, .int .u8 b15])).run Try.prog w = .ok (.bool (!((a0 == b0) && ((a1 == b1) && ((a2 == b2) && (((a3 == b3) && ((a4 == b4) && ((a5 == b5) && ((a6 == b6) && (a7 == b7))))) && (((a8 == b8) && ((a9 == b9) && ((a10 == b10) && ((a11 == b11) && (a12 == b12))))) && ((a13 == b13) && ((a14 == b14) && (a15 == b15)))))))))) w := by
  have h := eqin_Rv 9996 w a0 b0 a1 b1 a2 b2 a3 b3 a4 b4 a5 b5 a7 b7 a8 b8 a9 b9 a10 b10 a12 b12 a13 b13 a15 b15 a6 b6 a11 b11 a14 b14
  simp only [binOp, Op.equal, Op.maxDepth, Sem.run_bind, h]; rfl
attribute [go_sem high] eql_Rv neq_Rv
theorem eqin_St (d : Nat) (w : World) (a0 b0 a1 b1 a3 b3 a4 b4 a5 b5 a6 b6 a7 b7 a8 b8 a9 b9 a11 b11 a12 b12 a13 b13 a14 b14 a16 b16 a17 b17 a19 b19 a20 b20 a21 b21 a22 b22 a24 b24 a25 b25 : Int) (a2 b2 a10 b10 a15 b15 a18 b18 a23 b23 : Bool) : (Op.equalIn (d + 5) 38 (.agg #[.int .u8 a0, .int .i64 a1, .bool a2, .int .u8 a3, .int .u8 a4, .int .u8 a5, .int .u8 a6, .int .u8 a7, .int .i64 a8, .int .i64 a9, .bool a10, .int .u8 a11, .int .u8 a12, .int .i64 a13, .int .i64 a14, .bool a15, .int .u8 a16, .int .i64 a17, .bool a18, .int .u8 a19, .int .u8 a20, .int .i64 a21, .int .i64 a22, .bool a23, .int .u8 a24, .int .i64 a25]) (.agg #[.int .u8 b0, .int .i64 b1, .bool b2, .int .u8 b3, .int .u8 b4, .int .u8 b5, .int .u8 b6, .int .u8 b7, .int .i64 b8, .int .i64 b9, .bool b10, .int .u8 b11, .int .u8 b12, .int .i64 b13, .int .i64 b14, .bool b15, .int .u8 b16, .int .i64 b17, .bool b18, .int .u8 b19, .int .u8 b20, .int .i64 b21, .int .i64 b22, .bool b23, .int .u8 b24, .int .i64 b25])).run Try.prog w = .ok (((a0 == b0) && (((a1 == b1) && ((a2 == b2) && (a3 == b3))) && (((a4 == b4) && ((a5 == b5) && ((a6 == b6) && (((a7 == b7) && ((a8 == b8) && ((a9 == b9) && ((a10 == b10) && (a11 == b11))))) && (((a12 == b12) && ((a13 == b13) && ((a14 == b14) && ((a15 == b15) && (a16 == b16))))) && ((a17 == b17) && ((a18 == b18) && (a19 == b19)))))))) && (((a20 == b20) && ((a21 == b21) && ((a22 == b22) && ((a23 == b23) && (a24 == b24))))) && (a25 == b25)))))) w := by
  rw [run_equalIn_struct w (d + 4) 38 _ _ (by kernel_rfl) (by kernel_rfl)]
  simp only [Program.fieldsOf, Try.underlying38]
  show (Op.eqFields _ _ _ [_, _, _, _, _]).run _ _ = _
  refine eqf_cons (by decide) (by first | (simp [go_sem]; done) | (simp [go_sem]; rfl)) (by first | (simp [go_sem]; done) | (simp [go_sem]; rfl)) (run_equalIn_int w (d + 3) _ _ _ a0 b0 Try.underlying5) ?_
  refine eqf_cons (by decide) (by first | (simp [go_sem]; done) | (simp [go_sem]; rfl)) (by first | (simp [go_sem]; done) | (simp [go_sem]; rfl)) (eqin_Pl (d + 2) w a1 b1 a3 b3 a2 b2) ?_
  refine eqf_cons (by decide) (by first | (simp [go_sem]; done) | (simp [go_sem]; rfl)) (by first | (simp [go_sem]; done) | (simp [go_sem]; rfl)) (eqin_Rv (d + 0) w a4 b4 a5 b5 a6 b6 a7 b7 a8 b8 a9 b9 a11 b11 a12 b12 a13 b13 a14 b14 a16 b16 a17 b17 a19 b19 a10 b10 a15 b15 a18 b18) ?_
  refine eqf_cons (by decide) (by first | (simp [go_sem]; done) | (simp [go_sem]; rfl)) (by first | (simp [go_sem]; done) | (simp [go_sem]; rfl)) (eqin_Opd (d + 1) w a20 b20 a21 b21 a22 b22 a24 b24 a23 b23) ?_
  refine eqf_one (by decide) (by first | (simp [go_sem]; done) | (simp [go_sem]; rfl)) (by first | (simp [go_sem]; done) | (simp [go_sem]; rfl)) (run_equalIn_int w (d + 3) _ _ _ a25 b25 Try.underlying3)
theorem eql_St (w : World) (a0 b0 a1 b1 a3 b3 a4 b4 a5 b5 a6 b6 a7 b7 a8 b8 a9 b9 a11 b11 a12 b12 a13 b13 a14 b14 a16 b16 a17 b17 a19 b19 a20 b20 a21 b21 a22 b22 a24 b24 a25 b25 : Int) (a2 b2 a10 b10 a15 b15 a18 b18 a23 b23 : Bool) : (binOp .eql 38 (.agg #[.int .u8 a0, .int .i64 a1, .bool a2, .int .u8 a3, .int .u8 a4, .int .u8 a5, .int .u8 a6, .int .u8 a7, .int .i64 a8, .int .i64 a9, .bool a10, .int .u8 a11, .int .u8 a12, .int .i64 a13, .int .i64 a14, .bool a15, .int .u8 a16, .int .i64 a17, .bool a18, .int .u8 a19, .int .u8 a20, .int .i64 a21, .int .i64 a22, .bool a23, .int .u8 a24, .int .i64 a25]) (.agg #[.int .u8 b0, .int .i64 b1, .bool b2, .int .u8 b3, .int .u8 b4, .int .u8 b5, .int .u8 b6, .int .u8 b7, .int .i64 b8, .int .i64 b9, .bool b10, .int .u8 b11, .int .u8 b12, .int .i64 b13, .int .i64 b14, .bool b15, .int .u8 b16, .int .i64 b17, .bool b18, .int .u8 b19, .int .u8 b20, .int .i64 b21, .int .i64 b22, .bool b23, .int .u8 b24, .int .i64 b25])).run Try.prog w = .ok (.bool (((a0 == b0) && (((a1 == b1) && ((a2 == b2) && (a3 == b3))) && (((a4 == b4) && ((a5 == b5) && ((a6 == b6) && (((a7 == b7) && ((a8 == b8) && ((a9 == b9) && ((a10 == b10) && (a11 == b11))))) && (((a12 == b12) && ((a13 == b13) && ((a14 == b14) && ((a15 == b15) && (a16 == b16))))) && ((a17 == b17) && ((a18 == b18) && (a19 == b19)))))))) && (((a20 == b20) && ((a21 == b21) && ((a22 == b22) && ((a23 == b23) && (a24 == b24))))) && (a25 == b25))))))) w := by
  have h := eqin_St 9995 w a0 b0 a1 b1 a3 b3 a4 b4 a5 b5 a6 b6 a7 b7 a8 b8 a9 b9 a11 b11 a12 b12 a13 b13 a14 b14 a16 b16 a17 b17 a19 b19 a20 b20 a21 b21 a22 b22 a24 b24 a25 b25 a2 b2 a10 b10 a15 b15 a18 b18 a23 b23
  simp only [binOp, Op.equal, Op.maxDepth, Sem.run_bind, h]; rfl
theorem neq_St (w : World) (a0 b0 a1 b1 a3 b3 a4 b4 a5 b5 a6 b6 a7 b7 a8 b8 a9 b9 a11 b11 a12 b12 a13 b13 a14 b14 a16 b16 a17 b17 a19 b19 a20 b20 a21 b21 a22 b22 a24 b24 a25 b25 : Int) (a2 b2 a10 b10 a15 b15 a18 b18 a23 b23 : Bool) : (binOp .neq 38 (.agg #[.int .u8 a0, .int .i64 a1, .bool a2, .int .u8 a3, .int .u8 a4, .int .u8 a5, .int .u8 a6, .int .u8 a7, .int .i64 a8, .int .i64 a9, .bool a10, .int .u8 a11, .int .u8 a12, .int .i64 a13, .int .i64 a14, .bool a15, .int .u8 a16, .int .i64 a17, .bool a18, .int .u8 a19, .int .u8 a20, .int .i64 a21, .int .i64 a22, .bool a23, .int .u8 a24, .int .i64 a25]) (.agg #[.int .u8 b0, .int .i64 b1, .bool b2, .int .u8 b3, .int .u8 b4, .int .u8 b5, .int .u8 b6, .int .u8 b7, .int .i64 b8, .int .i64 b9, .bool b10, .int .u8 b11, .int .u8 b12, .int .i64 b13, .int .i64 b14, .bool b15, .int .u8 b16, .int .i64 b17, .bool b18, .int .u8 b19, .int .u8 b20, .int .i64 b21, .int .i64 b22, .bool b23, .int .u8 b24, .int .i64 b25])).run Try.prog w = .ok (.bool (!((a0 == b0) && (((a1 == b1) && ((a2 == b2) && (a3 == b3))) && (((a4 == b4) && ((a5 == b5) && ((a6 == b6) && (((a7 == b7) && ((a8 == b8) && ((a9 == b9) && ((a10 == b10) && (a11 == b11))))) && (((a12 == b12) && ((a13 == b13) && ((a14 == b14) && ((a15 == b15) && (a16 == b16))))) && ((a17 == b17) && ((a18 == b18) && (a19 == b19)))))))) && (((a20 == b20) && ((a21 == b21) && ((a22 == b22) && ((a23 == b23) && (a24 == b24))))) && (a25 == b25))))))) w := by
  have h := eqin_St 9995 w a0 b0 a1 b1 a3 b3 a4 b4 a5 b5 a6 b6 a7 b7 a8 b8 a9 b9 a11 b11 a12 b12 a13 b13 a14 b14 a16 b16 a17 b17 a19 b19 a20 b20 a21 b21 a22 b22 a24 b24 a25 b25 a2 b2 a10 b10 a15 b15 a18 b18 a23 b23
  simp only [binOp, Op.equal, Op.maxDepth, Sem.run_bind, h]; rfl
attribute [go_sem high] eql_St neq_St
end Go.Proofs.Ythackfblfkpddaa
