/- A part of the proof. -/
import Derived.RegionTactic
import Derived.BigRegion
import Derived.Laws.MakeOwn
import Derived.Laws.BitsAllLaws
import Derived.Deep.DeepCutAuto
import Derived.Deep.DeepMust
import Derived.Test.YtacmoaeglbggjaaGreatQ02
namespace Go.Proofs.YtacmoaeglbggjaaGreat
open Go.RowKit
set_option linter.unusedSimpArgs false
set_option linter.unusedVariables false
set_option maxRecDepth 100000
set_option maxHeartbeats 16000000
theorem zbd {P : Program} {w : World} {d : Nat} {xs ys : Array Value} {f : Field} {fs : List Field} {a b : Value} {r r' : Bool} (hn : f.name≠"_") (ha : (part f.type xs f.offset).run P w = .ok a w) (hb : (part f.type ys f.offset).run P w = .ok b w)
  (he:(Op.equalIn d f.type a b).run P w = .ok r w) (hr:(Op.eqFields d xs ys fs).run P w = .ok r' w):(Op.eqFields d xs ys (f::fs)).run P w = .ok (r&&r') w:=by
 rw[Op.eqFields,if_pos hn];simp only[Sem.run_bind,ha,hb,he,Result.andThen_ok];cases r
 ·rfl
 ·simpa using hr
theorem zhs {P : Program} {w : World} {d : Nat} {xs ys : Array Value} {f : Field} {a b : Value} {r : Bool} (hn : f.name≠"_") (ha : (part f.type xs f.offset).run P w = .ok a w) (hb : (part f.type ys f.offset).run P w = .ok b w)
  (he:(Op.equalIn d f.type a b).run P w = .ok r w):(Op.eqFields d xs ys [f]).run P w = .ok r w:=by
 have:=zbd (fs:=[]) hn ha hb he (r':=true) rfl
 simpa using this
theorem zsu (d : Nat)(w : World)(a0 b0 a1 b1 : Int): (Op.equalIn (d+2) 56 (.agg #[.int .u8 a0,.int .u8 a1]) (.agg #[.int .u8 b0,.int .u8 b1])).run Tryz.prog w = .ok (((a0==b0)&&(a1==b1))) w:=by
 rw[run_equalIn_struct w (d+1) 56 _ _ (by kernel_rfl) (by kernel_rfl)];simp only[Program.fieldsOf,Tryz.underlying56];show (Op.eqFields _ _ _ [_,_]).run _ _=_;refine zbd (by decide) (by first|(simp[go_sem];done)|(simp[go_sem];rfl)) (by first|(simp[go_sem];done)|(simp[go_sem];rfl)) (run_equalIn_int w (d+0) _ _ _ a0 b0 Tryz.underlying5) ?_;refine zhs (by decide) (by first|(simp[go_sem];done)|(simp[go_sem];rfl)) (by first|(simp[go_sem];done)|(simp[go_sem];rfl)) (run_equalIn_int w (d+0) _ _ _ a1 b1 Tryz.underlying5)
theorem z1p (w : World)(a0 b0 a1 b1 : Int): (binOp .eql 56 (.agg #[.int .u8 a0,.int .u8 a1]) (.agg #[.int .u8 b0,.int .u8 b1])).run Tryz.prog w = .ok (.bool (((a0==b0)&&(a1==b1)))) w:=by
 have h:=zsu 9998 w a0 b0 a1 b1;simp only[binOp,Op.equal,Op.maxDepth,Sem.run_bind,h];rfl
theorem z1q (w : World)(a0 b0 a1 b1 : Int): (binOp .neq 56 (.agg #[.int .u8 a0,.int .u8 a1]) (.agg #[.int .u8 b0,.int .u8 b1])).run Tryz.prog w = .ok (.bool (!((a0==b0)&&(a1==b1)))) w:=by
 have h:=zsu 9998 w a0 b0 a1 b1;simp only[binOp,Op.equal,Op.maxDepth,Sem.run_bind,h];rfl
attribute [go_sem high] z1p z1q
theorem zht (d : Nat)(w : World)(a0 b0 a2 b2 : Int)(a1 b1 : Bool): (Op.equalIn (d+2) 43 (.agg #[.int .i64 a0,.bool a1,.int .u8 a2]) (.agg #[.int .i64 b0,.bool b1,.int .u8 b2])).run Tryz.prog w = .ok (((a0==b0)&&((a1==b1)&&(a2==b2)))) w:=by
 rw[run_equalIn_struct w (d+1) 43 _ _ (by kernel_rfl) (by kernel_rfl)];simp only[Program.fieldsOf,Tryz.underlying43];show (Op.eqFields _ _ _ [_,_,_]).run _ _=_;refine zbd (by decide) (by first|(simp[go_sem];done)|(simp[go_sem];rfl)) (by first|(simp[go_sem];done)|(simp[go_sem];rfl)) (run_equalIn_int w (d+0) _ _ _ a0 b0 Tryz.underlying3) ?_;refine zbd (by decide) (by first|(simp[go_sem];done)|(simp[go_sem];rfl)) (by first|(simp[go_sem];done)|(simp[go_sem];rfl)) (run_equalIn_bool w (d+0) _ a1 b1 Tryz.underlying4) ?_;refine zhs (by decide) (by first|(simp[go_sem];done)|(simp[go_sem];rfl)) (by first|(simp[go_sem];done)|(simp[go_sem];rfl)) (run_equalIn_int w (d+0) _ _ _ a2 b2 Tryz.underlying5)
theorem ziz (w : World)(a0 b0 a2 b2 : Int)(a1 b1 : Bool): (binOp .eql 43 (.agg #[.int .i64 a0,.bool a1,.int .u8 a2]) (.agg #[.int .i64 b0,.bool b1,.int .u8 b2])).run Tryz.prog w = .ok (.bool (((a0==b0)&&((a1==b1)&&(a2==b2))))) w:=by
 have h:=zht 9998 w a0 b0 a2 b2 a1 b1;simp only[binOp,Op.equal,Op.maxDepth,Sem.run_bind,h];rfl
theorem z1r (w : World)(a0 b0 a2 b2 : Int)(a1 b1 : Bool): (binOp .neq 43 (.agg #[.int .i64 a0,.bool a1,.int .u8 a2]) (.agg #[.int .i64 b0,.bool b1,.int .u8 b2])).run Tryz.prog w = .ok (.bool (!((a0==b0)&&((a1==b1)&&(a2==b2))))) w:=by
 have h:=zht 9998 w a0 b0 a2 b2 a1 b1;simp only[binOp,Op.equal,Op.maxDepth,Sem.run_bind,h];rfl
attribute [go_sem high] ziz z1r
theorem zge (d : Nat)(w : World)(a0 b0 a1 b1 a2 b2 a4 b4 : Int)(a3 b3 : Bool): (Op.equalIn (d+3) 45 (.agg #[.int .u8 a0,.int .i64 a1,.int .i64 a2,.bool a3,.int .u8 a4]) (.agg #[.int .u8 b0,.int .i64 b1,.int .i64 b2,.bool b3,.int .u8 b4])).run Tryz.prog w = .ok (((a0==b0)&&((a1==b1)&&((a2==b2)&&((a3==b3)&&(a4==b4)))))) w:=by
 rw[run_equalIn_struct w (d+2) 45 _ _ (by kernel_rfl) (by kernel_rfl)];simp only[Program.fieldsOf,Tryz.underlying45];show (Op.eqFields _ _ _ [_,_,_]).run _ _=_;refine zbd (by decide) (by first|(simp[go_sem];done)|(simp[go_sem];rfl)) (by first|(simp[go_sem];done)|(simp[go_sem];rfl)) (run_equalIn_int w (d+1) _ _ _ a0 b0 Tryz.underlying5) ?_;refine zbd (by decide) (by first|(simp[go_sem];done)|(simp[go_sem];rfl)) (by first|(simp[go_sem];done)|(simp[go_sem];rfl)) (run_equalIn_int w (d+1) _ _ _ a1 b1 Tryz.underlying2) ?_;refine zhs (by decide) (by first|(simp[go_sem];done)|(simp[go_sem];rfl)) (by first|(simp[go_sem];done)|(simp[go_sem];rfl)) (zht (d+0) w a2 b2 a4 b4 a3 b3)
theorem zhu (w : World)(a0 b0 a1 b1 a2 b2 a4 b4 : Int)(a3 b3 : Bool): (binOp .eql 45 (.agg #[.int .u8 a0,.int .i64 a1,.int .i64 a2,.bool a3,.int .u8 a4]) (.agg #[.int .u8 b0,.int .i64 b1,.int .i64 b2,.bool b3,.int .u8 b4])).run Tryz.prog w = .ok (.bool (((a0==b0)&&((a1==b1)&&((a2==b2)&&((a3==b3)&&(a4==b4))))))) w:=by
 have h:=zge 9997 w a0 b0 a1 b1 a2 b2 a4 b4 a3 b3;simp only[binOp,Op.equal,Op.maxDepth,Sem.run_bind,h];rfl
theorem zzs (w : World)(a0 b0 a1 b1 a2 b2 a4 b4 : Int)(a3 b3 : Bool): (binOp .neq 45 (.agg #[.int .u8 a0,.int .i64 a1,.int .i64 a2,.bool a3,.int .u8 a4]) (.agg #[.int .u8 b0,.int .i64 b1,.int .i64 b2,.bool b3,.int .u8 b4])).run Tryz.prog w = .ok (.bool (!((a0==b0)&&((a1==b1)&&((a2==b2)&&((a3==b3)&&(a4==b4))))))) w:=by
 have h:=zge 9997 w a0 b0 a1 b1 a2 b2 a4 b4 a3 b3;simp only[binOp,Op.equal,Op.maxDepth,Sem.run_bind,h];rfl
attribute [go_sem high] zhu zzs
theorem zm0 (d : Nat)(w : World)(a0 b0 a1 b1 a2 b2 a3 b3 a4 b4 a5 b5 a7 b7 a8 b8 a9 b9 a10 b10 a12 b12 a13 b13 a15 b15 : Int)(a6 b6 a11 b11 a14 b14 : Bool): (Op.equalIn (d+4) 93 (.agg #[.int .u8 a0,.int .u8 a1,.int .u8 a2,.int .u8 a3,.int .i64 a4,.int .i64 a5,.bool a6,.int .u8 a7,.int .u8 a8,.int .i64 a9,.int .i64 a10,.bool a11,.int .u8 a12,.int .i64 a13,.bool a14,.int .u8 a15]) (.agg #[.int .u8 b0,.int .u8 b1,.int .u8 b2,.int .u8 b3,.int .i64 b4,.int .i64 b5,.bool b6,.int .u8 b7,.int .u8 b8,.int .i64 b9,.int .i64 b10,.bool b11,.int .u8 b12,.int .i64 b13,.bool b14,.int .u8 b15])).run Tryz.prog w = .ok (((a0==b0)&&((a1==b1)&&((a2==b2)&&(((a3==b3)&&((a4==b4)&&((a5==b5)&&((a6==b6)&&(a7==b7)))))&&(((a8==b8)&&((a9==b9)&&((a10==b10)&&((a11==b11)&&(a12==b12)))))&&((a13==b13)&&((a14==b14)&&(a15==b15))))))))) w:=by
 rw[run_equalIn_struct w (d+3) 93 _ _ (by kernel_rfl) (by kernel_rfl)];simp only[Program.fieldsOf,Tryz.underlying93];show (Op.eqFields _ _ _ [_,_,_,_,_,_]).run _ _=_;refine zbd (by decide) (by first|(simp[go_sem];done)|(simp[go_sem];rfl)) (by first|(simp[go_sem];done)|(simp[go_sem];rfl)) (run_equalIn_int w (d+2) _ _ _ a0 b0 Tryz.underlying5) ?_;refine zbd (by decide) (by first|(simp[go_sem];done)|(simp[go_sem];rfl)) (by first|(simp[go_sem];done)|(simp[go_sem];rfl)) (run_equalIn_int w (d+2) _ _ _ a1 b1 Tryz.underlying5) ?_;refine zbd (by decide) (by first|(simp[go_sem];done)|(simp[go_sem];rfl)) (by first|(simp[go_sem];done)|(simp[go_sem];rfl)) (run_equalIn_int w (d+2) _ _ _ a2 b2 Tryz.underlying5) ?_;refine zbd (by decide) (by first|(simp[go_sem];done)|(simp[go_sem];rfl)) (by first|(simp[go_sem];done)|(simp[go_sem];rfl)) (zge (d+0) w a3 b3 a4 b4 a5 b5 a7 b7 a6 b6) ?_;refine zbd (by decide) (by first|(simp[go_sem];done)|(simp[go_sem];rfl)) (by first|(simp[go_sem];done)|(simp[go_sem];rfl)) (zge (d+0) w a8 b8 a9 b9 a10 b10 a12 b12 a11 b11) ?_;refine zhs (by decide) (by first|(simp[go_sem];done)|(simp[go_sem];rfl)) (by first|(simp[go_sem];done)|(simp[go_sem];rfl)) (zht (d+1) w a13 b13 a15 b15 a14 b14)
theorem z1s (w : World)(a0 b0 a1 b1 a2 b2 a3 b3 a4 b4 a5 b5 a7 b7 a8 b8 a9 b9 a10 b10 a12 b12 a13 b13 a15 b15 : Int)(a6 b6 a11 b11 a14 b14 : Bool): (binOp .eql 93 (.agg #[.int .u8 a0,.int .u8 a1,.int .u8 a2,.int .u8 a3,.int .i64 a4,.int .i64 a5,.bool a6,.int .u8 a7,.int .u8 a8,.int .i64 a9,.int .i64 a10,.bool a11,.int .u8 a12,.int .i64 a13,.bool a14,.int .u8 a15]) (.agg #[.int .u8 b0,.int .u8 b1,.int .u8 b2,.int .u8 b3,.int .i64 b4,.int .i64 b5,.bool b6,.int .u8 b7,.int .u8 b8,.int .i64 b9,.int .i64 b10,.bool b11,.int .u8 b12,.int .i64 b13,.bool b14,.int .u8 b15])).run Tryz.prog w = .ok (.bool (((a0==b0)&&((a1==b1)&&((a2==b2)&&(((a3==b3)&&((a4==b4)&&((a5==b5)&&((a6==b6)&&(a7==b7)))))&&(((a8==b8)&&((a9==b9)&&((a10==b10)&&((a11==b11)&&(a12==b12)))))&&((a13==b13)&&((a14==b14)&&(a15==b15)))))))))) w:=by
 have h:=zm0 9996 w a0 b0 a1 b1 a2 b2 a3 b3 a4 b4 a5 b5 a7 b7 a8 b8 a9 b9 a10 b10 a12 b12 a13 b13 a15 b15 a6 b6 a11 b11 a14 b14;simp only[binOp,Op.equal,Op.maxDepth,Sem.run_bind,h];rfl
theorem z1t (w : World)(a0 b0 a1 b1 a2 b2 a3 b3 a4 b4 a5 b5 a7 b7 a8 b8 a9 b9 a10 b10 a12 b12 a13 b13 a15 b15 : Int)(a6 b6 a11 b11 a14 b14 : Bool): (binOp .neq 93 (.agg #[.int .u8 a0,.int .u8 a1,.int .u8 a2,.int .u8 a3,.int .i64 a4,.int .i64 a5,.bool a6,.int .u8 a7,.int .u8 a8,.int .i64 a9,.int .i64 a10,.bool a11,.int .u8 a12,.int .i64 a13,.bool a14,.int .u8 a15]) (.agg #[.int .u8 b0,.int .u8 b1,.int .u8 b2,.int .u8 b3,.int .i64 b4,.int .i64 b5,.bool b6,.int .u8 b7,.int .u8 b8,.int .i64 b9,.int .i64 b10,.bool b11,.int .u8 b12,.int .i64 b13,.bool b14,.int .u8 b15])).run Tryz.prog w = .ok (.bool (!((a0==b0)&&((a1==b1)&&((a2==b2)&&(((a3==b3)&&((a4==b4)&&((a5==b5)&&((a6==b6)&&(a7==b7)))))&&(((a8==b8)&&((a9==b9)&&((a10==b10)&&((a11==b11)&&(a12==b12)))))&&((a13==b13)&&((a14==b14)&&(a15==b15)))))))))) w:=by
 have h:=zm0 9996 w a0 b0 a1 b1 a2 b2 a3 b3 a4 b4 a5 b5 a7 b7 a8 b8 a9 b9 a10 b10 a12 b12 a13 b13 a15 b15 a6 b6 a11 b11 a14 b14;simp only[binOp,Op.equal,Op.maxDepth,Sem.run_bind,h];rfl
attribute [go_sem high] z1s z1t
theorem zsv (d : Nat)(w : World)(a0 b0 a1 b1 a3 b3 a4 b4 a5 b5 a6 b6 a7 b7 a8 b8 a9 b9 a11 b11 a12 b12 a13 b13 a14 b14 a16 b16 a17 b17 a19 b19 a20 b20 a21 b21 a22 b22 a24 b24 a25 b25 : Int)(a2 b2 a10 b10 a15 b15 a18 b18 a23 b23 : Bool): (Op.equalIn (d+5) 95 (.agg #[.int .u8 a0,.int .i64 a1,.bool a2,.int .u8 a3,.int .u8 a4,.int .u8 a5,.int .u8 a6,.int .u8 a7,.int .i64 a8,.int .i64 a9,.bool a10,.int .u8 a11,.int .u8 a12,.int .i64 a13,.int .i64 a14,.bool a15,.int .u8 a16,.int .i64 a17,.bool a18,.int .u8 a19,.int .u8 a20,.int .i64 a21,.int .i64 a22,.bool a23,.int .u8 a24,.int .i64 a25]) (.agg #[.int .u8 b0,.int .i64 b1,.bool b2,.int .u8 b3,.int .u8 b4,.int .u8 b5,.int .u8 b6,.int .u8 b7,.int .i64 b8,.int .i64 b9,.bool b10,.int .u8 b11,.int .u8 b12,.int .i64 b13,.int .i64 b14,.bool b15,.int .u8 b16,.int .i64 b17,.bool b18,.int .u8 b19,.int .u8 b20,.int .i64 b21,.int .i64 b22,.bool b23,.int .u8 b24,.int .i64 b25])).run Tryz.prog w = .ok (((a0==b0)&&(((a1==b1)&&((a2==b2)&&(a3==b3)))&&(((a4==b4)&&((a5==b5)&&((a6==b6)&&(((a7==b7)&&((a8==b8)&&((a9==b9)&&((a10==b10)&&(a11==b11)))))&&(((a12==b12)&&((a13==b13)&&((a14==b14)&&((a15==b15)&&(a16==b16)))))&&((a17==b17)&&((a18==b18)&&(a19==b19))))))))&&(((a20==b20)&&((a21==b21)&&((a22==b22)&&((a23==b23)&&(a24==b24)))))&&(a25==b25)))))) w:=by
 rw[run_equalIn_struct w (d+4) 95 _ _ (by kernel_rfl) (by kernel_rfl)];simp only[Program.fieldsOf,Tryz.underlying95];show (Op.eqFields _ _ _ [_,_,_,_,_]).run _ _=_;refine zbd (by decide) (by first|(simp[go_sem];done)|(simp[go_sem];rfl)) (by first|(simp[go_sem];done)|(simp[go_sem];rfl)) (run_equalIn_int w (d+3) _ _ _ a0 b0 Tryz.underlying5) ?_;refine zbd (by decide) (by first|(simp[go_sem];done)|(simp[go_sem];rfl)) (by first|(simp[go_sem];done)|(simp[go_sem];rfl)) (zht (d+2) w a1 b1 a3 b3 a2 b2) ?_;refine zbd (by decide) (by first|(simp[go_sem];done)|(simp[go_sem];rfl)) (by first|(simp[go_sem];done)|(simp[go_sem];rfl)) (zm0 (d+0) w a4 b4 a5 b5 a6 b6 a7 b7 a8 b8 a9 b9 a11 b11 a12 b12 a13 b13 a14 b14 a16 b16 a17 b17 a19 b19 a10 b10 a15 b15 a18 b18) ?_;refine zbd (by decide) (by first|(simp[go_sem];done)|(simp[go_sem];rfl)) (by first|(simp[go_sem];done)|(simp[go_sem];rfl)) (zge (d+1) w a20 b20 a21 b21 a22 b22 a24 b24 a23 b23) ?_;refine zhs (by decide) (by first|(simp[go_sem];done)|(simp[go_sem];rfl)) (by first|(simp[go_sem];done)|(simp[go_sem];rfl)) (run_equalIn_int w (d+3) _ _ _ a25 b25 Tryz.underlying3)
theorem z1u (w : World)(a0 b0 a1 b1 a3 b3 a4 b4 a5 b5 a6 b6 a7 b7 a8 b8 a9 b9 a11 b11 a12 b12 a13 b13 a14 b14 a16 b16 a17 b17 a19 b19 a20 b20 a21 b21 a22 b22 a24 b24 a25 b25 : Int)(a2 b2 a10 b10 a15 b15 a18 b18 a23 b23 : Bool): (binOp .eql 95 (.agg #[.int .u8 a0,.int .i64 a1,.bool a2,.int .u8 a3,.int .u8 a4,.int .u8 a5,.int .u8 a6,.int .u8 a7,.int .i64 a8,.int .i64 a9,.bool a10,.int .u8 a11,.int .u8 a12,.int .i64 a13,.int .i64 a14,.bool a15,.int .u8 a16,.int .i64 a17,.bool a18,.int .u8 a19,.int .u8 a20,.int .i64 a21,.int .i64 a22,.bool a23,.int .u8 a24,.int .i64 a25]) (.agg #[.int .u8 b0,.int .i64 b1,.bool b2,.int .u8 b3,.int .u8 b4,.int .u8 b5,.int .u8 b6,.int .u8 b7,.int .i64 b8,.int .i64 b9,.bool b10,.int .u8 b11,.int .u8 b12,.int .i64 b13,.int .i64 b14,.bool b15,.int .u8 b16,.int .i64 b17,.bool b18,.int .u8 b19,.int .u8 b20,.int .i64 b21,.int .i64 b22,.bool b23,.int .u8 b24,.int .i64 b25])).run Tryz.prog w = .ok (.bool (((a0==b0)&&(((a1==b1)&&((a2==b2)&&(a3==b3)))&&(((a4==b4)&&((a5==b5)&&((a6==b6)&&(((a7==b7)&&((a8==b8)&&((a9==b9)&&((a10==b10)&&(a11==b11)))))&&(((a12==b12)&&((a13==b13)&&((a14==b14)&&((a15==b15)&&(a16==b16)))))&&((a17==b17)&&((a18==b18)&&(a19==b19))))))))&&(((a20==b20)&&((a21==b21)&&((a22==b22)&&((a23==b23)&&(a24==b24)))))&&(a25==b25))))))) w:=by
 have h:=zsv 9995 w a0 b0 a1 b1 a3 b3 a4 b4 a5 b5 a6 b6 a7 b7 a8 b8 a9 b9 a11 b11 a12 b12 a13 b13 a14 b14 a16 b16 a17 b17 a19 b19 a20 b20 a21 b21 a22 b22 a24 b24 a25 b25 a2 b2 a10 b10 a15 b15 a18 b18 a23 b23;simp only[binOp,Op.equal,Op.maxDepth,Sem.run_bind,h];rfl
theorem z1v (w : World)(a0 b0 a1 b1 a3 b3 a4 b4 a5 b5 a6 b6 a7 b7 a8 b8 a9 b9 a11 b11 a12 b12 a13 b13 a14 b14 a16 b16 a17 b17 a19 b19 a20 b20 a21 b21 a22 b22 a24 b24 a25 b25 : Int)(a2 b2 a10 b10 a15 b15 a18 b18 a23 b23 : Bool): (binOp .neq 95 (.agg #[.int .u8 a0,.int .i64 a1,.bool a2,.int .u8 a3,.int .u8 a4,.int .u8 a5,.int .u8 a6,.int .u8 a7,.int .i64 a8,.int .i64 a9,.bool a10,.int .u8 a11,.int .u8 a12,.int .i64 a13,.int .i64 a14,.bool a15,.int .u8 a16,.int .i64 a17,.bool a18,.int .u8 a19,.int .u8 a20,.int .i64 a21,.int .i64 a22,.bool a23,.int .u8 a24,.int .i64 a25]) (.agg #[.int .u8 b0,.int .i64 b1,.bool b2,.int .u8 b3,.int .u8 b4,.int .u8 b5,.int .u8 b6,.int .u8 b7,.int .i64 b8,.int .i64 b9,.bool b10,.int .u8 b11,.int .u8 b12,.int .i64 b13,.int .i64 b14,.bool b15,.int .u8 b16,.int .i64 b17,.bool b18,.int .u8 b19,.int .u8 b20,.int .i64 b21,.int .i64 b22,.bool b23,.int .u8 b24,.int .i64 b25])).run Tryz.prog w = .ok (.bool (!((a0==b0)&&(((a1==b1)&&((a2==b2)&&(a3==b3)))&&(((a4==b4)&&((a5==b5)&&((a6==b6)&&(((a7==b7)&&((a8==b8)&&((a9==b9)&&((a10==b10)&&(a11==b11)))))&&(((a12==b12)&&((a13==b13)&&((a14==b14)&&((a15==b15)&&(a16==b16)))))&&((a17==b17)&&((a18==b18)&&(a19==b19))))))))&&(((a20==b20)&&((a21==b21)&&((a22==b22)&&((a23==b23)&&(a24==b24)))))&&(a25==b25))))))) w:=by
 have h:=zsv 9995 w a0 b0 a1 b1 a3 b3 a4 b4 a5 b5 a6 b6 a7 b7 a8 b8 a9 b9 a11 b11 a12 b12 a13 b13 a14 b14 a16 b16 a17 b17 a19 b19 a20 b20 a21 b21 a22 b22 a24 b24 a25 b25 a2 b2 a10 b10 a15 b15 a18 b18 a23 b23;simp only[binOp,Op.equal,Op.maxDepth,Sem.run_bind,h];rfl
attribute [go_sem high] z1u z1v
theorem zb0 (s : St)(w : World)(hw : s.wf):
  Calls Tryz.prog 66 #[s.v] w (Ret w (.int .i64 (stErr s))):=by
 have hr:=hw.r;by_cases h1:(s.kind==1)=true
 ·go_enter Tryz.func66,Tryz.ntmps66
  go_wp2_with fail;go_region
  go_wp2_with fail
  (refine zg (by kernel_rfl) (by kernel_rfl) ?_;(repeat (any_goals (first|go_big_quiet_step (first|(go_at_call 104;refine zr (zb4 s.pl _))|(go_at_call 105;refine zr (zhf s.r _ hr)))|(refine wpQuiet_step (fun K hK=>?_);go_simp;split<;>(refine hK _ ?_;clear hK K)))));all_goals (refine wpQuiet_nil ?_;intro w1 hb1;obtain⟨x1,rfl⟩:=za hb1;clear hb1))
  go_wp2_with fail;all_goals go_ret
  all_goals (refine Ret.int ?_ gw)
  all_goals (go_light;have h2:=zcr s.pl;have h3:=zxn s.r;have h4:=zec s.r;clear hw hr;unfold stErr stOk opdZ OpdZ PlZ;grind)
 ·have h1:(s.kind==1)=false:=by simpa using h1
  go_enter Tryz.func66,Tryz.ntmps66
  go_wp2_with (first|(go_at_call 106;((with_reducible refine armV (zcl s.a _) ?_);intro x1))|(go_at_call 104;((with_reducible refine armV (zb4 ⟨s.loc,false,0⟩ _) ?_);intro x2)));all_goals go_ret
  all_goals (refine Ret.int ?_ gw)
  all_goals (go_light;have h2:=zeb s.a;have h3:=zcr ⟨s.loc,false,0⟩;have h4:=za8 ⟨s.loc,false,0⟩;clear hw hr;unfold stErr stOk plZ rvZ opdZ OpdZ PlZ;grind)
instance : Rp Int where
 sz:=1
 R _ _ n cs:=cs = [.int .i64 n]∧I64 n
 len h:=by obtain⟨rfl,_⟩:=h;rfl
 keep _ h:=h
 wide _ h:=h
theorem zfk : Rp.sz Int=1:=rfl
attribute [go_sem] zfk
structure AtInt (F : Nat→Prop)(w : World)(ts : List Int)(i : Nat)(b off : Nat)(x : Int): Prop where
 g:Hid (ts[i]?=some x)
 lt:LtW b w
 wf:I64 x
 c0:w.cell? ⟨b,off+i,none⟩=some (.int .i64 x)
theorem Sl.int {F : Nat→Prop}{w : World}{a : Option Addr}{n cap : Nat}{ts : List Int}(h : Sl F w (.slice a n cap) ts)(i : Nat)(hi : i<n): ∃ b off x,a=some ⟨b,off,none⟩∧AtInt F w ts i b off x:=by
 obtain⟨b,off,x,cs,ha,hx,hlt,⟨rfl,hw⟩,hc⟩:=h.get i hi;exact⟨b,off,x,ha,⟨hx,hlt,hw,by have:=hc 0 (by simp);simpa[zfk] using this⟩⟩
abbrev Vis:=Pl×Bool
def visO (may : Bool)(o : Opd): List Vis:=if o.kind=1 then [] else [(o.pl,may&&decide (o.kind=3))]
def visOs (may : Bool)(l : List Opd): List Vis:=l.flatMap (visO may)
def visR (r : Rv): List Vis:=if r.kind=4∨r.kind=5 then [(r.pl,false)] else if r.kind=1 then visOs true [r.a] else visOs false [r.a,r.b]
def visS (s : St): List Vis:=if s.kind=3 then [(⟨s.loc,false,0⟩,false)] else if s.kind=2∨s.kind=4 then visOs false [s.a] else if s.kind=1 then (s.pl,false)::visR s.r else []
def visJ (j : Ju): List Vis:=if j.kind=2 then visOs false [j.a] else if j.kind=4 then (j.dest,false)::visOs true j.args else []
def zac {S : Type}(step : S→Pl→Bool→S)(s : S)(vs : List Vis): S:=vs.foldl (fun s v=>step s v.1 v.2) s
theorem zfb {S : Type}(step : S→Pl→Bool→S)(s : S): zac step s []=s:=rfl
theorem zbu {S : Type}(step : S→Pl→Bool→S)(s : S)(v : Vis)(vs : List Vis): zac step s (v::vs)=zac step (step s v.1 v.2) vs:=rfl
theorem zhv {S : Type}(step : S→Pl→Bool→S)(s : S)(us vs : List Vis): zac step s (us++vs)=zac step (zac step s us) vs:=by
 unfold zac;exact List.foldl_append ..
theorem zt6 {may : Bool}{l : List Opd}{k : Nat}{x : Opd}(h : Hid (l[k]?=some x)): visOs may (l.take (k+1))=visOs may (l.take k)++visO may x:=by
 unfold visOs;rw[List.take_add_one,h.out];simp
theorem zaa (W : World)(x y : Ext): ext (ext W x) y=ext W ⟨y.d,x.x++y.x⟩:=by simp[ext,Array.append_assoc]
theorem zbi (W : World): ext W ⟨W.drawn,#[]⟩=W:=by simp[ext]
theorem zi0 (W : World)(o : Obj)(x : Ext): ext (W.alloc o) x=ext W ⟨x.d,#[o]++x.x⟩:=by
 simp only[ext,World.alloc];congr 1;apply Array.ext';simp
structure On {S : Type}(k : Nat)(c1 c2 : Value)(W : S→World)(step : S→Pl→Bool→S)(G : Pl→Prop): Prop where
 size:∀ s s',(W s).heap.size=(W s').heap.size
 call:∀ s x (p:Pl) b,p.wf→G p→Calls Tryz.prog k #[p.v,.bool b,c1,c2] (ext (W s) x) (fun e w'=>e = .returned (.tuple #[])∧∃ y,w'=ext (ext (W (step s p b)) x) y)
theorem On.ext {S : Type}{k : Nat}{c1 c2 : Value}{W : S→World}{step : S→Pl→Bool→S}{G : Pl→Prop}(h : On k c1 c2 W step G)(x0 : Ext): On k c1 c2 (fun s=>Go.Proofs.YtacmoaeglbggjaaGreat.ext (W s) x0) step G where
 size s s':=by simp only[zdh];rw[h.size s s']
 call s x p b hw hp:=by
  have q:=h.call s ⟨x.d,x0.x++x.x⟩ p b hw hp;rw[←zaa] at q;refine q.mono fun e w' ⟨he,y,hy⟩=>⟨he,y,?_⟩
  rw[hy];congr 1;rw[zaa]
theorem On.alloc {S : Type}{k : Nat}{c1 c2 : Value}{W : S→World}{step : S→Pl→Bool→S}{G : Pl→Prop}(h : On k c1 c2 W step G)(o : Obj): On k c1 c2 (fun s=>(W s).alloc o) step G where
 size s s':=by simp only[zav];rw[h.size s s']
 call s x p b hw hp:=by
  have q:=h.call s ⟨x.d,#[o]++x.x⟩ p b hw hp;rw[←zi0] at q;refine q.mono fun e w' ⟨he,y,hy⟩=>⟨he,y,?_⟩
  rw[hy];congr 1;rw[zi0]
theorem On.at {S : Type}{k : Nat}{c1 c2 : Value}{W : S→World}{step : S→Pl→Bool→S}{G : Pl→Prop}(h : On k c1 c2 W step G)(s : S)(p : Pl)(b : Bool)(hw : p.wf)(hp : G p):
  Calls Tryz.prog k #[p.v,.bool b,c1,c2] (W s) (fun e w'=>e = .returned (.tuple #[])∧∃ y,w'=Go.Proofs.YtacmoaeglbggjaaGreat.ext (W (step s p b)) y):=by
 have q:=h.call s ⟨(W s).drawn,#[]⟩ p b hw hp;rw[zbi] at q;refine q.mono fun e w' ⟨he,y,hy⟩=>⟨he,⟨y.d,#[]++y.x⟩,?_⟩
 rw[hy,zaa]
theorem On.szW {S : Type}{k : Nat}{c1 c2 : Value}{W : S→World}{step : S→Pl→Bool→S}{G : Pl→Prop}(h : On k c1 c2 W step G)(s s' : S): EqW (W s).heap.size (W s'):=⟨h.size s s'⟩
def Told {S : Type}(W : S→World)(s : S)(e : Ending)(w' : World): Prop:=e = .returned (.tuple #[])∧∃ y,w'=ext (W s) y
set_option linter.unusedVariables false
def vA (n : Nat)(f : Nat→Value): Array Value:=((List.range n).map f).toArray
def up {α : Type}(h : Nat→α)(i : Nat)(v : α): Nat→α:=fun k=>if k=i then v else h k
theorem zm {α : Type}(h : Nat→α)(i : Nat)(v : α): up h i v i=v:=by simp[up]
theorem up_ne {α : Type}(h : Nat→α){i k : Nat}(v : α)(e : k≠i): up h i v k=h k:=by simp[up,e]
theorem zhw (n : Nat)(f : Nat→Value): (vA n f).size=n:=by simp[vA]
theorem zca (n : Nat)(f : Nat→Value)(i : Nat)(hi : i<n): (vA n f)[i]?=some (f i):=by unfold vA;simp[hi]
theorem zhx (n : Nat)(f : Nat→Value)(i : Nat)(v : Value)(hi : i<n): (vA n f).setIfInBounds i v=vA n (up f i v):=by
 apply Array.ext_getElem?;intro k;rw[Array.getElem?_setIfInBounds];by_cases hk:k<n
 ·by_cases e:i=k
  ·subst e;rw[if_pos rfl,if_pos (by rw[zhw];exact hi),zca _ _ _ hk,zm]
  ·rw[if_neg e,zca _ _ _ hk,zca _ _ _ hk,up_ne _ _ (Ne.symm e)]
 ·rw[if_neg om,Array.getElem?_eq_none (by rw[zhw];omega),Array.getElem?_eq_none (by rw[zhw];omega)]
theorem zic {n : Nat}{f g : Nat→Value}(h : ∀ i,i<n→f i=g i): vA n f=vA n g:=by
 unfold vA;congr 1;exact List.map_congr_left fun i hi=>h i (List.mem_range.1 hi)
theorem zzt (v : Value)(n : Nat): madeCells #[v] n=vA n (fun _=>v):=by
 apply Array.ext_getElem?;intro k;by_cases hk:k<n
 ·rw[zca _ _ _ hk];unfold madeCells;simp[hk,Nat.mod_one]
 ·rw[Array.getElem?_eq_none (by rw[size_madeCells];omega),Array.getElem?_eq_none (by rw[zhw];omega)]
def bA (n : Nat)(h : Nat→Bool): Array Value:=vA n (fun i=>.bool (h i))
theorem zan (n : Nat)(h : Nat→Bool)(i : Nat)(hi : i<n): (bA n h)[i]?=some (.bool (h i)):=zca _ _ _ hi
theorem zcm (n : Nat)(h : Nat→Bool)(i : Nat)(v : Bool)(hi : i<n): (bA n h).setIfInBounds i (.bool v)=bA n (up h i v):=by
 unfold bA;rw[zhx _ _ _ _ hi];apply zic;intro k _;unfold up;split<;>rfl
def mkN : Nat→(Nat→Bool)→Nat
 |0,_=>0
 |k+1,S=>(S 0).toNat+2 * mkN k (fun i=>S (i+1))
theorem zci : ∀ (k : Nat) (S : Nat→Bool) (i : Nat),(mkN k S).testBit i=(decide (i<k)&&S i)
 |0,S,i=>by simp[mkN]
 |k+1,S,0=>by
  rw[Nat.testBit_zero];unfold mkN;cases S 0<;>simp<;>omega
 |k+1,S,i+1=>by
  have h:(mkN (k+1) S) / 2=mkN k (fun i=>S (i+1)):=by
   show ((S 0).toNat+2 * mkN k (fun i=>S (i+1))) / 2=_;cases S 0<;>simp<;>omega
  rw[Nat.testBit_succ,h,zci k];simp
theorem zlj : ∀ (k : Nat) (S : Nat→Bool),mkN k S<2 ^ k
 |0,S=>by simp[mkN]
 |k+1,S=>by
  have:=zlj k (fun i=>S (i+1))
  show (S 0).toNat+2 * mkN k (fun i=>S (i+1))<2 ^ (k+1);rw[Nat.pow_succ];cases S 0<;>simp<;>omega
theorem zve : ∀ (k q : Nat) (S : Nat→Bool),q<k→S q=false→mkN k (up S q true)=mkN k S+2 ^ q
 |0,_,_,h,_=>absurd h (Nat.not_lt_zero _)
 |k+1,0,S,_,h=>by
  show (up S 0 true 0).toNat+2 * mkN k (fun i=>up S 0 true (i+1))=(S 0).toNat+2 * mkN k (fun i=>S (i+1))+2 ^ 0;have e:(fun i=>up S 0 true (i+1))=(fun i=>S (i+1)):=by funext i;simp[up]
  rw[e,zm,h];simp;omega
 |k+1,q+1,S,hq,h=>by
  show (up S (q+1) true 0).toNat+2 * mkN k (fun i=>up S (q+1) true (i+1))=(S 0).toNat+2 * mkN k (fun i=>S (i+1))+2 ^ (q+1);have e:(fun i=>up S (q+1) true (i+1))=up (fun i=>S (i+1)) q true:=by funext i;simp[up]
  rw[e,zve k q (fun i=>S (i+1)) om h,up_ne _ _ om,Nat.pow_succ];omega
attribute [irreducible] mkN
def mk (S : Nat→Bool): Int:=((mkN 16 S : Nat) : Int)
theorem mk_eq {m : Nat}{S : Nat→Bool}(h : ∀ i,m.testBit i=(decide (i<16)&&S i)): (m : Int)=mk S:=by
 have e:m=mkN 16 S:=Nat.eq_of_testBit_eq fun i=>by rw[h i,zci]
 unfold mk;rw[e]
theorem zid {S T : Nat→Bool}(h : ∀ i,i<16→S i=T i): mk S=mk T:=by
 refine(mk_eq (m:=mkN 16 S) (S:=T) fun i=>?_);rw[zci];by_cases e:i<16
 ·rw[h i e]
 ·simp[e]
theorem zpi {S T : Nat→Bool}(h : mk S=mk T): ∀ i,i<16→S i=T i:=by
 intro i hi;have:mkN 16 S=mkN 16 T:=Int.ofNat_inj.1 h
 have h2:=zci 16 S i;have h3:=zci 16 T i;rw[this,h3] at h2;simpa[hi] using h2.symm
theorem ze2 (S : Nat→Bool): mkN 16 S<4294967296:=Nat.lt_of_lt_of_le (zlj 16 S) (by decide)
theorem zpj (S T : Nat→Bool): bits .and .u32 (mk S) (mk T)=mk (fun i=>S i&&T i):=by
 unfold mk;rw[u32_and_nat _ _ (ze2 _) (ze2 _)];refine mk_eq fun i=>?_;rw[Nat.testBit_and,zci,zci];cases decide (i<16)<;>simp
theorem mk_or (S T : Nat→Bool): bits .or .u32 (mk S) (mk T)=mk (fun i=>S i||T i):=by
 unfold mk;rw[u32_or_nat _ _ (ze2 _) (ze2 _)];refine mk_eq fun i=>?_;rw[Nat.testBit_or,zci,zci];cases decide (i<16)<;>simp
theorem zvf (S T : Nat→Bool): bits .andNot .u32 (mk S) (mk T)=mk (fun i=>S i&&!T i):=by
 unfold mk;rw[u32_andNot_nat _ _ (ze2 _) (ze2 _)];refine mk_eq fun i=>?_;have hlt:=zlj 16 T;rw[Nat.testBit_and,zci,show 4294967295 - mkN 16 T=2 ^ 32 - (mkN 16 T+1) from by omega,Nat.testBit_two_pow_sub_succ (Nat.lt_of_lt_of_le hlt (by decide)),zci];by_cases e:i<16
 ·have:i<32:=om
  simp[e,this]
 ·simp[e]
def one (q : Nat): Nat→Bool:=fun i=>decide (i=q)
theorem zpk (q : Nat)(hq : q<16): ((2 ^ q : Nat) : Int)=mk (one q):=by
 refine mk_eq fun i=>?_;rw[Nat.testBit_two_pow];unfold one;by_cases e:i=q
 ·subst e;simp[hq]
 ·simp[e,Ne.symm e]
theorem zjv : (0 : Int)=mk (fun _=>false):=by
 have:=@mk_eq 0 (fun _=>false) (fun i=>by simp);simpa using this
theorem zvg (S : Nat→Bool)(q : Nat)(hq : q<16): (bits .and .u32 (mk S) (mk (one q))=0)↔S q=false:=by
 rw[zpj,zjv];constructor
 ·intro h;have:=zpi h q hq;simpa[one] using this
 ·intro h;refine zid fun i hi=>?_;unfold one;by_cases e:i=q
  ·subst e;simp[h]
  ·simp[e]
theorem zlk (S : Nat→Bool)(q : Nat): bits .or .u32 (mk S) (mk (one q))=mk (up S q true):=by
 rw[mk_or];refine zid fun i _=>?_;unfold one up;by_cases e:i=q<;>simp[e]
theorem zpl (S : Nat→Bool)(q : Nat): bits .andNot .u32 (mk S) (mk (one q))=mk (up S q false):=by
 rw[zvf];refine zid fun i _=>?_;unfold one up;by_cases e:i=q<;>simp[e]
theorem z1w (n : Nat)(hn : n≤16): ((2 ^ n : Nat) : Int) - 1=mk (fun i=>decide (i<n)):=by
 have h0:1≤2 ^ n:=Nat.one_le_two_pow;rw[show ((2 ^ n:Nat):Int) - 1=((2 ^ n - 1:Nat):Int) from by omega];refine mk_eq fun i=>?_;rw[Nat.testBit_two_pow_sub_one];by_cases e:i<n
 ·have:i<16:=om
  simp[e,this]
 ·simp[e]
theorem zvh (n : Nat)(hn : n<16): (((2 ^ n : Nat) : Int) - 1) * 2=mk (fun i=>decide (1≤i∧i≤n)):=by
 have h0:1≤2 ^ n:=Nat.one_le_two_pow;have e:(((2 ^ n:Nat):Int) - 1) * 2=(((2 ^ n - 1) <<< 1:Nat):Int):=by rw[Nat.shiftLeft_eq];omega
 refine e.trans (mk_eq fun i=>?_);rw[Nat.testBit_shiftLeft,Nat.testBit_two_pow_sub_one];by_cases e:1≤i
 ·by_cases e2:i≤n
  ·have h1:i - 1<n:=om;have h2:i<16:=om;simp[e,e2,h1,h2]
  ·have h1:¬i - 1<n:=om;simp[e,e2,h1]
 ·simp[e]
theorem z1x (S : Nat→Bool)(q : Nat)(hq : q<16)(h : S q=false): mk S+((2 ^ q : Nat) : Int)=mk (up S q true):=by
 unfold mk;rw[zve 16 q S hq h,Int.natCast_add]
theorem z1y (S : Nat→Bool)(q : Nat)(hq : q<16): (bits .and .u32 (Int.fdiv (mk S) (2 ^ q)) 1)=((S q).toNat : Int):=by
 have hb:=zci 16 S q;have hlt:=ze2 S;unfold mk;generalize mkN 16 S=m at hb hlt;have e:Int.fdiv (m:Int) (2 ^ q)=((m / 2 ^ q:Nat):Int):=by
  rw[show ((2:Int) ^ q)=((2 ^ q:Nat):Int) from by simp,Int.fdiv_eq_ediv_of_nonneg _ (Int.natCast_nonneg _),Int.natCast_ediv]
 rw[e,show (1:Int)=((1:Nat):Int) from rfl,u32_and_nat _ _ (Nat.lt_of_le_of_lt (Nat.div_le_self _ _) hlt) (by decide)];congr 1
 rw[Nat.and_one_is_mod];rw[Nat.testBit_eq_decide_div_mod_eq] at hb;have h2:m / 2 ^ q % 2<2:=Nat.mod_lt _ (by decide);generalize m / 2 ^ q % 2=r at hb h2;cases hS:S q<;>simp[hS,hq] at hb ⊢<;>omega
structure Mk where
 S:Nat→Bool
instance : Rp Mk where
 sz:=1
 R _ _ m cs:=cs = [.int .u32 (mk m.S)]
 len h:=by subst h;rfl
 keep _ h:=h
 wide _ h:=h
instance : Rp Bool where
 sz:=1
 R _ _ b cs:=cs = [.bool b]
 len h:=by subst h;rfl
 keep _ h:=h
 wide _ h:=h
instance instRpL {α : Type}[Rp α]: Rp (List α) where
 sz:=1
 R F w l cs:=∃ a n c,cs = [.slice a n c]∧Sl F w (.slice a n c) l
 len h:=by obtain⟨_,_,_,rfl,_⟩:=h;rfl
 keep g h:=by obtain⟨a,n,c,h1,h2⟩:=h;exact⟨a,n,c,h1,h2.keep g⟩
 wide g h:=by obtain⟨a,n,c,h1,h2⟩:=h;exact⟨a,n,c,h1,h2.wide g⟩
theorem sz_mk : Rp.sz Mk=1:=rfl
theorem zhy : Rp.sz Bool=1:=rfl
theorem zm1 {α : Type}[Rp α]: Rp.sz (List α)=1:=rfl
attribute [go_sem] sz_mk zhy zm1
structure z1z (F : Nat→Prop)(w : World)(ts : List Bool)(i : Nat)(b off : Nat)(x : Bool): Prop where
 g:Hid (ts[i]?=some x)
 lt:LtW b w
 c0:w.cell? ⟨b,off+i,none⟩=some (.bool x)
theorem Sl.bool {F : Nat→Prop}{w : World}{a : Option Addr}{n cap : Nat}{ts : List Bool}(h : Sl F w (.slice a n cap) ts)(i : Nat)(hi : i<n): ∃ b off x,a=some ⟨b,off,none⟩∧z1z F w ts i b off x:=by
 obtain⟨b,off,x,cs,ha,hx,hlt,rfl,hc⟩:=h.get i hi;exact⟨b,off,x,ha,⟨hx,hlt,by have:=hc 0 (by simp);simpa[zhy] using this⟩⟩
structure AtMk (F : Nat→Prop)(w : World)(ts : List Mk)(i : Nat)(b off : Nat)(x : Mk): Prop where
 g:Hid (ts[i]?=some x)
 lt:LtW b w
 c0:w.cell? ⟨b,off+i,none⟩=some (.int .u32 (mk x.S))
theorem Sl.mk_ {F : Nat→Prop}{w : World}{a : Option Addr}{n cap : Nat}{ts : List Mk}(h : Sl F w (.slice a n cap) ts)(i : Nat)(hi : i<n): ∃ b off x,a=some ⟨b,off,none⟩∧AtMk F w ts i b off x:=by
 obtain⟨b,off,x,cs,ha,hx,hlt,rfl,hc⟩:=h.get i hi;exact⟨b,off,x,ha,⟨hx,hlt,by have:=hc 0 (by simp);simpa[sz_mk] using this⟩⟩
structure z10 {α : Type}[Rp α](F : Nat→Prop)(w : World)(ts : List (List α))(i : Nat)(b off : Nat)(x : List α)(a : Option Addr)(n c : Nat): Prop where
 g:Hid (ts[i]?=some x)
 lt:LtW b w
 sl:Sl F w (.slice a n c) x
 c0:w.cell? ⟨b,off+i,none⟩=some (.slice a n c)
theorem Sl.list {α : Type}[Rp α]{F : Nat→Prop}{w : World}{a : Option Addr}{n cap : Nat}{ts : List (List α)}(h : Sl F w (.slice a n cap) ts)(i : Nat)(hi : i<n): ∃ b off x a' n' c',a=some ⟨b,off,none⟩∧z10 F w ts i b off x a' n' c':=by
 obtain⟨b,off,x,cs,ha,hx,hlt,⟨a',n',c',rfl,hs⟩,hc⟩:=h.get i hi;exact⟨b,off,x,a',n',c',ha,⟨hx,hlt,hs,by have:=hc 0 (by simp);simpa[zm1] using this⟩⟩
def blk (n : Int): Bool:=decide (0≤n)&&decide (n<24)
def zc4 (l : List Opd): Bool:=l.all (fun o=>decide (zn o=0))
def juPre (j : Ju): Bool :=
 if j.kind=1 then decide (j.fn=0)&&decide (j.args.length=0)&&plZ j.dest&&opdZ j.a&&blk j.next&&decide (j.els=0)
 else if j.kind=2 then decide (j.fn=0)&&decide (j.args.length=0)&&plZ j.dest&&decide (zn j.a=0)&&blk j.next&&blk j.els
 else if j.kind=3∨j.kind=5 then decide (j.fn=0)&&decide (j.args.length=0)&&plZ j.dest&&opdZ j.a&&decide (j.next=0)&&decide (j.els=0)
 else if j.kind=4 then opdZ j.a&&decide (0≤j.fn)&&decide (j.fn<8)&&decide (j.args.length≤8)&&decide (plErr j.dest=0)&&blk j.next&&decide (j.els=0)
 else false
def juOk (j : Ju): Bool:=juPre j&&zc4 j.args
def juErr (j : Ju): Int:=if juOk j=true then 0 else 8
theorem zal (t : Ju): juErr t=0↔juOk t=true:=by unfold juErr;split<;>simp_all
theorem zrg (n : Int)(w : World): Calls Tryz.prog 153 #[.int .i64 n] w (Ret w (.bool (blk n))):=by
 go_enter Tryz.func153,Tryz.ntmps153
 go_wp2
 all_goals go_ret
 all_goals (refine Ret.bool ?_ gw)
 all_goals (go_light;unfold blk;grind)
theorem zrh (n : Int)(w : World): Calls Tryz.prog 176 #[.int .i64 n] w (Ret w (.bool (blk n))):=by
 go_enter Tryz.func176,Tryz.ntmps176
 go_wp2
 all_goals go_ret
 all_goals (refine Ret.bool ?_ gw)
 all_goals (go_light;unfold blk;grind)
theorem zfw (k : Int): ((k==1)=true∧(k==2)=false∧(k==3)=false∧(k==4)=false∧(k==5)=false)∨((k==1)=false∧(k==2)=true∧(k==3)=false∧(k==4)=false∧(k==5)=false)
  ∨ ((k==1)=false∧(k==2)=false∧(k==3)=true∧(k==4)=false∧(k==5)=false)∨((k==1)=false∧(k==2)=false∧(k==3)=false∧(k==4)=true∧(k==5)=false)
  ∨ ((k==1)=false∧(k==2)=false∧(k==3)=false∧(k==4)=false∧(k==5)=true)∨((k==1)=false∧(k==2)=false∧(k==3)=false∧(k==4)=false∧(k==5)=false):=by
 simp only[beq_iff_eq,beq_eq_false_iff_ne];omega
theorem zi1 {j : Ju}{x : Opd}{k : Nat}(h : Hid (j.args[k]?=some x))(hx : zn x≠0): juErr j=8:=by
 unfold juErr juOk zc4;have hm:=List.mem_of_getElem? h.out;rw[if_neg];simp only[Bool.and_eq_true,List.all_eq_true];intro ⟨_,q⟩;exact hx (by simpa using q x hm)
theorem zns {j : Ju}(h : juPre j=true)(ha : zc4 j.args=true): juErr j=0:=by
 unfold juErr juOk;rw[h,ha];rfl
theorem zbj (j : Ju)(av : Value)(w : World){F : Nat→Prop}(hj : j.wf)(hav : Sl F w av j.args):
  Calls Tryz.prog 108 #[j.v av] w (Ret w (.int .i64 (juErr j))):=by
 obtain⟨a,n,cap,rfl,Hn,hm,hcap,hcm,hav⟩:=hav.open;have Hk:=Lib.hid (zfw j.kind);rcases zfw j.kind with ⟨h1,h2,h3,h4,h5⟩|⟨h1,h2,h3,h4,h5⟩|⟨h1,h2,h3,h4,h5⟩|⟨h1,h2,h3,h4,h5⟩|⟨h1,h2,h3,h4,h5⟩|⟨h1,h2,h3,h4,h5⟩;all_goals (try (have h4' : (j.kind==4)=true:=h4;rcases Bool.eq_false_or_eq_true (plErr j.dest != 0) with hd|hd))
 all_goals
  go_enter Tryz.func108,Tryz.ntmps108
  go_wp2_with fail
  (refine zg (by kernel_rfl) (by kernel_rfl) ?_;(repeat (any_goals (first|go_big_quiet_step (first|fail)|(refine wpQuiet_step (fun K hK=>?_);go_simp;split<;>(refine hK _ ?_;clear hK K)))));all_goals (refine wpQuiet_nil ?_;intro w1 hb1;obtain⟨x1,rfl⟩:=za hb1;clear hb1))
  go_wp2_with (first|(go_at_call 153;((with_reducible refine armV (zrg _ _) ?_);intro x2))|(go_at_call 106;((with_reducible refine armV (zcl j.a _) ?_);intro x4))|(go_at_call 104;((with_reducible refine armV (zb4 j.dest _) ?_);intro x5)))
 all_goals (try (first|(exfalso;go_light;have b0:blk 0=true:=(by decide);clear hj;grind)|(go_ret;refine Ret.int ?_ gw;go_light;have q:=Hn.out;have q1:=zcr j.dest;have q2:=zeb j.a;clear hj;unfold juErr juOk juPre opdZ plZ OpdZ PlZ;grind)))
 all_goals
  have Hp:Hid (juPre j=true):=by
   go_light;have q:=Hn.out;have q1:=zcr j.dest;have q2:=zeb j.a;clear hj;unfold juPre opdZ plZ OpdZ PlZ;grind
 rotate_left 3
 ·go_loopw [118] (fun i wr=>∃ (k:Nat),k≤n∧i = .int .i64 k∧Grow w wr∧Hid ((j.args.take k).all (fun o=>decide (zn o=0))=true)) (fun i _=>n - (intOf i).toNat)
  case atStart=>exact⟨0,Nat.zero_le _,rfl,gw,rfl⟩
  case round =>
   obtain⟨k,hk,rfl,hb1,Ha⟩:=hrel
   (obtain⟨x1,rfl⟩:=za hb1;clear hb1)
   by_cases hlt:k<n
   ·obtain⟨b_y,off_y,y,rfl,⟨Hg_y,hl_y,hw_y,c_y0,c_y1,c_y2,c_y3,c_y4,r_y0,r_y1⟩⟩:=hav.opd k hlt;go_wp2_with (first|(go_at_call 106;((with_reducible refine armV (zcl y _) ?_);intro x2)))
    ·go_ret
     refine Ret.int ?_ gw;have q:zn y≠0:=by go_light;grind
     rw[zi1 Hg_y q];have:=zeb y;grind
    ·go_roundw
     case rel=>exact⟨k+1,by omega,by go_num,gw,zab Hg_y Ha (by clear c_y0 c_y1 c_y2 c_y3 c_y4 r_y0 r_y1;go_light;grind)⟩
     case measure=>exact me
   ·go_wp2_with fail;go_ret
    exact Ret.int (zns Hp.out (zag Hn om Ha)).symm gw
 all_goals
  obtain rfl:n=0:=by first|assumption|omega
  have Hz:Hid (zc4 j.args=true):=by
   have q:0=j.args.length:=Hn.out;show _=_;rw[List.length_eq_zero_iff.1 q.symm];rfl
  go_loopw [118] (fun i wr=>i = .int .i64 0∧Grow w wr) (fun _ _=>0)
  case atStart=>exact⟨rfl,gw⟩
  case round =>
   obtain⟨rfl,hb1⟩:=hrel
   (obtain⟨x1,rfl⟩:=za hb1;clear hb1)
   go_wp2_with fail;go_ret
   exact Ret.int (zns Hp.out Hz.out).symm gw
theorem zxp (w : World)(o : Opd): (binOp .eql 45 (.agg #[.int .u8 o.kind,.int .i64 o.n,.int .i64 o.pl.loc,.bool o.pl.deref,.int .u8 o.pl.field]) (.agg #[.int .u8 0,.int .i64 0,.int .i64 0,.bool false,.int .u8 0])).run Tryz.prog w = .ok (.bool (opdZ o)) w:=by
 rw[zhu];congr 2;rw[Bool.eq_iff_iff];unfold opdZ OpdZ PlZ;simp
theorem zzu (w : World)(o : Pl): (binOp .eql 43 (.agg #[.int .i64 o.loc,.bool o.deref,.int .u8 o.field]) (.agg #[.int .i64 0,.bool false,.int .u8 0])).run Tryz.prog w = .ok (.bool (plZ o)) w:=by
 rw[ziz];congr 2;rw[Bool.eq_iff_iff];unfold plZ PlZ;simp
attribute [-go_sem] zhu ziz
attribute [local go_sem 2000] zxp zzu
theorem zvj {j : Ju}{x : Opd}{k : Nat}(h : Hid (j.args[k]?=some x))(hx : zn x≠0): juOk j=false:=by
 have:=zi1 h hx;unfold juErr at this;cases q:juOk j
 ·rfl
 ·rw[q] at this;simp at this
theorem z11 {j : Ju}(h4 : (j.kind==4)=true)(hz : opdZ j.a=true)(hf : 0≤j.fn)(hf8 : j.fn<8)(hl : j.args.length≤8)(hd : plErr j.dest=0)(hb : blk j.next=true)(he : j.els=0): juPre j=true:=by
 unfold juPre;simp at h4;simp[h4,hz,hf,hf8,hl,hd,hb,he]
theorem zhi (j : Ju)(av : Value)(w : World){F : Nat→Prop}(hj : j.wf)(hav : Sl F w av j.args):
  Calls Tryz.prog 127 #[j.v av] w (Ret w (.bool (juOk j))):=by
 obtain⟨a,n,cap,rfl,Hn,hm,hcap,hcm,hav⟩:=hav.open;have Hk:=Lib.hid (zfw j.kind);rcases zfw j.kind with ⟨h1,h2,h3,h4,h5⟩|⟨h1,h2,h3,h4,h5⟩|⟨h1,h2,h3,h4,h5⟩|⟨h1,h2,h3,h4,h5⟩|⟨h1,h2,h3,h4,h5⟩|⟨h1,h2,h3,h4,h5⟩;all_goals (try (have h4' : (j.kind==4)=true:=h4;rcases Bool.eq_false_or_eq_true (opdZ j.a) with hz|hz))
 all_goals
  go_enter Tryz.func127,Tryz.ntmps127
  go_wp2_with fail
  (refine zg (by kernel_rfl) (by kernel_rfl) ?_;(repeat (any_goals (first|go_big_quiet_step (first|fail)|(refine wpQuiet_step (fun K hK=>?_);go_simp;split<;>(refine hK _ ?_;clear hK K)))));all_goals (refine wpQuiet_nil ?_;intro w1 hb1;obtain⟨x1,rfl⟩:=za hb1;clear hb1))
  go_upto_region 14 with (first|(go_at_call 176;((with_reducible refine armV (zrh _ _) ?_);intro x2))|(go_at_call 175;((with_reducible refine armV (zaw j.a _) ?_);intro x4))|(go_at_call 173;((with_reducible refine armV (zct j.dest _) ?_);intro x5)))
 all_goals (try (first|(exfalso;go_light;clear hj;grind)|(go_ret;refine Ret.bool ?_ gw;go_light;have q:=Hn.out;have q1:=zcr j.dest;have q2:=zeb j.a;have q3:j.args.length=0→zc4 j.args=true:=(by intro h;rw[List.length_eq_zero_iff.1 h];rfl);clear hj;unfold juOk juPre;grind)))
 all_goals
  have Hp:Hid (juPre j=true):=by
   have q:=Hn.out;go_light;clear hj Hk;exact z11 h4 hz (by grind) (by grind) (by grind) (by grind) (by grind) (by grind)
 ·have hn0:n=0:=by assumption
  subst hn0;go_cut [6] (fun i wc=>i = .int .i64 0∧Grow (w.alloc (bxJu j (.slice a 0 cap))) wc)
  case first =>
   go_wp2_with fail;go_meet
   case rel=>exact⟨rfl,by first|(unfold bxJu;rw[show j.fn=0 from (by assumption)];exact gw)|(rw[show j.fn=0 from (by assumption)];exact gw)|exact gw⟩
  case rest =>
   obtain⟨rfl,hb0⟩:=hcut;go_wp2_with fail;go_loopw [6] (fun i wr=>i = .int .i64 0∧Grow (w.alloc (bxJu j (.slice a 0 cap))) wr) (fun i _=>0)
   case atStart=>exact⟨rfl,hb0⟩
   case round =>
    obtain⟨rfl,hb1⟩:=hrel
    (obtain⟨x1,rfl⟩:=za hb1;clear hb1)
    go_wp2_with fail;go_ret
    refine Ret.bool ?_ gw;unfold juOk;rw[Hp.out,show zc4 j.args=true from (by rw[List.length_eq_zero_iff.1 (show j.args.length=0 from Hn.out.symm)];rfl)];rfl
 all_goals
  go_cut [6] (fun i wc=>i = .int .i64 0∧Grow (w.alloc (bxJu j (.slice a n cap))) wc)
  case first =>
   go_wp2_with fail;go_meet
   case rel=>exact⟨rfl,by first|(unfold bxJu;rw[show j.fn=0 from (by assumption)];exact gw)|(rw[show j.fn=0 from (by assumption)];exact gw)|exact gw⟩
  case rest =>
   obtain⟨rfl,hb0⟩:=hcut;go_wp2_with fail;go_loopw [6] (fun i wr=>∃ (k:Nat),k≤n∧i = .int .i64 k∧Grow (w.alloc (bxJu j (.slice a n cap))) wr∧Hid ((j.args.take k).all (fun o=>decide (zn o=0))=true)) (fun i _=>n - (intOf i).toNat)
   case atStart=>exact⟨0,Nat.zero_le _,rfl,hb0,rfl⟩
   case round =>
    obtain⟨k,hk,rfl,hb1,Ha⟩:=hrel
    (obtain⟨x1,rfl⟩:=za hb1;clear hb1)
    by_cases hlt:k<n
    ·obtain⟨b_y,off_y,y,rfl,⟨Hg_y,hl_y,hw_y,c_y0,c_y1,c_y2,c_y3,c_y4,r_y0,r_y1⟩⟩:=hav.opd k hlt;cases hy:(zn y != 0)
     ·go_wp2_with (first|(go_at_call 175;((with_reducible refine armV (zaw y _) ?_);intro x2)));go_roundw
      case rel=>exact⟨k+1,by omega,by go_num,(by first|(unfold bxJu;rw[show j.fn=0 from (by assumption)];exact gw)|(rw[show j.fn=0 from (by assumption)];exact gw)|exact gw),zab Hg_y Ha (by simpa using hy)⟩
      case measure=>exact me
     ·go_wp2_with (first|(go_at_call 175;((with_reducible refine armV (zaw y _) ?_);intro x2)));go_ret
      refine Ret.bool ?_ gw;rw[zvj Hg_y (by simpa using hy)]
    ·go_wp2_with fail;go_ret
     refine Ret.bool ?_ gw;unfold juOk;rw[Hp.out,show zc4 j.args=true from zag Hn om Ha];rfl
theorem zri (j : Ju)(av : Value)(w : World){F : Nat→Prop}(hav : Sl F w av j.args):
  Calls Tryz.prog 15 #[j.v av] w (Ret w (.bool (decide (12<j.args.length)))):=by
 obtain⟨a,n,cap,rfl,Hn,hm,hcap,hcm,hav⟩:=hav.open;go_enter Tryz.func15,Tryz.ntmps15
 go_wp2_with fail;all_goals go_ret
 all_goals (refine Ret.bool ?_ gw)
 all_goals (go_light;have q:=Hn.out;rw[←q];grind)
def leads (j : Ju): List Int:=if j.kind=3∨j.kind=5 then [] else if j.kind=2∧j.els≠j.next then [j.next,j.els] else [j.next]
theorem zj8 (j : Ju)(av : Value)(w : World)(hj : j.wf){F : Nat→Prop}(hav : Sl F w av j.args):
  Calls Tryz.prog 128 #[j.v av] w (RetP w fun v w'=>Sl (Fresh w) w' v (leads j)):=by
 obtain⟨a,n,cap,rfl,Hn,hm,hcap,hcm,hav⟩:=hav.open;have hn:=hj.next;have he:=hj.els;go_enter Tryz.func128,Tryz.ntmps128
 go_wp2
 all_goals (refine zd (by simp only[results,Tryz.results128];go_simp;rfl) rfl gw ?_)
 all_goals first
  |(rw[show leads j = [] from by clear hav hj Hn;grind [leads]];exact Sl.nil _ _)
  |(rw[show leads j = [j.next] from by clear hav hj Hn;grind [leads]];exact Sl.one (by simp[Fr]) (by simp) om om ⟨rfl,hn⟩ cel)
  |(rw[show leads j = [j.next,j.els] from by clear hav hj Hn;grind [leads]];exact Sl.two (by simp[Fr]) (by simp) om om ⟨rfl,hn⟩ cel ⟨rfl,he⟩ cel)
def zjw (j : Ju): List Int:=if juErr j=0 then leads j else []
theorem zi2 (j : Ju)(av : Value)(w : World)(hj : j.wf){F : Nat→Prop}(hav : Sl F w av j.args):
  Calls Tryz.prog 68 #[j.v av] w (RetP w fun v w'=>∃ u,v = .tuple #[u,.int .i64 (juErr j)]∧Sl (Fresh w) w' u (zjw j)):=by
 obtain⟨a,n,cap,rfl,Hn,hm,hcap,hcm,hav⟩:=hav.open;have hn:=hj.next;have he:=hj.els;cases h0:(juErr j != 0)
 ·have H0:Hid (juErr j=0):=Lib.hid (by simpa using h0);rw[show zjw j=leads j from if_pos H0.out,H0.out];go_enter Tryz.func68,Tryz.ntmps68
  go_wp2_with (first|(go_at_call 108;((with_reducible refine armV (zbj j _ _ hj hav.m) ?_);intro x1)));all_goals (refine zd (by simp only[results,Tryz.results68];go_simp;rfl) rfl gw ⟨_,rfl,?_⟩)
  all_goals first
   |(rw[show leads j = [] from by clear hav hj Hn;grind [leads]];exact Sl.nil _ _)
   |(rw[show leads j = [j.next] from by clear hav hj Hn;grind [leads]];exact Sl.one (by simp[Fr];try omega) (by simp;try omega) om om ⟨rfl,hn⟩ cel)
   |(rw[show leads j = [j.next,j.els] from by clear hav hj Hn;grind [leads]];exact Sl.two (by simp[Fr];try omega) (by simp;try omega) om om ⟨rfl,hn⟩ cel ⟨rfl,he⟩ cel)
 ·have H0:Hid (¬juErr j=0):=Lib.hid (by simpa using h0);rw[show zjw j = [] from if_neg H0.out];go_enter Tryz.func68,Tryz.ntmps68
  go_wp2_with (first|(go_at_call 108;((with_reducible refine armV (zbj j _ _ hj hav.m) ?_);intro x1)));all_goals (refine zd (by simp only[results,Tryz.results68];go_simp<;>rfl) rfl gw ⟨_,rfl,Sl.nil _ _⟩)
def zaf (o : Opd): Bool:=decide (o.kind=2∨o.kind=3)
theorem zu (o : Opd)(w : World): Calls Tryz.prog 129 #[o.v] w (Ret w (.bool (zaf o))):=by
 go_enter Tryz.func129,Tryz.ntmps129
 go_wp2
 all_goals go_ret
 all_goals (refine Ret.bool ?_ gw)
 all_goals (unfold zaf;grind)
def zs (j : Ju): List Opd:=if j.kind=2 then [j.a] else j.args
theorem zdc (j : Ju)(av : Value)(w : World)(hj : j.wf){F : Nat→Prop}(hav : Sl F w av j.args):
  Calls Tryz.prog 130 #[j.v av] w (RetP w fun v w'=>Sl (Fr F w.heap.size) w' v (zs j)):=by
 obtain⟨a,n,cap,rfl,Hn,hm,hcap,hcm,hav⟩:=hav.open;have ha:=hj.a;go_enter Tryz.func130,Tryz.ntmps130
 go_wp2
 all_goals (refine zd (by simp only[results,Tryz.results130];go_simp;rfl) rfl gw ?_)
 all_goals first
  |(rw[show zs j = [j.a] from by clear hav hj Hn;grind [zs]];exact Sl.one (by simp[Fr]) (by simp) om om ⟨rfl,ha⟩ cel)
  |(rw[show zs j=j.args from by clear hav hj Hn;grind [zs]];exact hav.m.wide fun b _ h=>Or.inl h)
def two (s : St): Bool:=decide (s.kind=1)&&decide (s.r.kind=4)&&decide (s.r.bo=3)
theorem zj9 (s : St)(w : World): Calls Tryz.prog 71 #[s.v] w (Ret w (.bool (two s))):=by
 go_enter Tryz.func71,Tryz.ntmps71
 go_wp2
 all_goals go_ret
 all_goals (refine Ret.bool ?_ gw)
 all_goals (unfold two;grind)
theorem zbn (s : St)(w : World): Calls Tryz.prog 85 #[s.v] w (Ret w (.bool (two s))):=by
 go_enter Tryz.func85,Tryz.ntmps85
 go_wp2
 all_goals go_ret
 all_goals (refine Ret.bool ?_ gw)
 all_goals (unfold two;grind)
theorem zdw {S : Type}{k : Nat}{c1 c2 : Value}{W : S→World}{step : S→Pl→Bool→S}{G : Pl→Prop}(hk : k=65∨k=70)(hon : On k c1 c2 W step G)
  (l:List Opd) (v:Value) (may:Bool) (s:S) {F:Nat→Prop} (hl:∀ s,Sl F (W s) v l) (hG:∀ o∈l,o.kind≠1→G o.pl) :
  Calls Tryz.prog 107 #[v,.bool may,.func (.func k) #[] #[c1,c2]] (W s) (Told W (zac step s (visOs may l))):=by
 obtain⟨a,n,cap,rfl,Hn,hm,hcap,hcm,_⟩:=(hl s).open;rcases hk with rfl|rfl;all_goals
  go_enter Tryz.func107,Tryz.ntmps107
  go_wp2_with fail;go_loopw [10] (fun i wr=>∃ (q:Nat) (s' : S) (y:Ext),q≤n∧i = .int .i64 q∧wr=ext (W s') y∧Hid (s'=zac step s (visOs may (l.take q)))) (fun i _=>n - (intOf i).toNat)
  case atStart=>exact⟨0,s,_,Nat.zero_le _,rfl,(zbi _).symm,rfl⟩
  case round =>
   obtain⟨q,s',y,hq,rfl,rfl,Hs⟩:=hrel;by_cases hlt:q<n
   ·have hls:=hl s';obtain⟨b_o,off_o,o,rfl,⟨Hg_o,hl_o,hw_o,c_o0,c_o1,c_o2,c_o3,c_o4,r_o0,r_o1⟩⟩:=hls.opd q hlt;have Hm:=Lib.hid (List.mem_of_getElem? Hg_o.out);have Hvs:=Lib.hid (zt6 (may:=may) Hg_o);by_cases hc:o.kind=1
    ·have Hc:=Lib.hid hc;replace hc:(o.kind != 1)=false:=by simp[hc]
     go_wp2_with fail;go_roundw
     case rel =>
      obtain⟨y2,hy2⟩:=za (W:=W s') (w:=(ext (W s') y).alloc (bxOpd o)) gw;exact⟨q+1,s',y2,by omega,by go_num,hy2,by show _=_;rw[Hvs.out,zhv,←Hs.out];simp[visO,Hc.out,zac]⟩
     case measure=>exact me
    ·have Hc:=Lib.hid hc;replace hc:(o.kind != 1)=true:=by simp[hc]
     have Hp:=Lib.hid (hG o Hm.out Hc.out);cases may;all_goals (try cases h3:(o.kind==3))
     all_goals
      go_wp2_with (first
       |(go_at_call 65;refine(((hon.ext y).alloc _).at s' o.pl _ hw_o.pl Hp.out).mono ?_;rintro e w1 ⟨rfl,y1,rfl⟩)
       |(go_at_call 70;refine(((hon.ext y).alloc _).at s' o.pl _ hw_o.pl Hp.out).mono ?_;rintro e w1 ⟨rfl,y1,rfl⟩))
      go_roundw
      case rel =>
       obtain⟨y2,hy2⟩:=za (W:=W (step s' o.pl _)) (w:=ext ((ext (W (step s' o.pl _)) y).alloc (bxOpd o)) y1) gw;refine⟨q+1,_,y2,by omega,by go_num,hy2,?_⟩;show _=_;rw[Hvs.out,zhv,←Hs.out];simp only[beq_iff_eq,beq_eq_false_iff_ne] at h3;simp[visO,Hc.out,zac,h3]
      case measure=>exact me
   ·go_wp2_with fail;go_end0
    exact⟨rfl,y,by rw[Hs.out,List.take_of_length_le (by rw[←Hn.out];omega)]⟩
theorem Told.of {S : Type}{W : S→World}{s s' : S}{w' : World}(hs : s=s')(g : Grow (W s) w'): Told W s' (.returned (.tuple #[])) w':=by
 subst hs;obtain⟨y,rfl⟩:=za g;exact⟨rfl,y,rfl⟩
theorem zi3 {S : Type}{k : Nat}{c1 c2 : Value}{W : S→World}{step : S→Pl→Bool→S}{G : Pl→Prop}(hk : k=65∨k=70)(hon : On k c1 c2 W step G)
  (st:St) (s:S) (hw:st.wf) (hG:∀ v∈visS st,G v.1) :
  Calls Tryz.prog 67 #[st.v,.func (.func k) #[] #[c1,c2]] (W s) (Told W (zac step s (visS st))):=by
 have hwp:=hw.pl;have hwr:=hw.r;have hwa:=hw.a;have hwl:=hw.loc;have hw0:(⟨st.loc,false,0⟩:Pl).wf:=⟨hwl,by simp[U8]⟩
 by_cases h3:st.kind=3
 ·have e:visS st = [(⟨st.loc,false,0⟩,false)]:=by simp[visS,h3]
  have Hv:=Lib.hid e;have Hp:Hid (G ⟨st.loc,false,0⟩):=hG (⟨st.loc,false,0⟩,false) (by rw[e];simp);clear e hG;replace h3:(st.kind==3)=true:=by simp[h3]
  rcases hk with rfl|rfl;all_goals
   go_enter Tryz.func67,Tryz.ntmps67
   go_wp2_with (first|(go_at_call 65;with_reducible refine((hon.alloc _).at s ⟨st.loc,false,0⟩ _ hw0 Hp.out).mono ?_;rintro e w1 ⟨rfl,y1,rfl⟩)|(go_at_call 70;with_reducible refine((hon.alloc _).at s ⟨st.loc,false,0⟩ _ hw0 Hp.out).mono ?_;rintro e w1 ⟨rfl,y1,rfl⟩));go_end0
   exact Told.of (by rw[Hv.out,zbu,zfb]) gw
 ·have H3:=Lib.hid h3;replace h3:(st.kind==3)=false:=by simp[h3]
  by_cases h2:st.kind=2∨st.kind=4
  ·have e:visS st=visOs false [st.a]:=by simp[visS,H3.out,h2]
   have Hv:=Lib.hid e;have Hp:Hid (∀ o∈[st.a],o.kind≠1→G o.pl):=by
    intro o ho hc;simp at ho;subst ho;exact hG (st.a.pl,false) (by rw[e];simp[visOs,visO,hc])
   clear e hG;have h2' : ((st.kind==2)=true)∨((st.kind==2)=false∧(st.kind==4)=true):=by rcases h2 with h|h<;>simp[h]
   clear h2;haveI hsz:∀ s0,EqW (W s).heap.size (W s0):=fun s0=>hon.szW s s0;have HS:Hid (∀ s0,Sl (fun _=>True) (((W s0).alloc (bxSt st)).alloc (bxOpd (st.a))) (.slice (some ⟨(W s).heap.size+1,0,none⟩) 1 1) [st.a]):=by
    intro s0;exact Sl.one trivial (by simp[hon.size s s0]) om om ⟨rfl,hwa⟩ cel
   rcases hk with rfl|rfl;all_goals (rcases h2' with h2|⟨h2,h4⟩)
   all_goals
    go_enter Tryz.func67,Tryz.ntmps67
    go_wp2_with (first|(go_at_call 107;go_must (with_reducible refine(zdw (by first|exact Or.inl rfl|exact Or.inr rfl) ((hon.alloc _).alloc _) [st.a] _ false s HS.out Hp.out).mono ?_);rintro e w1 ⟨rfl,y1,rfl⟩));go_end0
    exact Told.of (by rw[Hv.out]) gw
  ·have H2:=Lib.hid h2;have h2' : (st.kind==2)=false:=by simp;omega
   have h4:(st.kind==4)=false:=by simp;omega
   clear h2;by_cases h1:st.kind=1
   ·have e:visS st=(st.pl,false)::visR st.r:=by simp[visS,H3.out,H2.out,h1]
    have Hv:=Lib.hid e;have Hp:Hid (G st.pl):=hG (st.pl,false) (by rw[e];simp);have HG:Hid (∀ v∈visR st.r,G v.1):=fun v hv=>hG v (by rw[e];simp[hv]);clear e hG;replace h1:(st.kind==1)=true:=by simp[h1]
    haveI hsz:∀ s0 s1,EqW (W s1).heap.size (W s0):=fun s0 s1=>hon.szW s1 s0;by_cases hr:st.r.kind=4∨st.r.kind=5
    ·have e:visR st.r = [(st.r.pl,false)]:=by simp[visR,hr]
     have Hv2:=Lib.hid e;have Hp2:Hid (G st.r.pl):=HG.out (st.r.pl,false) (by rw[e];simp);clear e;have hr' : ((st.r.kind==4)=true)∨((st.r.kind==4)=false∧(st.r.kind==5)=true):=by rcases hr with h|h<;>simp[h]
     clear hr;rcases hk with rfl|rfl;all_goals (rcases hr' with hr4|⟨hr4,hr5⟩)
     all_goals
      go_enter Tryz.func67,Tryz.ntmps67
      go_wp2_with (first|(go_at_call 65;with_reducible refine((hon.alloc _).at s st.pl _ hwp Hp.out).mono ?_;rintro e w1 ⟨rfl,y1,rfl⟩)|(go_at_call 70;with_reducible refine((hon.alloc _).at s st.pl _ hwp Hp.out).mono ?_;rintro e w1 ⟨rfl,y1,rfl⟩)|(go_at_call 65;with_reducible refine(((hon.alloc _).ext y1).at (step s st.pl false) st.r.pl _ hwr.pl Hp2.out).mono ?_;rintro e w2 ⟨rfl,y2,rfl⟩)|(go_at_call 70;with_reducible refine(((hon.alloc _).ext y1).at (step s st.pl false) st.r.pl _ hwr.pl Hp2.out).mono ?_;rintro e w2 ⟨rfl,y2,rfl⟩));go_end0
      exact Told.of (by rw[Hv.out,Hv2.out,zbu,zbu,zfb]) gw
    ·have Hr:=Lib.hid hr;have hr4:(st.r.kind==4)=false:=by simp;omega
     have hr5:(st.r.kind==5)=false:=by simp;omega
     clear hr;by_cases hu:st.r.kind=1
     ·have e:visR st.r=visOs true [st.r.a]:=by simp[visR,Hr.out,hu]
      have Hv2:=Lib.hid e;have Hp2:Hid (∀ o∈[st.r.a],o.kind≠1→G o.pl):=by
       intro o ho hc;simp at ho;subst ho;exact HG.out (st.r.a.pl,true&&decide (st.r.a.kind=3)) (by rw[e];simp[visOs,visO,hc])
      clear e;replace hu:(st.r.kind==1)=true:=by simp[hu]
      have HS:Hid (∀ y1 s0,Sl (fun _=>True) ((ext ((W s0).alloc (bxSt st)) y1).alloc (bxOpd (st.r.a))) (.slice (some ⟨(W (step s st.pl false)).heap.size+1+y1.k,0,none⟩) 1 1) [st.r.a]):=by
       intro y1 s0;exact Sl.one trivial (by simp[hon.size (step s st.pl false) s0]) om om ⟨rfl,hwr.a⟩ cel
      rcases hk with rfl|rfl;all_goals
       go_enter Tryz.func67,Tryz.ntmps67
       go_wp2_with (first|(go_at_call 65;with_reducible refine((hon.alloc _).at s st.pl _ hwp Hp.out).mono ?_;rintro e w1 ⟨rfl,y1,rfl⟩)|(go_at_call 70;with_reducible refine((hon.alloc _).at s st.pl _ hwp Hp.out).mono ?_;rintro e w1 ⟨rfl,y1,rfl⟩)|(go_at_call 107;go_must (with_reducible refine(zdw (by first|exact Or.inl rfl|exact Or.inr rfl) (((hon.alloc _).ext y1).alloc _) [st.r.a] _ true (step s st.pl false) (HS.out y1) Hp2.out).mono ?_);rintro e w2 ⟨rfl,y2,rfl⟩));go_end0
       exact Told.of (by rw[Hv.out,Hv2.out,zbu]) gw
     ·have e:visR st.r=visOs false [st.r.a,st.r.b]:=by simp[visR,Hr.out,hu]
      have Hv2:=Lib.hid e;have Hp2:Hid (∀ o∈[st.r.a,st.r.b],o.kind≠1→G o.pl):=by
       intro o ho hc;exact HG.out (o.pl,false&&decide (o.kind=3)) (by rw[e];unfold visOs;rw[List.mem_flatMap];exact⟨o,ho,by simp[visO,hc]⟩)
      clear e;replace hu:(st.r.kind==1)=false:=by simp[hu]
      have HS:Hid (∀ y1 s0,Sl (fun _=>True) ((ext ((W s0).alloc (bxSt st)) y1).alloc (.cells #[.int .u8 st.r.a.kind,.int .i64 st.r.a.n,.int .i64 st.r.a.pl.loc,.bool st.r.a.pl.deref,.int .u8 st.r.a.pl.field,.int .u8 st.r.b.kind,.int .i64 st.r.b.n,.int .i64 st.r.b.pl.loc,.bool st.r.b.pl.deref,.int .u8 st.r.b.pl.field] 45)) (.slice (some ⟨(W (step s st.pl false)).heap.size+1+y1.k,0,none⟩) 2 2) [st.r.a,st.r.b]):=by
       intro y1 s0;exact Sl.two trivial (by simp[hon.size (step s st.pl false) s0]) om om ⟨rfl,hwr.a⟩ cel ⟨rfl,hwr.b⟩ cel
      rcases hk with rfl|rfl;all_goals
       go_enter Tryz.func67,Tryz.ntmps67
       go_wp2_with (first|(go_at_call 65;with_reducible refine((hon.alloc _).at s st.pl _ hwp Hp.out).mono ?_;rintro e w1 ⟨rfl,y1,rfl⟩)|(go_at_call 70;with_reducible refine((hon.alloc _).at s st.pl _ hwp Hp.out).mono ?_;rintro e w1 ⟨rfl,y1,rfl⟩)|(go_at_call 107;go_must (with_reducible refine(zdw (by first|exact Or.inl rfl|exact Or.inr rfl) (((hon.alloc _).ext y1).alloc _) [st.r.a,st.r.b] _ false (step s st.pl false) (HS.out y1) Hp2.out).mono ?_);rintro e w2 ⟨rfl,y2,rfl⟩));go_end0
       exact Told.of (by rw[Hv.out,Hv2.out,zbu]) gw
   ·have e:visS st = []:=by simp[visS,H3.out,H2.out,h1]
    have Hv:=Lib.hid e;clear e hG;replace h1:(st.kind==1)=false:=by simp[h1]
    rcases hk with rfl|rfl;all_goals
     go_enter Tryz.func67,Tryz.ntmps67
     go_wp2_with fail;go_end0
     exact Told.of (by rw[Hv.out,zfb]) gw
theorem znt {S : Type}{k : Nat}{c1 c2 : Value}{W : S→World}{step : S→Pl→Bool→S}{G : Pl→Prop}(hk : k=65∨k=70)(hon : On k c1 c2 W step G)
  (j:Ju) (av:Value) (s:S) (hw:j.wf) {F:Nat→Prop} (hav:∀ s,Sl F (W s) av j.args) (hG:∀ v∈visJ j,G v.1) :
  Calls Tryz.prog 69 #[j.v av,.func (.func k) #[] #[c1,c2]] (W s) (Told W (zac step s (visJ j))):=by
 obtain⟨a,n,cap,rfl,Hn,hm,hcap,hcm,_⟩:=(hav s).open;have hwa:=hw.a;have hwd:=hw.dest;by_cases h2:j.kind=2
 ·have e:visJ j=visOs false [j.a]:=by simp[visJ,h2]
  have Hv:=Lib.hid e;have Hp:Hid (∀ o∈[j.a],o.kind≠1→G o.pl):=by
   intro o ho hc;simp at ho;subst ho;exact hG (j.a.pl,false) (by rw[e];simp[visOs,visO,hc])
  clear e hG;replace h2:(j.kind==2)=true:=by simp[h2]
  haveI hsz:∀ s0,EqW (W s).heap.size (W s0):=fun s0=>hon.szW s s0;have HS:Hid (∀ s0,Sl (fun _=>True) (((W s0).alloc (bxJu j (.slice a n cap))).alloc (bxOpd (j.a))) (.slice (some ⟨(W s).heap.size+1,0,none⟩) 1 1) [j.a]):=by
   intro s0;exact Sl.one trivial (by simp[hon.size s s0]) om om ⟨rfl,hwa⟩ cel
  rcases hk with rfl|rfl;all_goals
   go_enter Tryz.func69,Tryz.ntmps69
   go_wp2_with (first|(go_at_call 107;go_must (with_reducible refine(zdw (by first|exact Or.inl rfl|exact Or.inr rfl) ((hon.alloc _).alloc _) [j.a] _ false s HS.out Hp.out).mono ?_);rintro e w1 ⟨rfl,y1,rfl⟩));go_end0
   exact Told.of (by rw[Hv.out]) gw
 ·have H2:=Lib.hid h2;replace h2:(j.kind==2)=false:=by simp[h2]
  by_cases h4:j.kind=4
  ·have e:visJ j=(j.dest,false)::visOs true j.args:=by simp[visJ,h4]
   have Hv:=Lib.hid e;have Hp:Hid (G j.dest):=hG (j.dest,false) (by rw[e];simp);have Hp2:Hid (∀ o∈j.args,o.kind≠1→G o.pl):=by
    intro o ho hc;exact hG (o.pl,true&&decide (o.kind=3)) (by rw[e];refine List.mem_cons_of_mem _ ?_;unfold visOs;rw[List.mem_flatMap];exact⟨o,ho,by simp[visO,hc]⟩)
   clear e hG;replace h4:(j.kind==4)=true:=by simp[h4]
   haveI hsz:∀ s0 s1,EqW (W s1).heap.size (W s0):=fun s0 s1=>hon.szW s1 s0;rcases hk with rfl|rfl;all_goals
    go_enter Tryz.func69,Tryz.ntmps69
    go_wp2_with (first|(go_at_call 65;with_reducible refine((hon.alloc _).at s j.dest _ hwd Hp.out).mono ?_;rintro e w1 ⟨rfl,y1,rfl⟩)|(go_at_call 70;with_reducible refine((hon.alloc _).at s j.dest _ hwd Hp.out).mono ?_;rintro e w1 ⟨rfl,y1,rfl⟩)|(go_at_call 107;go_must (with_reducible refine(zdw (by first|exact Or.inl rfl|exact Or.inr rfl) ((hon.alloc _).ext y1) j.args _ true (step s j.dest false) (fun s0=>(hav s0).mono gw) Hp2.out).mono ?_);rintro e w2 ⟨rfl,y2,rfl⟩));go_end0
    exact Told.of (by rw[Hv.out,zbu]) gw
  ·have e:visJ j = []:=by simp[visJ,H2.out,h4]
   have Hv:=Lib.hid e;clear e hG;replace h4:(j.kind==4)=false:=by simp[h4]
   rcases hk with rfl|rfl;all_goals
    go_enter Tryz.func69,Tryz.ntmps69
    go_wp2_with fail;go_end0
    exact Told.of (by rw[Hv.out,zfb]) gw
end Go.Proofs.YtacmoaeglbggjaaGreat
