/- Proved: for every program and every state the law ExplainSteps returns true: the outcome that Accesses tells is that of the step, its accesses are of the four kinds and of one cell or two, and a step that trips has one. Conditions: the listed package-level variable reads as start-up code lays it (the card ties it to the text of the program). -/
import Derived.Test.YtllodfoldffonaaGreatDoorTie
import Derived.Test.YtllodfoldffonaaGreatDoorCards
import Derived.Test.YtllodfoldffonaaGreatDoorQ28
import Derived.Test.YtllodfoldffonaaGreatDoorQ29
import Derived.Test.YtllodfoldffonaaGreatDoorQ37
namespace Go.Proofs.YtllodfoldffonaaGreatDoor
open AM Go.RowKit Go.ChangeShapes Go.WideShapes Go.ChangeAt
set_option linter.unusedSimpArgs false
set_option linter.unusedVariables false
set_option linter.defProp false
set_option maxRecDepth 100000
set_option maxHeartbeats 16000000
def QR : ownKnob Tryz.prog.godebug=none:=by kernel_rfl
def Xl : laidOutB Tryz.prog=true:=by kernel_rfl
def eN {P : Program}{w : World}{r : Reach}{base : Nat}{t : TypeId}{v : Value}{fs : Array Field}(ht : P.underlying t=some (.struct fs))(h : Value.okWide P w r base t v): ∃ cs,v = .agg cs:=by
 simp only[Value.okWide,ht] at h;obtain⟨cs,h,_⟩:=h;exact⟨cs,h⟩
def QS {w w' : World}(h : Ev (fun _=>False) w (fun _=>False) w'): Below w.heap.size w w':=⟨h.os,h.tape,h.output,h.size,fun b hb=>(h.block b hb fun q=>q).2⟩
def lI (os : Os)(started : os.Started)(H : Type)(enc : TypeId×Value→H):
  ReturnsInHanded {} Tryz.checked os 4 .any (fun w args=>(Rows.explainStepsSpec.pre enc Tryz.prog Tryz.f4 Rows.explainStepsRow.domain false w args∧laidMetH Tryz.prog Rows.explainStepsRow.laid w)∧sizedMet enc Tryz.prog Tryz.f4 (OpenSpec.ofChange Rows.explainStepsSpec) false w args) (Rows.explainStepsSpec.post enc Tryz.prog Tryz.f4 false true false false):=by
 refine lg (C:=Tryz.checked) (laid:=Rows.explainStepsRow.laid) QR started (by kernel_rfl) Tryz.func4
  (ChangeSpec.witness_shaped (enc:=enc) (C:=Tryz.checked) (os:=os) (X:=fun w _=>laidMetH Tryz.prog Rows.explainStepsRow.laid w) false (World.laidAll Tryz.prog os Rows.explainStepsRow.laid) #[.agg #[.slice none 0 0],.agg #[.bool false,.slice none 0 0,.int .i64 0,.slice none 0 0,.slice none 0 0,.int .i64 0,.int .i64 0,.slice none 0 0,.slice none 0 0,.slice none 0 0]] 8 (World.laidAll_os _ _ _)
   (World.shaped_of_ZipB (by kernel_rfl) (by kernel_rfl)) (by kernel_rfl) (by kernel_rfl) (by kernel_rfl)
   (by rw[MakeChecks.laidMetH_plain _ _ _ (by kernel_rfl)];exact laidMet_laidAll _ (by kernel_rfl) (by kernel_rfl))) ?_
 intro W base args ds gs before hval0 hW hcnd _ hL hsh _;have hval:∀ (j:Nat) t v,Tryz.f4.params[j]?=some t→args[j]?=some v→Value.okWide Tryz.prog W .any base t v:=hval0;have hW':=hW;obtain⟨p,q,hA0,hV,rfl,hfz,hnd⟩:=hW;have hA:DataW.TrodAll enc Tryz.prog W 0 (fun _=>true) true Tryz.f4.params.toList args.toList ds p:=hA0;rw[Tryz.params4] at hA hval;obtain⟨v0,vs0,d0,ds0,p0,q0,hargs,rfl,rfl,h0,r0⟩:=trodAll_cons hA;obtain⟨v1,vs1,d1,ds1,p1,q1,rfl,rfl,rfl,h1,r1⟩:=trodAll_cons r0;obtain⟨rfl,rfl,rfl⟩:=trodAll_nil r1;obtain rfl:args = #[v0,v1]:=by cases args;simp_all
 obtain⟨rfl,rfl⟩:=trodVars_none hV;have k0:=h0;have k1:=h1;have lt0:∀ x∈p0,x.block<W.heap.size:=by obtain⟨m,hm⟩:=k0;exact DataW.trod_lt m _ _ _ hm
 have lt1:∀ x∈p1,x.block<W.heap.size:=by obtain⟨m,hm⟩:=k1;exact DataW.trod_lt m _ _ _ hm
 obtain⟨a0,hw0,ha0⟩:∃ x:Pr,x.wd∧RV NoX W x.a v0:=by
  obtain⟨cs,rfl⟩:=eN Tryz.underlying24 (hval 0 _ v0 rfl rfl);obtain⟨fuel,hf⟩:=h0;obtain⟨x,hx,hr⟩:=IT ⟨_,hf⟩;refine⟨x,hx,?_⟩;unfold Pr.a;simp only[RV];exact⟨_,by simp only[Value.cells,Array.toArray_toList],hr⟩
 obtain⟨a1,hw1,ha1⟩:∃ x:Sa,x.wd∧RV NoX W x.a v1:=by
  obtain⟨cs,rfl⟩:=eN Tryz.underlying35 (hval 1 _ v1 rfl rfl);obtain⟨fuel,hf⟩:=h1;obtain⟨x,hx,hr⟩:=Hc ⟨_,hf⟩;refine⟨x,hx,?_⟩;unfold Sa.a;simp only[RV];exact⟨_,by simp only[Value.cells,Array.toArray_toList],hr⟩
 clear hA0 hval0;have hK:=kS a0 a1 (He hw1) (PI hw0).1 (PI hw0).2 NoX W [v0,v1] (LO hL) (by simp only[RL];exact⟨_,_,rfl,ha0,_,_,rfl,ha1,rfl⟩);refine Calls.mono hK fun e W' ⟨cv,he,hv,hev⟩=>?_;simp only[RV] at hv;subst hv he;have bel:Below W.heap.size W W':=QS hev;exact⟨_,rfl,_,_,_,[],_,[],hW',trodAll_mk1 (shut_bool Tryz.underlying4 _),(trodAll_cons_mk (Below.trod Xl (by kernel_rfl) (of_decide_eq_true (by kernel_rfl)) k0 bel lt0) (trodAll_cons_mk (Below.trod Xl (by kernel_rfl) (of_decide_eq_true (by kernel_rfl)) k1 bel lt1) trodAll_mk0)),rfl,bel.frame _,fun h=>by cases h⟩
def nG : Rows.ExplainStepsSaid :=
 OpenClaim.holds_of_wide 4 Tryz.f4 rfl rfl rfl rfl rfl rfl rfl ⟨rfl,rfl,rfl,rfl,rfl⟩ rfl rfl rfl rfl rfl rE Tryz.func4 kH
  (of_decide_eq_true (by kernel_rfl)) (by unfold Func.isWrapper;first|(rw[if_pos dk];kernel_rfl)|(rw[if_neg dk];exact⟨rfl,rfl⟩))
  (fun os started H enc _=>lI os started H enc)
theorem explainSteps_holds : Rows.ExplainStepsCardSaid :=
 Claim7.holds_tied_plain_at .later [] [.data] true (true,"49c5a961c9de1053067c317d6bfc9ddab14011b0a5d59849221f06a63127a229") false
  nG (fun _ h=>by cases h) eh (fun _ h=>by cases h) explainSteps_row_tie rfl ⟨rfl,rfl⟩ es rfl
  (fun f fn hf hfn=>by
   obtain rfl:f=4:=zY (rE.symm.trans hf) |>.symm;obtain rfl:fn=Tryz.f4:=(zY (Tryz.func4.symm.trans hfn)).symm;exact⟨et,fun j t ht=>by
    rw[Tryz.params4] at ht;have hm:t∈([24,35]:List Nat):=by simpa using Array.mem_of_getElem? ht
    exact(show (Tryz.prog).wantsStandIn t=false by simpa using zA.1 eu t hm)⟩)
  ez
end Go.Proofs.YtllodfoldffonaaGreatDoor
