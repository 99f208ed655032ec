/- Proved: Accepted and Trips return what the reference returns. -/
import Derived.OpenShut
import Derived.Test.YtacmoaeglbggjaaGreatQ35
import Derived.Test.YtacmoaeglbggjaaGreatQ36
namespace Go.Proofs.YtacmoaeglbggjaaGreat
open Go.RowKit
set_option linter.unusedSimpArgs false
set_option linter.unusedVariables false
set_option maxRecDepth 100000
set_option maxHeartbeats 16000000
open Go.ChangeShapes Go.WideShapes Go.ChangeAt Go.RowKit
theorem zzm : ownKnob Tryz.prog.godebug=none:=by kernel_rfl
theorem zra : laidOutB Tryz.prog=true:=by kernel_rfl
theorem zu8 {P : Program}{w : World}{r : Reach}{base : Nat}{t : TypeId}{v : Value}{fs : Array Field}(ht : P.underlying t=some (.struct fs))(h : Value.okWide P w r base t v): ∃ cs,v = .agg cs:=by
 simp only[Value.okWide,ht] at h;obtain⟨cs,h,_⟩:=h;exact⟨cs,h⟩
theorem soundTells_lifted (os : Os)(started : os.Started)(H : Type)(enc : TypeId×Value→H):
  ReturnsInHanded {} Tryz.checked os 3 .any (Rows.soundTellsSpec.pre6 enc Tryz.prog Tryz.f3 Rows.soundTellsRow.domain false) (Rows.soundTellsSpec.post enc Tryz.prog Tryz.f3 false true false false):=by
 refine returnsInHanded_of_change (C:=Tryz.checked) zzm started (by kernel_rfl) Tryz.func3
  (ChangeSpec.witness6 (enc:=enc) (C:=Tryz.checked) false ⟨#[],#[.agg #[.slice none 0 0],.int .u8 0],[]⟩ 8 (by kernel_rfl) (by kernel_rfl) (by kernel_rfl) (by kernel_rfl)) ?_
 intro W base args ds gs before hval0 hW hcnd _;have hval:∀ (j:Nat) t v,Tryz.f3.params[j]?=some t→args[j]?=some v→Value.okWide Tryz.prog W .any base t v:=hval0;have hW':=hW;obtain⟨p,q,hA0,hV,rfl,hfz,hnd⟩:=hW;have hA:DataW.TrodAll enc Tryz.prog W 0 (fun _=>true) true Tryz.f3.params.toList args.toList ds p:=hA0;rw[Tryz.params3] at hA hval;obtain⟨v0,vs0,d0,ds0,p0,q0,hargs,rfl,rfl,h0,r0⟩:=trodAll_cons hA;obtain⟨v1,vs1,d1,ds1,p1,q1,rfl,rfl,rfl,h1,r1⟩:=trodAll_cons r0;obtain⟨rfl,rfl,rfl⟩:=trodAll_nil r1;obtain rfl:args = #[v0,v1]:=by cases args;simp_all
 obtain⟨rfl,rfl⟩:=trodVars_none hV;have k0:=h0;have k1:=h1;have lt0:∀ x∈p0,x.block<W.heap.size:=by obtain⟨m,hm⟩:=k0;exact DataW.trod_lt m _ _ _ hm
 have lt1:∀ x∈p1,x.block<W.heap.size:=by obtain⟨m,hm⟩:=k1;exact DataW.trod_lt m _ _ _ hm
 obtain⟨a0,s0_funcs_a,s0_funcs_n,s0_funcs_c,rfl,hs0,hs0_0⟩:∃ (x:Pr) (funcs_a:Option Addr) (funcs_n funcs_c:Nat),v0=x.v (.slice funcs_a funcs_n funcs_c)∧x.wf∧Sl (Old W) W (.slice funcs_a funcs_n funcs_c) x.funcs:=by
  obtain⟨cs,rfl⟩:=zu8 Tryz.underlying24 (hval 0 _ v0 rfl rfl);obtain⟨fuel,hf⟩:=h0;obtain⟨x,s0_funcs_a,s0_funcs_n,s0_funcs_c,he,hw,hs0_0⟩:=rd_Pr hf;exact⟨x,s0_funcs_a,s0_funcs_n,s0_funcs_c,by simp only[Value.cells] at he;rw[←Array.toArray_toList (xs:=cs),he],hw,hs0_0⟩
 obtain⟨a1,rfl,hs1⟩:∃ n:Int,v1 = .int .u8 n∧U8 n:=by
  obtain⟨m,rfl⟩:=okWide_int Tryz.underlying5 (hval 1 _ v1 rfl rfl);obtain⟨fuel,hf⟩:=h1;obtain⟨x,he,hw⟩:=rd_u8 Tryz.underlying5 hf;simp[Value.cells] at he;subst he;exact⟨m,rfl,hw⟩
 clear hA0 hval0;refine(zno a0 (.slice s0_funcs_a s0_funcs_n s0_funcs_c) a1 W hs0 hs0_0 hs1).mono fun e W' ⟨he,bel⟩=>?_;subst he;have bel:Below W.heap.size W W':=bel;exact⟨_,rfl,_,_,_,[],_,[],hW',trodAll_mk1 (shut_bool Tryz.underlying4 _),(trodAll_cons_mk (Below.trod zra (by kernel_rfl) (of_decide_eq_true (by kernel_rfl)) k0 bel lt0) (trodAll_cons_mk (Below.trod zra (by kernel_rfl) (of_decide_eq_true (by kernel_rfl)) k1 bel lt1) trodAll_mk0)),rfl,bel.frame _,fun h=>by cases h⟩
theorem soundTells_holds : Rows.SoundTellsSaid :=
 OpenClaim.holds_of_wide 3 Tryz.f3 rfl rfl rfl rfl rfl rfl rfl ⟨rfl,rfl,rfl,rfl,rfl⟩ rfl rfl rfl rfl rfl (by kernel_rfl) Tryz.func3 (by kernel_rfl)
  (of_decide_eq_true (by kernel_rfl)) (by unfold Func.isWrapper;first|(rw[if_pos (by decide +kernel)];kernel_rfl)|(rw[if_neg (by decide +kernel)];exact⟨rfl,rfl⟩))
  (fun os started H enc _=>soundTells_lifted os started H enc)
end Go.Proofs.YtacmoaeglbggjaaGreat
