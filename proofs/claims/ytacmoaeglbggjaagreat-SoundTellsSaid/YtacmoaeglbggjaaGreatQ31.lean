/- A part of the proof. -/
import Derived.Test.YtacmoaeglbggjaaGreatQ30
namespace Go.Proofs.YtacmoaeglbggjaaGreat
open Go.RowKit
set_option linter.unusedSimpArgs false
set_option linter.unusedVariables false
set_option maxRecDepth 100000
set_option maxHeartbeats 16000000
def firE (a b : Int): Int:=if a=0 then b else a
theorem zkw (e1 e2 : Int)(b : Nat)(w : World)[LtW b w](h1 : w.cell? ⟨b,0,none⟩=some (.int .i64 e1))(h2 : w.cell? ⟨b,1,none⟩=some (.int .i64 e2)): Calls Tryz.prog 43 #[.slice (some ⟨b,0,none⟩) 2 2] w (Ret w (.int .i64 (firE e1 e2))):=znj e1 e2 b w h1 h2
noncomputable def pk1 (p : Pr): Int:=firE (ckErr p) (zae p)
noncomputable def pk2 (p : Pr): Int:=firE (eachE za9 p) (eachE borE p)
noncomputable def pkErr (p : Pr): Int:=firE (pk1 p) (pk2 p)
theorem zmr {g : Fn→Int}{p : Pr}: eachE g p=0↔∀ f∈p.funcs,g f=0:=by
 unfold eachE;rw[zzc];simp
theorem z2z (p : Pr): pkErr p=0↔zc9 p=0:=by
 have h1:eachE za9 p=0↔p.funcs.all iniB=true:=by rw[zmr,List.all_eq_true];simp[iniB]
 have h2:eachE borE p=0↔p.funcs.all borB=true:=by
  rw[zmr,List.all_eq_true];refine forall_congr' fun f=>forall_congr' fun _=>?_;unfold borE borB;rw[decide_eq_true_eq];split<;>simp_all
 unfold pkErr pk1 pk2 zc9 firE;by_cases a1:ckErr p=0
 ·by_cases a2:zae p=0
  ·by_cases a3:eachE za9 p=0
   ·by_cases a4:eachE borE p=0
    ·simp[a1,a2,a3,a4,h1.1 a3,h2.1 a4]
    ·have:p.funcs.all borB=false:=by cases h:p.funcs.all borB;rfl;exact absurd (h2.2 h) a4
     simp[a1,a2,a3,a4,h1.1 a3,this]
   ·have:p.funcs.all iniB=false:=by cases h:p.funcs.all iniB;rfl;exact absurd (h1.2 h) a3
    simp[a1,a2,a3,this]
  ·simp[a1,a2]
 ·simp[a1]
theorem z20 {p : Pr}(h : pk1 p=0): ckErr p=0:=by
 unfold pk1 firE at h;by_cases a:ckErr p=0
 ·exact a
 ·rw[if_neg a] at h;exact h
theorem zo4 (hC : ClaOk)(p : Pr)(pv : Value)(w : World){F : Nat→Prop}(hp : Sl F w pv p.funcs):
  Calls Tryz.prog 24 #[p.v pv] w (Ret w (.int .i64 (pkErr p))):=by
 obtain⟨a,n,cap,rfl,Hn,hm,hcap,hcm,hp⟩:=hp.open;have Hty:=Lib.hid (fun (w' : World) (k1:Sl F w' (.slice a n cap) p.funcs)=>zqw p _ w' k1);have Hsa:=Lib.hid (fun (w' : World) (k1:Sl F w' (.slice a n cap) p.funcs)=>zgu p _ w' k1);have H1:Hid (firE (ckErr p) (zae p)=pk1 p):=Lib.hid rfl;have H2:Hid (firE (eachE za9 p) (eachE borE p)=pk2 p):=Lib.hid rfl;have H3:Hid (pkErr p=firE (pk1 p) (pk2 p)):=Lib.hid rfl;have Hok:Hid (pk1 p=0→∀ f∈p.funcs,fnErr f=0):=Lib.hid fun h=>(zj6 (ck_pr (z20 h))).2.2;have Hbo:=Lib.hid (zmq hC);have Hin:=Lib.hid zo3;clear hC;generalize ckErr p=e1 at *;generalize zae p=e2 at *;go_enter Tryz.func24,Tryz.ntmps24
 go_wp2_with fail
 (refine z8 7 (by kernel_rfl) (by rfl) ?_;((iterate 2 ((first|refine JqW 0 ?_|refine JqW 2 ?_);(first|go_big_quiet_step (fail)|(refine wpQuiet_step (fun K hK=>?_);go_simp;split<;>(refine hK _ ?_;clear hK K)));refine wpQuiet_nil ?_));(repeat (any_goals (first|(refine JqW 6 ?_;(first|go_big_quiet_step (fail)|(refine wpQuiet_step (fun K hK=>?_);go_simp;split<;>(refine hK _ ?_;clear hK K)));refine wpQuiet_nil ?_)|((first|(refine J_any [1] (by decide +kernel) ?_)|(refine J_any [3] (by decide +kernel) ?_)|(refine J_any [4] (by decide +kernel) ?_)|(refine J_any [5] (by decide +kernel) ?_)|(refine J_any [6] (by decide +kernel) ?_))<;>(refine⟨_,rfl,fun K hK=>?_⟩;go_wp2_with (first|(go_at_call 44;((with_reducible refine armV (Hty.out _ hp.m) ?_);intro x3))|(go_at_call 45;((with_reducible refine armV (Hsa.out _ hp.m) ?_);intro x4))|(go_at_call 43;((with_reducible refine armV (zkw e1 e2 _ _ (by go_simp) (by go_simp)) ?_);intro x5)));refine hK _ _ (za gw) ?_;clear hK K))))));all_goals (refine J_end (by decide +kernel) ?_))
 rw[H1.out];clear H1 Hty Hsa;cases h1:(pk1 p != 0)
 ·have h10:pk1 p=0:=by simpa using h1
  have Hpk:Hid (pkErr p=firE (eachE za9 p) (eachE borE p)):=Lib.hid (by rw[H3.out,H2.out];rw[firE,if_pos h10]);have hok:=Hok.out h10;have He1:=Lib.hid (fun (w' : World) (k1:Sl F w' (.slice a n cap) p.funcs)=>zjr (Or.inl rfl) Hin.out p _ w' k1 hok);have He2:=Lib.hid (fun (w' : World) (k1:Sl F w' (.slice a n cap) p.funcs)=>zjr (Or.inr rfl) Hbo.out p _ w' k1 hok);clear h10 hok Hok Hbo Hin H3;clear H2;generalize eachE za9 p=e3 at *;generalize eachE borE p=e4 at *;go_wp2_with fail
  (refine z8 7 (by kernel_rfl) (by rfl) ?_;((iterate 2 ((first|refine JqW 0 ?_|refine JqW 2 ?_);(first|go_big_quiet_step (fail)|(refine wpQuiet_step (fun K hK=>?_);go_simp;split<;>(refine hK _ ?_;clear hK K)));refine wpQuiet_nil ?_));(repeat (any_goals (first|(refine JqW 6 ?_;(first|go_big_quiet_step (fail)|(refine wpQuiet_step (fun K hK=>?_);go_simp;split<;>(refine hK _ ?_;clear hK K)));refine wpQuiet_nil ?_)|((first|(refine J_any [1] (by decide +kernel) ?_)|(refine J_any [3] (by decide +kernel) ?_)|(refine J_any [4] (by decide +kernel) ?_)|(refine J_any [5] (by decide +kernel) ?_)|(refine J_any [6] (by decide +kernel) ?_))<;>(refine⟨_,rfl,fun K hK=>?_⟩;go_wp2_with (first|(go_at_call 46;((with_reducible refine armV (He1.out _ hp.m) ?_);intro x6))|(go_at_call 46;((with_reducible refine armV (He2.out _ hp.m) ?_);intro x7))|(go_at_call 43;((with_reducible refine armV (zkw e3 e4 _ _ (by go_simp) (by go_simp)) ?_);intro x8)));refine hK _ _ (za gw) ?_;clear hK K))))));all_goals (refine J_end (by decide +kernel) ?_))
  go_wp2_with fail;go_ret
  exact Ret.int Hpk.out.symm gw
 ·have h10:pk1 p≠0:=by simpa using h1
  have Hpk:Hid (pkErr p=pk1 p):=Lib.hid (by rw[H3.out];unfold firE;rw[if_neg h10]);clear h10;go_wp2_with fail;go_ret
  exact Ret.int Hpk.out.symm gw
noncomputable def vouE (p : Pr): Int:=if pkErr p≠0 then pkErr p else if (safeP p).1=true∧(safeP p).2=0 then 0 else 46
theorem zsi (hC : ClaOk)(p : Pr)(pv : Value)(w : World){F : Nat→Prop}(hp : Sl F w pv p.funcs):
  Calls Tryz.prog 11 #[p.v pv] w (Ret w (.int .i64 (vouE p))):=by
 obtain⟨a,n,cap,rfl,Hn,hm,hcap,hcm,hp⟩:=hp.open;have Hck:=Lib.hid (fun (w' : World) (k1:Sl F w' (.slice a n cap) p.funcs)=>zo4 hC p _ w' k1);have Hsa:=Lib.hid (fun (w' : World) (k1:Sl F w' (.slice a n cap) p.funcs)=>zsd p _ w' k1);have Hv:Hid (vouE p=if pkErr p≠0 then pkErr p else if (safeP p).1=true∧(safeP p).2=0 then 0 else 46):=Lib.hid rfl;clear hC;generalize pkErr p=c at *;generalize safeP p=s at *;obtain⟨s1,s2⟩:=s;simp only at Hsa Hv;cases hc:(c != 0)
 ·cases s1<;>cases hs2:(s2 != 0);all_goals
   go_enter Tryz.func11,Tryz.ntmps11
   go_wp2_with (first|(go_at_call 24;((with_reducible refine armV (Hck.out _ hp.m) ?_);intro x2))|(go_at_call 25;((with_reducible refine armV (Hsa.out _ hp.m) ?_);intro x3)));go_ret
   refine Ret.int ?_ gw;rw[Hv.out];simp at hc hs2;simp[hc,hs2]
 ·go_enter Tryz.func11,Tryz.ntmps11
  go_wp2_with (first|(go_at_call 24;((with_reducible refine armV (Hck.out _ hp.m) ?_);intro x2)));go_ret
  exact Ret.int (by rw[Hv.out,if_pos (by simpa using hc)]) gw
theorem z09 (p : Pr): decide (vouE p=0)=(decide (zc9 p=0)&&(safeP p).1&&decide ((safeP p).2=0)):=by
 have h:=z2z p;unfold vouE;generalize safeP p=s;obtain⟨s1,s2⟩:=s;by_cases a:pkErr p=0
 ·rw[if_neg (by simp[a])];have:=h.1 a
  simp only[this,decide_true,Bool.true_and];cases s1<;>by_cases b:s2=0<;>simp[b]
 ·rw[if_pos a];have:¬zc9 p=0:=fun e=>a (h.2 e)
  simp[a,this]
theorem znk (hC : ClaOk)(p : Pr)(pv : Value)(w : World){F : Nat→Prop}(hp : Sl F w pv p.funcs):
  Calls Tryz.prog 5 #[p.v pv] w (Ret w (.tuple #[.bool (accP p).1,.int .i64 (accP p).2])):=by
 obtain⟨a,n,cap,rfl,Hn,hm,hcap,hcm,hp⟩:=hp.open;have Hvo:=Lib.hid (fun (w' : World) (k1:Sl F w' (.slice a n cap) p.funcs)=>zsi hC p _ w' k1);clear hC;cases hpe:(prErr p != 0)
 ·have Hs:Hid (accP p=(decide (vouE p=0),0)):=Lib.hid (by unfold accP;rw[if_neg (by simpa using hpe),z09]);rw[Hs.out];generalize vouE p=c at *;cases hc:(c==0);all_goals
   go_enter Tryz.func5,Tryz.ntmps5
   go_wp2_with (first|(go_at_call 10;((with_reducible refine armV (zbx p _ _ hp.m) ?_);intro x1))|(go_at_call 11;((with_reducible refine armV (Hvo.out _ hp.m) ?_);intro x2)));go_ret2
   refine Ret.mk ?_ gw;simp at hc;simp[hc]
 ·go_enter Tryz.func5,Tryz.ntmps5
  go_wp2_with (first|(go_at_call 10;((with_reducible refine armV (zbx p _ _ hp.m) ?_);intro x1)));go_ret2
  refine Ret.mk ?_ gw;have e:accP p=(false,prErr p):=by unfold accP;rw[if_pos (by simpa using hpe)]
  rw[e];rfl
theorem zo5 (p : Pr)(pv : Value)(w : World){F : Nat→Prop}(hp : Sl F w pv p.funcs){b : Bool}(hb : bigPr 10 p=b): Calls Tryz.prog 4 #[p.v pv] w (Ret w (.bool b)):=hb ▸ zsc p pv w hp
theorem zo6 (hC : ClaOk)(p : Pr)(pv : Value)(o : Nat)(w : World){F : Nat→Prop}(hp : Sl F w pv p.funcs)(ho : o<256):
  Calls Tryz.prog 3 #[p.v pv,.int .u8 o] w (Ret w (.bool true)):=by
 obtain⟨a,n,cap,rfl,Hn,hm,hcap,hcm,hp⟩:=hp.open;have Ha:=Lib.hid (fun (w' : World) (k1:Sl F w' (.slice a n cap) p.funcs)=>znk hC p _ w' k1);have Hb:=Lib.hid (fun (w' : World) (k1:Sl F w' (.slice a n cap) p.funcs)=>zni p _ w' k1);have Hc:=Lib.hid (fun (w' : World)=>zsh o w' ho);have Hd:=Lib.hid (fun (w' : World)=>zsg o w' ho);clear hC;generalize accP p=s at *;generalize tripP o=t at *;obtain⟨s1,s2⟩:=s;obtain⟨t1,t2⟩:=t;simp only at Ha Hb Hc Hd;cases hg:bigPr 10 p;all_goals
  have HG:=Lib.hid (fun (w' : World) (k1:Sl F w' (.slice a n cap) p.funcs)=>zo5 p _ w' k1 hg);go_enter Tryz.func3,Tryz.ntmps3
  go_wp2_with (first|(go_at_call 4;((with_reducible refine armV (HG.out _ hp.m) ?_);intro x1))|(go_at_call 5;((with_reducible refine armV (Ha.out _ hp.m) ?_);intro x2))|(go_at_call 6;((with_reducible refine armV (Hb.out _ hp.m) ?_);intro x3))|(go_at_call 7;((with_reducible refine armV (Hc.out _) ?_);intro x4))|(go_at_call 8;((with_reducible refine armV (Hd.out _) ?_);intro x5)));go_ret
  exact Ret.mk (by simp) gw
end Go.Proofs.YtacmoaeglbggjaaGreat
