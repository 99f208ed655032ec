/- A part of the proof. -/
import Derived.Test.YtllodfoldffonaaGreatDoorQ21
namespace Go.Proofs.YtllodfoldffonaaGreatDoor
open Tryz AM Go.RowKit
set_option linter.unusedSimpArgs false
set_option linter.unusedVariables false
set_option linter.defProp false
set_option maxRecDepth 100000
set_option maxHeartbeats 16000000
variable {call:Int}{l:List Ce}{ls:List (List Ce)}{p:Pr}{q:Po}{qs:List Po}{s:Sa}{t:Ty}{ts:List Ty}
def alF:Sa->List Ty->List Po->Sa×List Po×Int
 |s,[],ls=>(s,ls,0)
 |s,t::ts,ls=>if(sAl s (zg t)).2.2=0 then alF (sAl s (zg t)).1 ts (ls++[(sAl s (zg t)).2.1]) else(s,ls,(sAl s (zg t)).2.2)
def stF:Sa->List Po->List (List Ce)->Sa×Int
 |s,q::qs,l::ls=>if(sSt s q l).2=0 then stF (sSt s q l).1 qs ls else(s,(sSt s q l).2)
 |s,_,_=>(s,0)
def rtK (t:Ty): Int:=if t.kind=3 then 1 else 2
def rt1 (call:Int)(s:Sa)(q:Po)(t:Ty)(l:List Ce): Sa×Int :=
 if t.kind=3\/t.kind=4 then
  if ¬(sRt s (ce0 l).p (zg ⟨t.to,0⟩) (rtK t) call).2.2=0 then(s,(sRt s (ce0 l).p (zg ⟨t.to,0⟩) (rtK t) call).2.2) else
  sSt (sRt s (ce0 l).p (zg ⟨t.to,0⟩) (rtK t) call).1 q [⟨2,0,(sRt s (ce0 l).p (zg ⟨t.to,0⟩) (rtK t) call).2.1⟩]
 else(s,0)
def rtF (call:Int): Sa->List Po->List Ty->List (List Ce)->Sa×Int
 |s,q::qs,t::ts,l::ls=>if(rt1 call s q t l).2=0 then rtF call (rt1 call s q t l).1 qs ts ls else(s,(rt1 call s q t l).2)
 |s,_,_,_=>(s,0)
def sEn (s:Sa): Sa:=yh s (gEn s).1
def puA (s:Sa)(f:Fn): Sa×List Po×Int:=alF (sEn s) f.locals []
def puB (s:Sa)(f:Fn)(args:List (List Ce)): Sa×Int:=stF (puA s f).1 ((puA s f).2.1.drop 1) args
def puC (s:Sa)(f:Fn)(args:List (List Ce)): Sa×Int:=rtF (gEn s).2.1 (puB s f args).1 ((puA s f).2.1.drop 1) (f.locals.drop 1) args
def puS (s:Sa)(k:Int)(f:Fn)(args:List (List Ce)): Sa×Int :=
 if 16<=s.frames.length then(s,3) else if ¬(gEn s).2.2=0 then(s,yw 0 (gEn s).2.2) else
 if ¬(puA s f).2.2=0 then(s,(puA s f).2.2) else if ¬(puB s f args).2=0 then(s,(puB s f args).2) else if ¬(puC s f args).2=0 then(s,(puC s f args).2) else
 (⟨(puC s f args).1.plain,(puC s f args).1.mon,(puC s f args).1.frames++[⟨k,0,(gEn s).2.1,(puA s f).2.1⟩],(puC s f args).1.prints,(puC s f args).1.result⟩,0)
def fN(h:WhV s)(b:(gEn s).2.2=0): WhV (sEn s):=by
 unfold sEn gEn at *;cases hp:s.plain with
 |true =>
  simp only[if_true] at b ⊢;exact⟨λe=>by unfold yh at e;simp[hp] at e,λ_=>h.pl hp,h.me⟩
 |false =>
  simp only[hp,Bool.false_eq_true,if_false] at b ⊢;have a:=(In (h.mo hp) b).1;exact⟨λ_=>a,λe=>by unfold yh at e;simp[hp] at e,a.me⟩
def az {s:Sa}{n:Int}: yB s (sAl s n).1:=by unfold sAl;split<;>exact⟨rfl,rfl,rfl,rfl⟩
def a9 {s:Sa}: yB s (sEn s):=⟨rfl,rfl,rfl,rfl⟩
def Px {call:Int}{s:Sa}{q:Po}{t:Ty}{l:List Ce}: yB s (rt1 call s q t l).1:=by
 unfold rt1;split
 ·split
  ·exact .rfl'
  ·exact jz.tr oW
 ·exact .rfl'
def Py(h:WhV s): WhV (rt1 call s q t l).1:=by
 unfold rt1;split
 ·split
  ·exact h
  ·exact mR (f7 h)
 ·exact h
def yB.wf {s s':Sa}(h:yB s s')(a:z9 s)(b:WhV s'): z9 s':=⟨b.wfm,by rw[h.fr];exact a.fr,by rw[h.fr];exact a.lo,by rw[h.pr];exact a.pr,by rw[h.re];exact a.re⟩
def pN{ls:List Po}(h:(sAl s (zg t)).2.2=0): alF s (t::ts) ls=alF (sAl s (zg t)).1 ts (ls++[(sAl s (zg t)).2.1]):=by
 show(if _ then _ else _)=_;rw[if_pos h]
def ma{ls:List Po}(h:¬(sAl s (zg t)).2.2=0): alF s (t::ts) ls=(s,ls,(sAl s (zg t)).2.2):=by
 show(if _ then _ else _)=_;rw[if_neg h]
def mb(h:(sSt s q l).2=0): stF s (q::qs) (l::ls)=stF (sSt s q l).1 qs ls:=by
 show(if _ then _ else _)=_;rw[if_pos h]
def fO(h:¬(sSt s q l).2=0): stF s (q::qs) (l::ls)=(s,(sSt s q l).2):=by
 show(if _ then _ else _)=_;rw[if_neg h]
def mc(h:(rt1 call s q t l).2=0): rtF call s (q::qs) (t::ts) (l::ls)=rtF call (rt1 call s q t l).1 qs ts ls:=by
 show(if _ then _ else _)=_;rw[if_pos h]
def fP(h:¬(rt1 call s q t l).2=0): rtF call s (q::qs) (t::ts) (l::ls)=(s,(rt1 call s q t l).2):=by
 show(if _ then _ else _)=_;rw[if_neg h]
def dM: stF s qs []=(s,0):=by cases qs<;>rfl
def md: rtF call s qs ts []=(s,0):=by cases qs<;>cases ts<;>rfl
def Pz:∀ {ts:List Ty} {s:Sa} {ls:List Po},yB s (alF s ts ls).1
 |[],s,ls=>.rfl'
 |t::ts,s,ls=>by
  by_cases h:(sAl s (zg t)).2.2=0
  ·rw[pN h];exact az.tr Pz
  ·rw[ma h];exact .rfl'
def UD:∀ {ts:List Ty} {s:Sa} {ls:List Po},WhV s->WhV (alF s ts ls).1
 |[],s,ls,h=>h
 |t::ts,s,ls,h=>by
  by_cases a:(sAl s (zg t)).2.2=0
  ·rw[pN a];exact UD (ay h)
  ·rw[ma a];exact h
def Vp:∀ {ts:List Ty} {s:Sa} {ls:List Po},(alF s ts ls).2.2=0->(alF s ts ls).2.1.length=ls.length+ts.length
 |[],s,ls,_=>rfl
 |t::ts,s,ls,h=>by
  by_cases a:(sAl s (zg t)).2.2=0
  ·rw[pN a] at h ⊢;rw[Vp h];simp;omega
  ·rw[ma a] at h;exact absurd h a
def P0:∀ {ls:List (List Ce)} {qs:List Po} {s:Sa},yB s (stF s qs ls).1
 |[],[],s=>.rfl'
 |[],_::_,s=>.rfl'
 |_::_,[],s=>.rfl'
 |l::ls,q::qs,s=>by
  by_cases h:(sSt s q l).2=0
  ·rw[mb h];exact oW.tr P0
  ·rw[fO h];exact .rfl'
def P1:∀ {ls:List (List Ce)} {qs:List Po} {s:Sa},WhV s->WhV (stF s qs ls).1
 |[],[],s,h=>h
 |[],_::_,s,h=>h
 |_::_,[],s,h=>h
 |l::ls,q::qs,s,h=>by
  by_cases a:(sSt s q l).2=0
  ·rw[mb a];exact P1 (mR h)
  ·rw[fO a];exact h
def QB (s:Sa)(m:WhV s): ∃e f h i j k g b,zK 176 [s.a] (.agg [e,f,h,i,j,.fn g b,k])/\vQ Tryz.prog g/\zK g b (.tup [(gEn s).1.a,iI (gEn s).2.1,iI (gEn s).2.2]):=by
 have c:=wY s;cases hp:s.plain with
 |false =>
  rw[ru hp] at c;refine⟨_,_,_,_,_,_,_,_,c,by go_simp,?_⟩;have d:gEn s=mEn s.mon:=by unfold gEn;rw[hp];rfl
  rw[d];exact Em s.mon (m.mo hp)
 |true =>
  rw[rx hp] at c;refine⟨_,_,_,_,_,_,_,_,c,by go_simp,?_⟩;have d:gEn s=(s.mon,0,0):=by unfold gEn;rw[hp];rfl
  rw[d];exact I3 s.mon
def Sr (s:Sa)(o:Int)(d:z9 s): zK 215 [iU o,.rp (Sa.c s)] (.tup [s.a,iU o]):=by
 have b:=yN s d;refine eK [] func215 λX=>?_;go_simp;repeat'(first|(apply zd b;try go_simp)|with_reducible first|apply ai|intro)
def ck (l:List Ce): List AV:=[vCe_ l]
attribute [go_sem] ck
def saX (x:Sa)(i:AM.Id)(b c:Nat): List AV:=[.bool x.plain,vAl_ x.mon.mem.allocs,iI x.mon.mem.next,vSs_ x.mon.stacks,vCi_ x.mon.running,iI x.mon.ntag,iI x.mon.ncall,.sl i b 4 x.frames.length c,vCi_ x.prints,vCi_ x.result]
attribute [go_sem] saX
structure Hd (p:Prop): Prop where
 out:p
def jV (p:Pr)(s:Sa)(k:Nat)(f:Fn)(args:List (List Ce))(hw:z9 s)(hv:WhV s)(hf:p.funcs[k]?=some f)(hF:fnS f)(ha:args.length+1<=f.locals.length)(ho:∀l∈args,0<l.length/\l.length<1000000):
  zK 140 [p.a,s.a,iI k,.vec 1 (args.map ck)] (.tup [(puS s k f args).1.a,iU (puS s k f args).2]):=by
 suffices HH:∀R,Hd (∀r,puS s k f args=r->R=r)->zK 140 [p.a,s.a,iI k,.vec 1 (args.map ck)] (.tup [R.1.a,iU R.2]) from HH _ ⟨λr h=>h⟩
 intro R h4;have hT:=yN s hw;have un:=hw.fr;obtain⟨ut,us⟩:=zS.1 hf;by_cases hz:16<=s.frames.length
 ·obtain rfl:=h4.out (s,3) (by unfold puS;rw[if_pos hz]);clear h4;have h1:(16:Int)<=s.frames.length:=om;refine eK [] func140 λX=>?_;go_simp;repeat'(first|(apply zd hT;try go_simp)|with_reducible first|apply ai|intro)
 ·have h1:¬(16:Int)<=s.frames.length:=om;have xl:=x3 0 (gEn s).2.2;obtain⟨a0,a1,a2,a3,a4,a6,g,u3,hO,xd,hG⟩:=QB s hv;have hU:=λo=>Sr s o hw;have y4:=fN hv;by_cases e:(gEn s).2.2=0
  ·have xa:=y4 e;have xk:=@a9 s;have xc:=bD (sEn s) (xk.wf hw xa);have x1:puA s f=alF (sEn s) f.locals []:=rfl;have h3:puC s f args=rtF (gEn s).2.1 (puB s f args).1 ((puA s f).2.1.drop 1) (f.locals.drop 1) args:=rfl;have yn:sEn s=yh s (gEn s).1:=rfl;generalize yp:(gEn s).2.1=call at *;generalize uk:(gEn s).1=G1 at *;rw[e] at hG;rw[yn] at xc xa xk x1;refine eK [3,15,18,19,23,27,38,41,44,45] func140 λX=>?_;go_simp;intro b4 b5 b8;refine z5 [.l 5] 5 (SV.ptr rfl rfl rfl rfl sm rfl) ?_;refine aO [15,18,19,23,27,38,41,44,45] ?_;go_simp;repeat'(first|(apply zd hO;try go_simp)|(apply zd hG;try go_simp)|exact xd|(apply zd hT;try go_simp)|(refine yR [] [.l 200] xc ?_;intro q;try go_simp)|with_reducible first|apply ai|intro)
   rename_i ue hc he;refine sS 16 (.l 201) 3 53 (by go_simp) (by go_simp) ?_;refine lG [15,18,19,23,27,38,41,44,45] (G:=Nat×Sa×List Po×(Nat×Nat)×(Nat×Nat)) (λv=>[(2,iI k),(3,.vec 1 (args.map ck)),(5,.rp (Sa.c s)),(8,.ptr (.l 8) b8 10 0 0),(10,.fn 215 [.rp (Sa.c s)]),(12,iI call),(14,.ptr (.l 14) hc 10 0 0),(15,.ptr (.l 15) he 4 0 0),(16,.sl (.l 201) v.2.2.2.2.1 3 v.2.2.1.length v.2.2.2.2.2),(68,vTy_ f.locals),(69,iI f.locals.length),(70,iI v.1)]) (λv=>[(.l 8,⟨b8,1,10,35,[zr0],false⟩),(.l 14,⟨hc,1,10,35,[saX v.2.1 (.l 200) v.2.2.2.1.1 v.2.2.2.1.2],false⟩),(.l 15,⟨he,1,4,60,[Fn.c f],false⟩),(.l 200,⟨v.2.2.2.1.1,v.2.2.2.1.2,4,64,v.2.1.frames.map Fm.c,false⟩),(.l 201,⟨v.2.2.2.2.1,v.2.2.2.2.2,3,53,v.2.2.1.map Po.c,false⟩)]) (λv=>v.1<=f.locals.length/\v.2.2.1.length=v.1/\WhV v.2.1/\yB s v.2.1/\alF v.2.1 (f.locals.drop v.1) v.2.2.1=puA s f) (λv=>f.locals.length-v.1) (0,yh s G1,[],(q 0),(0,0)) ?_ (h0:=⟨Nat.zero_le _,rfl,xa,xk,x1.symm⟩)
   rintro⟨i,x,ls,⟨d1,d2⟩,⟨e1,e2⟩⟩ ⟨hi,yt,h7,hu,h2⟩;simp only at hi yt h7 hu h2;have y2:=hu.wf hw h7;by_cases V:i<f.locals.length
   ·have h9:¬f.locals.length<=i:=om;have yl:f.locals[i]?=some f.locals[i]:=zE V;have hd:f.locals.drop i=f.locals[i]::f.locals.drop (i+1):=List.drop_eq_getElem_cons V;have hS:=vD _ (hF.tys _ (zM V));have yd:=hF.l16;rw[hd] at h2;clear hd xc hG hO xd hT xl;generalize yc:f.locals[i]=t at *;have x2:=ky x (zg t) y2 h7;have xj:=dL x (zg t) y2 h7;have m:=ay h7 (n:=zg t);have j:=hu.tr (@az x (zg t));by_cases o:(sAl x (zg t)).2.2=0
    ·have hn:=xj o;rw[pN o] at h2;clear xj x2 h3 x1;obtain⟨A,d⟩:∃A,A=sAl x (zg t):=⟨_,rfl⟩
     rw[<-d] at o hn m j h2;clear d;obtain⟨Q,A2,A3⟩:=A;simp only at o hn m j h2;subst o;obtain⟨tk,Y⟩:=t;go_simp;intro ym;refine yU [.l 200] (.l 14) 0 7 (row:=saX x (.l 200) d1 d2) (v:=vFm_ x.frames) ?_;refine uq hP ⟨[(14,.l 14,0),(18,.l 18,0),(19,.l 19,0),(20,.l 20,0)],true⟩ [78] dk ?_;go_simp;repeat'(first|((first|apply zd hS|(refine j8 hn ?_;intro q));try go_simp)|with_reducible first|apply ai|intro)
     refine lm hP ⟨[(19,.l 19,0),(20,.l 20,0),(14,.l 14,0),(90,.l 201,0),(92,.l 92,0)],true⟩ dk ?_;go_simp;intro ui;refine⟨om,λbb cc=>?_⟩;refine pQ (.l 200) ?_;refine sT (.s 0 (.l 78)) (.l 200) (.l 14) 0 7 (row:=saX Q (.s 0 (.l 78)) (q 0).1 (q 0).2) rfl rfl rfl (by decide) rfl rfl ?_;refine aO [] ?_;go_simp;exact⟨i+1,Q,ls++[A2],⟨om,by simp;omega,m,j,h2⟩,om,_,_,_,_,⟨⟨rfl,by simp;omega,rfl⟩,wrS om⟩,⟨rfl,rfl,rfl,rfl,rfl,rfl,rfl,⟨rfl,rfl,rfl⟩,rfl,rfl⟩,⟨rfl,rfl,rfl⟩,rfl,rfl,by rw[zT (by simp;omega),zV];rfl⟩
    ·have hb:=z4 o;have h6:puA s f=(x,ls,(sAl x (zg t)).2.2):=by rw[<-h2,ma o]
     obtain rfl:=h4.out (s,(sAl x (zg t)).2.2) (by unfold puS;rw[if_neg hz,if_neg (by simpa using e),h6];exact if_pos o);clear h6 h2 xj h3 h4;obtain⟨A,d⟩:∃A,A=sAl x (zg t):=⟨_,rfl⟩
     rw[<-d] at hb x2 ⊢;clear d o;obtain⟨Q,A2,A3⟩:=A;simp only at hb x2 ⊢;have O:=hU A3;obtain⟨tk,Y⟩:=t;go_simp;intro ym;refine yU [.l 200] (.l 14) 0 7 (row:=saX x (.l 200) d1 d2) (v:=vFm_ x.frames) ?_;refine zh hP ⟨[(14,.l 14,0),(18,.l 18,0),(19,.l 19,0),(20,.l 20,0)],true⟩ dk ?_;go_simp;repeat'(first|((first|apply zd hS|apply zd x2|apply zd O);try go_simp)|with_reducible first|apply ai|intro)
   ·obtain rfl:i=f.locals.length:=om;have h9:¬f.locals.length<f.locals.length:=om;have h6:puA s f=(x,ls,0):=by rw[<-h2,List.drop_length];rfl
    have y3:puB s f args=stF x (ls.drop 1) args:=by unfold puB;rw[h6]
    rw[h6] at h3;have hR:Hd (∀r,(if ¬(puB s f args).2=0 then(s,(puB s f args).2) else if ¬(puC s f args).2=0 then(s,(puC s f args).2) else(⟨(puC s f args).1.plain,(puC s f args).1.mon,(puC s f args).1.frames++[⟨k,0,call,ls⟩],(puC s f args).1.prints,(puC s f args).1.result⟩,0))=r->R=r):=⟨λr hr=>h4.out r (by
     unfold puS;rw[if_neg hz,if_neg (by simpa using e),h6,yp,<-hr];exact if_neg sm)⟩
    clear h4;have yd:=hF.l16;clear h2 h6 xc hG hO xd hT xl x1 xa;go_simp;refine lG [23,27,38,41,44,45] (G:=Nat×Sa×(Nat×Nat)) (λv=>[(2,iI k),(3,.vec 1 (args.map ck)),(5,.rp (Sa.c s)),(8,.ptr (.l 8) b8 10 0 0),(10,.fn 215 [.rp (Sa.c s)]),(12,iI call),(14,.ptr (.l 14) hc 10 0 0),(15,.ptr (.l 15) he 4 0 0),(16,.sl (.l 201) e1 3 ls.length e2),(95,.vec 1 (args.map ck)),(96,iI args.length),(97,iI v.1)]) (λv=>[(.l 8,⟨b8,1,10,35,[zr0],false⟩),(.l 14,⟨hc,1,10,35,[saX v.2.1 (.l 200) v.2.2.1 v.2.2.2],false⟩),(.l 15,⟨he,1,4,60,[Fn.c f],false⟩),(.l 200,⟨v.2.2.1,v.2.2.2,4,64,v.2.1.frames.map Fm.c,false⟩),(.l 201,⟨e1,e2,3,53,ls.map Po.c,false⟩)]) (λv=>v.1<=args.length/\WhV v.2.1/\yB s v.2.1/\stF v.2.1 (ls.drop (1+v.1)) (args.drop v.1)=puB s f args) (λv=>args.length-v.1) (0,x,(d1,d2)) ?_ (h0:=⟨Nat.zero_le _,h7,hu,y3.symm⟩)
    clear h7 hu y2 hi d1 d2 y3;rintro⟨i,y,⟨d1,d2⟩⟩ ⟨hi,F,P,u⟩;simp only at hi F P u;have h8:=P.wf hw F;by_cases V:i<args.length
    ·have h9:¬args.length<=i:=om;have hd:args.drop i=args[i]::args.drop (i+1):=List.drop_eq_getElem_cons V;have yl:args[i]?=some args[i]:=zE V;have hq:=ho _ (zM V);have ht:i+1<ls.length:=om;have ye:(i:Int)+1<ls.length:=om;have yf:(i:Int)+1<f.locals.length:=om;have ys:(0:Int)<=(i:Int)+1:=om;have yk:((i:Int)+1).toNat=i+1:=om;have u2:IntKind.i64.wrap ((i:Int)+1)=(i:Int)+1:=AM.Tf om;have hp:ls.drop (1+i)=ls[i+1]::ls.drop (1+(i+1)):=by rw[show 1+i=i+1 by omega,List.drop_eq_getElem_cons ht,show 1+(i+1)=i+1+1 by omega]
     have hle:ls[i+1]?=some ls[i+1]:=zE ht;rw[hd,hp] at u;clear hd hp;generalize yc:args[i]=l at *;generalize yr:ls[i+1]=z at *;have K:=ry y z l hq.2 h8 F;have U:=rU y z l hq.2 h8 F;have xs:=mR F (q:=z) (l:=l);have xr:=P.tr (@oW y z l);by_cases o:(sSt y z l).2=0
     ·have D:=U o;rw[mb o] at u;clear U K h3 hR;obtain⟨A,d⟩:∃A,A=sSt y z l:=⟨_,rfl⟩
      rw[<-d] at o D xs xr u;clear d;obtain⟨Q,A2⟩:=A;simp only at o D xs xr u;subst o;obtain⟨za,zo,zt⟩:=z;go_simp;refine yU [.l 200] (.l 14) 0 7 (row:=saX y (.l 200) d1 d2) (v:=vFm_ y.frames) ?_;refine uq hP ⟨[(14,.l 14,0),(107,.l 201,0),(24,.l 24,0)],true⟩ [110] dk ?_;go_simp;repeat'(first|(refine j8 D ?_;intro q;try go_simp)|with_reducible first|apply ai|intro)
      refine pQ (.l 200) ?_;refine sT (.s 0 (.l 110)) (.l 200) (.l 14) 0 7 (row:=saX Q (.s 0 (.l 110)) (q 0).1 (q 0).2) rfl rfl rfl (by decide) rfl rfl ?_;refine aO [] ?_;go_simp;exact⟨i+1,Q,⟨om,xs,xr,u⟩,om,om,_,_,⟨rfl,rfl,rfl,rfl,rfl,rfl,rfl,⟨rfl,rfl,rfl⟩,rfl,rfl⟩,rfl,rfl,rfl⟩
     ·have hb:=z4 o;have hj:puB s f args=(y,(sSt y z l).2):=by rw[<-u,fO o]
      obtain rfl:=hR.out (s,(sSt y z l).2) (by rw[hj];exact if_pos o);clear u U h3 hR hj;obtain⟨A,d⟩:∃A,A=sSt y z l:=⟨_,rfl⟩
      rw[<-d] at hb K ⊢;clear d o;obtain⟨Q,A2⟩:=A;simp only at hb K ⊢;have O:=hU A2;obtain⟨za,zo,zt⟩:=z;go_simp;refine yU [.l 200] (.l 14) 0 7 (row:=saX y (.l 200) d1 d2) (v:=vFm_ y.frames) ?_;refine zh hP ⟨[(14,.l 14,0),(107,.l 201,0),(24,.l 24,0)],true⟩ dk ?_;go_simp;repeat'(first|((first|apply zd K|apply zd O);try go_simp)|with_reducible first|apply ai|intro)
    ·obtain rfl:i=args.length:=om;have h9:¬args.length<args.length:=om;have hj:puB s f args=(y,0):=by rw[<-u,List.drop_length,dM]
     have M:Hd (∀r,(if ¬(puC s f args).2=0 then(s,(puC s f args).2) else(⟨(puC s f args).1.plain,(puC s f args).1.mon,(puC s f args).1.frames++[⟨k,0,call,ls⟩],(puC s f args).1.prints,(puC s f args).1.result⟩,0))=r->R=r):=⟨λr hr=>hR.out r (by rw[hj,<-hr];exact if_neg sm)⟩
     rw[hj] at h3;simp only at h3;clear hR hj u;go_simp;refine lG [38,41,44,45] (G:=Nat×Sa×(Nat×Nat)) (λv=>[(2,iI k),(5,.rp (Sa.c s)),(8,.ptr (.l 8) b8 10 0 0),(10,.fn 215 [.rp (Sa.c s)]),(12,iI call),(14,.ptr (.l 14) hc 10 0 0),(15,.ptr (.l 15) he 4 0 0),(16,.sl (.l 201) e1 3 ls.length e2),(122,.vec 1 (args.map ck)),(123,iI args.length),(124,iI v.1)]) (λv=>[(.l 8,⟨b8,1,10,35,[zr0],false⟩),(.l 14,⟨hc,1,10,35,[saX v.2.1 (.l 200) v.2.2.1 v.2.2.2],false⟩),(.l 15,⟨he,1,4,60,[Fn.c f],false⟩),(.l 200,⟨v.2.2.1,v.2.2.2,4,64,v.2.1.frames.map Fm.c,false⟩),(.l 201,⟨e1,e2,3,53,ls.map Po.c,false⟩)]) (λv=>v.1<=args.length/\WhV v.2.1/\yB s v.2.1/\rtF call v.2.1 (ls.drop (1+v.1)) (f.locals.drop (1+v.1)) (args.drop v.1)=puC s f args) (λv=>args.length-v.1) (0,y,(d1,d2)) ?_ (h0:=⟨Nat.zero_le _,F,P,h3.symm⟩)
     clear F P h8 hi d1 d2 h3 y;rintro⟨i,y,⟨d1,d2⟩⟩ ⟨hi,F,P,u⟩;simp only at hi F P u;have h8:=P.wf hw F;by_cases V:i<args.length
     ·have h9:¬args.length<=i:=om;have hd:args.drop i=args[i]::args.drop (i+1):=List.drop_eq_getElem_cons V;have yl:args[i]?=some args[i]:=zE V;have hq:=ho _ (zM V);have ht:i+1<ls.length:=om;have y1:i+1<f.locals.length:=om;have ye:(i:Int)+1<ls.length:=om;have yf:(i:Int)+1<f.locals.length:=om;have ys:(0:Int)<=(i:Int)+1:=om;have yk:((i:Int)+1).toNat=i+1:=om;have u2:IntKind.i64.wrap ((i:Int)+1)=(i:Int)+1:=AM.Tf om;have hp:ls.drop (1+i)=ls[i+1]::ls.drop (1+(i+1)):=by rw[show 1+i=i+1 by omega,List.drop_eq_getElem_cons ht,show 1+(i+1)=i+1+1 by omega]
      have ya:f.locals.drop (1+i)=f.locals[i+1]::f.locals.drop (1+(i+1)):=by rw[show 1+i=i+1 by omega,List.drop_eq_getElem_cons y1,show 1+(i+1)=i+1+1 by omega]
      have hle:ls[i+1]?=some ls[i+1]:=zE ht;have u4:f.locals[i+1]?=some f.locals[i+1]:=zE y1;have xf:=hF.tys _ (zM y1);rw[hd,hp,ya] at u;clear hd hp ya;generalize yc:args[i]=l at *;generalize yr:ls[i+1]=z at *;generalize up:f.locals[i+1]=t at *;have E:=λh=>(mc (call:=call) (s:=y) (q:=z) (qs:=ls.drop (1+(i+1))) (t:=t) (ts:=f.locals.drop (1+(i+1))) (l:=l) (ls:=args.drop (i+1)) h).symm.trans u;have w:=λh=>(fP (call:=call) (s:=y) (q:=z) (qs:=ls.drop (1+(i+1))) (t:=t) (ts:=f.locals.drop (1+(i+1))) (l:=l) (ls:=args.drop (i+1)) h).symm.trans u;have m:=Py F (call:=call) (q:=z) (t:=t) (l:=l);have j:=P.tr (@Px call y z t l);clear u;obtain⟨tk,Y⟩:=t;by_cases k3:tk=3
      ·subst k3;cases l with
       |nil=>simp at hq
       |cons H lr =>
        have b:rt1 call y z ⟨3,Y⟩ (H::lr)=if ¬(sRt y H.p (zg ⟨Y,0⟩) 1 call).2.2=0 then(y,(sRt y H.p (zg ⟨Y,0⟩) 1 call).2.2) else sSt (sRt y H.p (zg ⟨Y,0⟩) 1 call).1 z [⟨2,0,(sRt y H.p (zg ⟨Y,0⟩) 1 call).2.1⟩]:=rfl;have hS:=vD ⟨Y,0⟩ (by unfold yE at xf ⊢;simp at xf ⊢;omega);have I:=oD y H.p (zg ⟨Y,0⟩) 1 call om h8 F;have C:=f7 F (q:=H.p) (n:=zg ⟨Y,0⟩) (kind:=1) (call:=call);have N:=P.tr (@jz y H.p (zg ⟨Y,0⟩) 1 call);generalize hZ:zg ⟨Y,0⟩=Z at *;by_cases o1:(sRt y H.p Z 1 call).2.2=0
        ·rw[if_neg (by simpa using o1)] at b;rw[b] at w E m j;obtain⟨A,d⟩:∃A,A=sRt y H.p Z 1 call:=⟨_,rfl⟩
         rw[<-d] at o1 I C N w E m j;clear d b;obtain⟨Q,A2,A3⟩:=A;simp only at o1 I C N w E m j;subst o1;have J:=N.wf hw C;have K:=ry Q z [⟨2,0,A2⟩] sm J C;have U:=rU Q z [⟨2,0,A2⟩] sm J C;by_cases o2:(sSt Q z [⟨2,0,A2⟩]).2=0
         ·have D:=U o2;have W:=E o2;clear E w U K M C N J;obtain⟨B,T⟩:∃B,B=sSt Q z [⟨2,0,A2⟩]:=⟨_,rfl⟩
          rw[<-T] at o2 D m j W;clear T;obtain⟨B1,B2⟩:=B;simp only at o2 D m j W;subst o2;obtain⟨za,zo,zt⟩:=z;obtain⟨hl,hm,S⟩:=H;obtain⟨hx,h5,hy⟩:=S;go_simp;intro hg;refine yU [.l 200] (.l 14) 0 7 (row:=saX y (.l 200) d1 d2) (v:=vFm_ y.frames) ?_;refine zh hP ⟨[(14,.l 14,0),(147,.l 28,1),(30,.l 30,0),(31,.l 31,0)],true⟩ dk ?_;go_simp;repeat'(first|((first|apply zd hS|apply zd I);try go_simp)|with_reducible first|apply ai|intro)
          refine uq hP ⟨[(14,.l 14,0),(169,.l 201,0),(30,.l 30,0),(31,.l 31,0)],true⟩ [174] dk ?_;go_simp;intro hk;repeat'(first|(refine rT [.l 173] D ?_;intro q;try go_simp)|with_reducible first|apply ai|intro)
          refine pQ (.l 200) ?_;refine sT (.s 0 (.l 174)) (.l 200) (.l 14) 0 7 (row:=saX B1 (.s 0 (.l 174)) (q 0).1 (q 0).2) rfl rfl rfl (by decide) rfl rfl ?_;refine aO [] ?_;go_simp;exact⟨i+1,B1,⟨om,m,j,W⟩,om,om,_,_,⟨rfl,rfl,rfl,rfl,rfl,rfl,rfl,⟨rfl,rfl,rfl⟩,rfl,rfl⟩,rfl,rfl,rfl⟩
         ·have hb:=z4 o2;have L:=w o2;obtain rfl:=M.out (s,(sSt Q z [⟨2,0,A2⟩]).2) (by rw[<-L];exact if_pos o2);clear E w U M C N J L m j;obtain⟨B,T⟩:∃B,B=sSt Q z [⟨2,0,A2⟩]:=⟨_,rfl⟩
          rw[<-T] at hb K ⊢;clear T o2;obtain⟨B1,B2⟩:=B;simp only at hb K ⊢;have O:=hU B2;have xn:=K.kg;obtain⟨za,zo,zt⟩:=z;obtain⟨hl,hm,S⟩:=H;obtain⟨hx,h5,hy⟩:=S;go_simp;intro hg;refine yU [.l 200] (.l 14) 0 7 (row:=saX y (.l 200) d1 d2) (v:=vFm_ y.frames) ?_;refine zh hP ⟨[(14,.l 14,0),(147,.l 28,1),(30,.l 30,0),(31,.l 31,0)],true⟩ dk ?_;go_simp;repeat'(first|((first|apply zd hS|apply zd I);try go_simp)|with_reducible first|apply ai|intro)
          refine uq hP ⟨[(14,.l 14,0),(169,.l 201,0),(30,.l 30,0),(31,.l 31,0)],true⟩ [174] dk ?_;go_simp;intro hk;repeat'(first|(refine rT [.l 173] xn ?_;intro q;try go_simp)|with_reducible first|apply ai|intro)
          repeat'(first|(apply zd O;try go_simp)|with_reducible first|apply ai|intro)
        ·have hb:=z4 o1;rw[if_pos o1] at b;rw[b] at w;have L:=w o1;obtain rfl:=M.out (s,(sRt y H.p Z 1 call).2.2) (by rw[<-L];exact if_pos o1);obtain⟨A,d⟩:∃A,A=sRt y H.p Z 1 call:=⟨_,rfl⟩
         rw[<-d] at hb I ⊢;clear d b E w M C N L m j o1;obtain⟨Q,A2,A3⟩:=A;simp only at hb I ⊢;have O:=hU A3;obtain⟨za,zo,zt⟩:=z;obtain⟨hl,hm,S⟩:=H;obtain⟨hx,h5,hy⟩:=S;go_simp;intro hg;refine yU [.l 200] (.l 14) 0 7 (row:=saX y (.l 200) d1 d2) (v:=vFm_ y.frames) ?_;refine zh hP ⟨[(14,.l 14,0),(147,.l 28,1),(30,.l 30,0),(31,.l 31,0)],true⟩ dk ?_;go_simp;repeat'(first|((first|apply zd hS|apply zd I|apply zd O);try go_simp)|with_reducible first|apply ai|intro)
      ·by_cases k4:tk=4
       ·subst k4;cases l with
        |nil=>simp at hq
        |cons H lr =>
         have b:rt1 call y z ⟨4,Y⟩ (H::lr)=if ¬(sRt y H.p (zg ⟨Y,0⟩) 2 call).2.2=0 then(y,(sRt y H.p (zg ⟨Y,0⟩) 2 call).2.2) else sSt (sRt y H.p (zg ⟨Y,0⟩) 2 call).1 z [⟨2,0,(sRt y H.p (zg ⟨Y,0⟩) 2 call).2.1⟩]:=rfl;have hS:=vD ⟨Y,0⟩ (by unfold yE at xf ⊢;simp at xf ⊢;omega);have I:=oD y H.p (zg ⟨Y,0⟩) 2 call om h8 F;have C:=f7 F (q:=H.p) (n:=zg ⟨Y,0⟩) (kind:=2) (call:=call);have N:=P.tr (@jz y H.p (zg ⟨Y,0⟩) 2 call);generalize hZ:zg ⟨Y,0⟩=Z at *;by_cases o1:(sRt y H.p Z 2 call).2.2=0
         ·rw[if_neg (by simpa using o1)] at b;rw[b] at w E m j;obtain⟨A,d⟩:∃A,A=sRt y H.p Z 2 call:=⟨_,rfl⟩
          rw[<-d] at o1 I C N w E m j;clear d b;obtain⟨Q,A2,A3⟩:=A;simp only at o1 I C N w E m j;subst o1;have J:=N.wf hw C;have K:=ry Q z [⟨2,0,A2⟩] sm J C;have U:=rU Q z [⟨2,0,A2⟩] sm J C;by_cases o2:(sSt Q z [⟨2,0,A2⟩]).2=0
          ·have D:=U o2;have W:=E o2;clear E w U K M C N J;obtain⟨B,T⟩:∃B,B=sSt Q z [⟨2,0,A2⟩]:=⟨_,rfl⟩
           rw[<-T] at o2 D m j W;clear T;obtain⟨B1,B2⟩:=B;simp only at o2 D m j W;subst o2;obtain⟨za,zo,zt⟩:=z;obtain⟨hl,hm,S⟩:=H;obtain⟨hx,h5,hy⟩:=S;go_simp;intro hg;refine yU [.l 200] (.l 14) 0 7 (row:=saX y (.l 200) d1 d2) (v:=vFm_ y.frames) ?_;refine zh hP ⟨[(14,.l 14,0),(147,.l 28,1),(30,.l 30,0),(31,.l 31,0)],true⟩ dk ?_;go_simp;repeat'(first|((first|apply zd hS|apply zd I);try go_simp)|with_reducible first|apply ai|intro)
           refine uq hP ⟨[(14,.l 14,0),(169,.l 201,0),(30,.l 30,0),(31,.l 31,0)],true⟩ [174] dk ?_;go_simp;intro hk;repeat'(first|(refine rT [.l 173] D ?_;intro q;try go_simp)|with_reducible first|apply ai|intro)
           refine pQ (.l 200) ?_;refine sT (.s 0 (.l 174)) (.l 200) (.l 14) 0 7 (row:=saX B1 (.s 0 (.l 174)) (q 0).1 (q 0).2) rfl rfl rfl (by decide) rfl rfl ?_;refine aO [] ?_;go_simp;exact⟨i+1,B1,⟨om,m,j,W⟩,om,om,_,_,⟨rfl,rfl,rfl,rfl,rfl,rfl,rfl,⟨rfl,rfl,rfl⟩,rfl,rfl⟩,rfl,rfl,rfl⟩
          ·have hb:=z4 o2;have L:=w o2;obtain rfl:=M.out (s,(sSt Q z [⟨2,0,A2⟩]).2) (by rw[<-L];exact if_pos o2);clear E w U M C N J L m j;obtain⟨B,T⟩:∃B,B=sSt Q z [⟨2,0,A2⟩]:=⟨_,rfl⟩
           rw[<-T] at hb K ⊢;clear T o2;obtain⟨B1,B2⟩:=B;simp only at hb K ⊢;have O:=hU B2;have xn:=K.kg;obtain⟨za,zo,zt⟩:=z;obtain⟨hl,hm,S⟩:=H;obtain⟨hx,h5,hy⟩:=S;go_simp;intro hg;refine yU [.l 200] (.l 14) 0 7 (row:=saX y (.l 200) d1 d2) (v:=vFm_ y.frames) ?_;refine zh hP ⟨[(14,.l 14,0),(147,.l 28,1),(30,.l 30,0),(31,.l 31,0)],true⟩ dk ?_;go_simp;repeat'(first|((first|apply zd hS|apply zd I);try go_simp)|with_reducible first|apply ai|intro)
           refine uq hP ⟨[(14,.l 14,0),(169,.l 201,0),(30,.l 30,0),(31,.l 31,0)],true⟩ [174] dk ?_;go_simp;intro hk;repeat'(first|(refine rT [.l 173] xn ?_;intro q;try go_simp)|with_reducible first|apply ai|intro)
           repeat'(first|(apply zd O;try go_simp)|with_reducible first|apply ai|intro)
         ·have hb:=z4 o1;rw[if_pos o1] at b;rw[b] at w;have L:=w o1;obtain rfl:=M.out (s,(sRt y H.p Z 2 call).2.2) (by rw[<-L];exact if_pos o1);obtain⟨A,d⟩:∃A,A=sRt y H.p Z 2 call:=⟨_,rfl⟩
          rw[<-d] at hb I ⊢;clear d b E w M C N L m j o1;obtain⟨Q,A2,A3⟩:=A;simp only at hb I ⊢;have O:=hU A3;obtain⟨za,zo,zt⟩:=z;obtain⟨hl,hm,S⟩:=H;obtain⟨hx,h5,hy⟩:=S;go_simp;intro hg;refine yU [.l 200] (.l 14) 0 7 (row:=saX y (.l 200) d1 d2) (v:=vFm_ y.frames) ?_;refine zh hP ⟨[(14,.l 14,0),(147,.l 28,1),(30,.l 30,0),(31,.l 31,0)],true⟩ dk ?_;go_simp;repeat'(first|((first|apply zd hS|apply zd I|apply zd O);try go_simp)|with_reducible first|apply ai|intro)
       ·have b:rt1 call y z ⟨tk,Y⟩ l=(y,0):=by unfold rt1;rw[if_neg (by simp[k3,k4])]
        have uw:(tk==3)=false:=by simpa using k3
        have v1:(tk==4)=false:=by simpa using k4
        have u:=E (by rw[b]);rw[b] at u;clear E w m j b M;go_simp;intro hg;refine aO [] ?_;go_simp;exact⟨i+1,y,⟨om,F,P,u⟩,om,om,_,_,⟨rfl,rfl,rfl,rfl,rfl,rfl,rfl,⟨rfl,rfl,rfl⟩,rfl,rfl⟩,rfl,rfl,rfl⟩
     ·obtain rfl:i=args.length:=om;have u8:¬args.length<args.length:=om;have L:puC s f args=(y,0):=by rw[<-u,List.drop_length,md]
      obtain rfl:=M.out (⟨y.plain,y.mon,y.frames++[⟨k,0,call,ls⟩],y.prints,y.result⟩,0) (by rw[L];exact if_neg sm);clear u L M;go_simp;refine z5 [.l 201] 16 (v:=vPo_ ls) (SV.own rfl rfl rfl rfl (by simp;omega) (by decide) (zT (by simp;omega))) ?_;refine aO [] ?_;go_simp;have:=h8.fr
      omega
  ·obtain rfl:=h4.out (s,yw 0 (gEn s).2.2) (by unfold puS;rw[if_neg hz,if_pos e]);clear h4;have hb:=z4 e;generalize yw 0 (gEn s).2.2=oc at *;have O:=hU oc;generalize gEn s=G at *;obtain⟨G1,G2,G3⟩:=G;simp only at *;clear y4 hU hv;refine eK [3] func140 λX=>?_;go_simp;intro b4 b5 b8;refine z5 [.l 5] 5 (SV.ptr rfl rfl rfl rfl sm rfl) ?_;refine aO [] ?_;go_simp;repeat'(first|(apply zd hO;try go_simp)|(apply zd hG;try go_simp)|exact xd|(apply zd xl;try go_simp)|(apply zd O;try go_simp)|with_reducible first|apply ai|intro)
def SaV.frB(h:SaV p s): frB p s:=λx hx=>⟨(h.fm x hx).fn,(h.fm x hx).len⟩
def SaV.ck(h:SaV p s)(a:tyE p=0): ckE p s=0:=by unfold ckE;rw[if_neg (by simpa using a)];exact Lj.2 h
def Y1(a:s.frames≠[]): ∃n,n+1=s.frames.length/\s.frames[n]?=some (zn s):=by
 have b:=List.length_pos_iff.2 a;refine⟨s.frames.length-1,om,?_⟩;unfold zn;rw[zD,zE om];rfl
def fQ{k:Int}(h:0<=k/\k<p.funcs.length): ∃m:Nat,k=m/\p.funcs[m]?=some (yu p k):=by
 obtain⟨m,rfl⟩:∃m:Nat,k=m:=⟨k.toNat,om⟩
 refine⟨m,rfl,?_⟩;unfold yu;rw[Int.toNat_natCast,zD,zE om];rfl
def NA {f:Fn}(h:fnS f): u9 f<=24000000:=by
 rw[<-oE];have a:=nX (l:=f.blocks) (λb hb=>by have:=h.st b hb;omega) f.blocks.length;have c:=h.b24;unfold p9;omega
def Wg (p:Pr)(s:Sa)(k:Nat)(f:Fn)(args:List (List Ce))(P:z9 s)(B:wfP p)(A:tyE p=0)(C:SaV p s)(r:s.frames≠[])(hf:p.funcs[k]?=some f)
  (F:yW (yu p (zn s).fn).blocks (zn s).at_ k=true) (hn:(args.length:Int)=f.params) (h:∀l∈args,l.length<1000000) (d:∀(i:Nat) t l,f.locals[i+1]?=some t->args[i]?=some l->xh p s t l=true) :
  zK 97 [p.a,s.a,iI k,.vec 1 (args.map ck)] (.tup [(puS s k f args).1.a,iU (puS s k f args).2,iI 0]):=by
 have G:=tH p s P B;rw[C.ck A] at G;have z:=s8 B (vW A);obtain⟨J,I⟩:=zS.1 hf;have Q:=z f (by rw[<-I];exact zM J);have hG:=(oY B (vW A)).2.2 f (by rw[<-I];exact zM J);have hpl:=hG.pl;have u:args.length+1<=f.locals.length:=om;have O:∀l∈args,0<l.length/\l.length<1000000:=λl hl=>by
  obtain⟨i,hi,rfl⟩:=List.getElem_of_mem hl;have o:i+1<f.locals.length:=om;have:=d i _ _ (zE o) (zE hi)
  unfold xh um at this;simp only[zB,zL] at this;have h1:=this.1.1;unfold zg at h1;refine⟨?_,h _ hl⟩;split at h1<;>omega
 have S:=jV p s k f args P C.wh hf Q u O;have e:=λt l ht hl=>Wf p s t l P C.frB ht hl;obtain⟨n,hk,W⟩:=Y1 r;have h5:=P.fr;have ho:n<s.frames.length:=om;have E:=(C.fm _ (vd r)).fn;have y:=(C.fm _ (vd r)).at_;obtain⟨m,hm,N⟩:=fQ E;obtain⟨hd,he⟩:=zS.1 N;have j:=z _ (zF N);have U:=NA j;generalize yu p (zn s).fn=g at *;have w:=kv g (zn s).at_ k (by have:=j.b24;omega) (λb hb=>by have:=j.st b hb;omega) ⟨y.1,om⟩;rw[F] at w;obtain⟨_,h6⟩:=zS.1 W;generalize zn s=x at *;obtain⟨xf,xa,xc,xl⟩:=x;simp only at hm w y;subst hm;have h4:IntKind.i64.wrap ((s.frames.length:Int)-1)=(n:Int):=(AM.Tf om).trans om;have hj:¬(n:Int)<0:=om;have ha:¬(k:Int)<0:=om;have hc:¬p.funcs.length<=k:=om;have V:((args.length:Int) != f.params)=false:=by simp[hn]
 have v:=Q.tys;have T:=Q.wf.1;generalize puS s k f args=R at *;clear z hG j O y E U F C Q P r hpl V;obtain⟨fp,fu,D,fb⟩:=f;simp only at hn d u v T;subst hn;refine eK [] func97 λX=>?_;go_simp;repeat'(first|((first|apply zd G|apply zd w);try go_simp)|with_reducible first|apply ai|intro)
 rename_i Z b5 b8;refine lN [] (λi=>[(2,iI k),(3,.vec 1 (args.map ck)),(4,.ptr (.l 4) Z 1 0 0),(5,.ptr (.l 5) b5 10 0 0),(8,.ptr (.l 8) b8 10 0 0),(74,.vec 1 (args.map ck)),(75,iI args.length),(76,iI i)]) (λi=>[(.l 4,⟨Z,1,1,24,[Pr.c p],false⟩),(.l 5,⟨b5,1,10,35,[Sa.c s],false⟩),(.l 8,⟨b8,1,10,35,[zr0],false⟩)]) (λi=>i<=args.length) (λi=>args.length-i) 0 ?_ (h0:=(Nat.zero_le _))
 rintro i hi;by_cases L:i<args.length
 ·have M:¬args.length<=i:=om;have Y:args[i]?=some args[i]:=zE L;have o:i+1<D.length:=om;have h2:(i:Int)+1<D.length:=om;have h9:(0:Int)<=(i:Int)+1:=om;have h3:((i:Int)+1).toNat=i+1:=om;have hg:=v _ (zM o);have hp:IntKind.i64.wrap ((i:Int)+1)=(i:Int)+1:=AM.Tf om;have K:D[i+1]?=some D[i+1]:=zE o;have H:=e _ _ hg (h _ (zM L));rw[d i _ _ K Y] at H;generalize h8:D[i+1]=t at *;generalize h7:args[i]=l at *;clear d e;obtain⟨tk,tt⟩:=t;go_simp;repeat'(first|(apply zd H;try go_simp)|with_reducible first|apply ai|intro)
  exact⟨i+1,om,om,om⟩
 ·obtain rfl:i=args.length:=om;have M:¬args.length<args.length:=om;clear d e;go_simp;repeat'(first|(apply zd S;try go_simp)|with_reducible first|apply ai|intro)
def saY (x:Sa)(i:AM.Id)(b c:Nat): List AV:=[.bool x.plain,vAl_ x.mon.mem.allocs,iI x.mon.mem.next,vSs_ x.mon.stacks,vCi_ x.mon.running,iI x.mon.ntag,iI x.mon.ncall,vFm_ x.frames,vCi_ x.prints,.sl i b 1 x.result.length c]
attribute [go_sem] saY
def lB (s:Sa)(b:z9 s): zG 166 1 (λ_=>[s.a]) (λ_=>[]) (λι q=>(.agg [.bool s.plain,vAl_ s.mon.mem.allocs,iI s.mon.mem.next,vSs_ s.mon.stacks,vCi_ s.mon.running,iI s.mon.ntag,iI s.mon.ncall,vFm_ s.frames,vCi_ s.prints,.sl (ι 0) (q 0).1 1 s.result.length (q 0).2])) (λ_ q=>[⟨(q 0).1,(q 0).2,1,2,s.result.map ci,false⟩]) :=
 (vj s b).one 2 (λp=>⟨p.1,p.2,1,2,s.result.map ci,false⟩) (λi p=>.agg (saY s i p.1 p.2)) (λq=>rfl) (λi j p X w u h=>by simpa only[saY,RV,RL] using h) (λq=>by obtain⟨pl,⟨⟨l,next⟩,st,rn,nt,nc⟩,fr,pr,re⟩:=s;go_simp)
def kA (s:Sa)(n:Int)(e:z9 s)(d:WhV s)(b:(sEd s n).2=0): zG 165 1 (λ_=>[s.a,iI n]) (λ_=>[]) (λι q=>.tup [(.agg [.bool ((sEd s n).1).plain,.vec 3 (((sEd s n).1).mon.mem.allocs.map Al.c),iI ((sEd s n).1).mon.mem.next,.vec 2 (((sEd s n).1).mon.stacks.map Ss.c),.vec 1 (((sEd s n).1).mon.running.map ci),iI ((sEd s n).1).mon.ntag,iI ((sEd s n).1).mon.ncall,.vec 4 (((sEd s n).1).frames.map Fm.c),.vec 1 (((sEd s n).1).prints.map ci),.sl (ι 0) (q 0).1 1 ((sEd s n).1).result.length (q 0).2]),iU 0]) (λ_ q=>[⟨(q 0).1,(q 0).2,1,2,((sEd s n).1).result.map ci,false⟩]) :=
 (kz s n e d b).one 2 (λp=>⟨p.1,p.2,1,2,(sEd s n).1.result.map ci,false⟩) (λi p=>.tup [.agg (saY (sEd s n).1 i p.1 p.2),iU 0]) (λq=>rfl) (λi j p X w u h=>by simpa only[saY,RV,RL] using h) (λq=>by go_simp)
def Y2 (s:Sa)(m:WhV s): ∃e f h i j k g b,zK 176 [s.a] (.agg [e,f,h,i,j,k,.fn g b])/\vQ Tryz.prog g/\zK g b (.tup [(gLv s).1.a,iI (gLv s).2]):=by
 have c:=wY s;cases hp:s.plain with
 |false =>
  rw[ru hp] at c;refine⟨_,_,_,_,_,_,_,_,c,by go_simp,?_⟩;have d:gLv s=mLv s.mon:=by unfold gLv;rw[hp];rfl
  rw[d];exact En s.mon (m.mo hp)
 |true =>
  rw[rx hp] at c;refine⟨_,_,_,_,_,_,_,_,c,by go_simp,?_⟩;have d:gLv s=(s.mon,0):=by unfold gLv;rw[hp];rfl
  rw[d];exact I4 s.mon
def aA {s:Sa}{n:Int}: yB s (sEd s n).1:=by unfold sEd;split<;>exact⟨rfl,rfl,rfl,rfl⟩
def aB {s:Sa}: yB s (sLv s):=⟨rfl,rfl,rfl,rfl⟩
def iM{l:List Po}(h:(sEd s q.al).2=0): wJ s (q::l)=wJ (sEd s q.al).1 l:=by
 show(if _ then _ else _)=_;rw[if_pos h]
def dN{l:List Po}(h:¬(sEd s q.al).2=0): wJ s (q::l)=(s,(sEd s q.al).2):=by
 show(if _ then _ else _)=_;rw[if_neg h]
structure UE (p:Pr)(s:Sa)(n m:Nat)(x:Fm)(f:Fn)(l0:Po)(t0:Ty): Prop where
 top:zn s=x
 n1:n+1=s.frames.length
 nx:s.frames[n]?=some x
 fn:x.fn=m
 ff:p.funcs[m]?=some f
 fs:fnS f
 len:x.locals.length=f.locals.length
 at_:0<=x.at_/\x.at_<u9 f
 gl:x.locals[0]?=some l0
 gt:f.locals[0]?=some t0
 lo:vY x=l0
 sz:wK p x=zg t0
 ge:yu p x.fn=f
def UF(h:wfP p)(g:tyE p=0)(o:SaV p s)(c:s.frames≠[]): ∃n m x f l0 r,UE p s n m x f l0 r:=by
 obtain⟨n,e,i⟩:=Y1 c;have d:=o.fm _ (vd c);obtain⟨m,hm,b⟩:=fQ d.fn;have j:=s8 h (vW g) _ (zF b);have k:=j.l0;have a:=d.len;refine⟨n,m,zn s,yu p (zn s).fn,(zn s).locals[0]'om,(yu p (zn s).fn).locals[0],rfl,e,i,hm,b,j,a,d.at_,zE _,zE _,?_,?_,rfl⟩
 ·unfold vY;rw[zD,zE om];rfl
 ·unfold wK;rw[zD,zE k];rfl
def kB (p:Pr)(s:Sa)(Q:z9 s)(h5:wfP p)(h4:tyE p=0)(P:SaV p s)(h3:s.frames≠[])(M:(zk p s).2.2=0):
  zG 98 1 (λ_=>[p.a,s.a]) (λ_=>[]) (λι q=>.tup [(.agg [.bool ((zk p s).1).plain,.vec 3 (((zk p s).1).mon.mem.allocs.map Al.c),iI ((zk p s).1).mon.mem.next,.vec 2 (((zk p s).1).mon.stacks.map Ss.c),.vec 1 (((zk p s).1).mon.running.map ci),iI ((zk p s).1).mon.ntag,iI ((zk p s).1).mon.ncall,.vec 4 (((zk p s).1).frames.map Fm.c),.vec 1 (((zk p s).1).prints.map ci),.sl (ι 0) (q 0).1 1 ((zk p s).1).result.length (q 0).2]),.vec 5 ((zk p s).2.1.map Ce.c),iU 0,iI 0]) (λ_ q=>[⟨(q 0).1,(q 0).2,1,2,((zk p s).1).result.map ci,false⟩]):=by
 have W:=tH p s Q h5;rw[P.ck h4] at W;have O:(sLd s (vY (zn s)) (wK p (zn s))).2.2=0:=zC λc=>by unfold zk at M;rw[if_pos c] at M;exact c M
 have e2:(vU p s).2=0:=zC λc=>by unfold zk at M;rw[if_neg (by simpa using O),if_pos c] at M;exact c M
 have hR:zk p s=(⟨s.plain,(vU p s).1.mon,uf s,s.prints,s.result⟩,(sLd s (vY (zn s)) (wK p (zn s))).2.1,0):=by unfold zk;rw[if_neg (by simpa using O),if_neg (by simpa using e2)]
 rw[hR];clear hR M;have e:vU p s=wJ (sLv (sLd s (vY (zn s)) (wK p (zn s))).1) (zn s).locals:=rfl;obtain⟨n,m,x,f,l0,h,K⟩:=UF h5 h4 P h3;have hS:=vD h (K.fs.tys _ (zF K.gt));have r:=@sy s l0 (zg h);have u:=qn P.wh (q:=l0) (n:=zg h);have B:=qq s l0 (zg h) Q P.wh;have I:=aw P h3 (s':=(sLd s l0 (zg h)).1) r.pl (by have:=(pz P.wh (q:=l0) (n:=zg h)).2.2;exact this);have j:=r.tr (@aB (sLd s l0 (zg h)).1);have k:=(av u I).1;obtain⟨a0,a1,a2,a3,a4,a5,g,he,hO,V,T⟩:=Y2 (sLd s l0 (zg h)).1 u;have w:=lB (sLv (sLd s l0 (zg h)).1) (j.wf Q k);have J:sLv (sLd s l0 (zg h)).1=yh (sLd s l0 (zg h)).1 (gLv (sLd s l0 (zg h)).1).1:=rfl;rw[K.top,K.lo,K.sz] at O e ⊢;rw[I] at T;have h1:uf s=s.frames.take n:=by unfold uf;rw[show s.frames.length-1=n by have:=K.n1;omega]
 rw[h1];obtain⟨_,hr⟩:=zS.1 K.nx;obtain⟨hy,hz⟩:=zS.1 K.ff;obtain⟨h8,Y⟩:=zS.1 K.gl;obtain⟨xj,hf⟩:=zS.1 K.gt;have h9:=K.nx;have hx:=K.ff;have h7:=K.gl;have hu:=K.gt;have hq:=Q.fr;have x2:=K.n1;have ha:=Q.lo x (zF h9);have hm:=K.fn;have xd:n<s.frames.length:=om;have x1:¬s.frames.length=0:=om;have hl:IntKind.i64.wrap ((s.frames.length:Int)-1)=(n:Int):=(AM.Tf om).trans om;obtain⟨L,U⟩:∃L,L=sLd s l0 (zg h):=⟨_,rfl⟩
 rw[<-U] at O e r u B j k hO T w J ⊢;rw[J] at e j k w;clear I h1 U J K;obtain⟨L1,L2,L3⟩:=L;simp only at O e r u B j k hO T w ⊢;subst O;generalize (gLv L1).1=G1 at *;generalize h6:vU p s=ET at *;obtain⟨E1,E2⟩:=ET;simp only at e2 ⊢;subst e2;generalize hZ:zg h=Z at *;obtain⟨xf,xa,xc,d⟩:=x;simp only at hm h8 h7 e ha Y;subst hm;obtain⟨la,lo,lt⟩:=l0;obtain⟨tk,tt⟩:=h;refine eG [7,18,21] func98 λX=>?_;go_simp;repeat'(first|(apply zd W;try go_simp)|with_reducible first|apply ai|intro)
 refine zh hP ⟨[(3,.l 3,0),(39,.l 9,3),(43,.l 2,0),(45,.l 9,0),(10,.l 10,0)],true⟩ dk ?_;go_simp;repeat'(first|(apply zd hS;try go_simp)|(apply zd B;try go_simp)|(apply zd hO;try go_simp)|exact V|(apply zd T;try go_simp)|(refine yR [] [.l 200] w ?_;intro q;try go_simp)|with_reducible first|apply ai|intro)
 rename_i b2 b3 b4 b9 R hn;refine lG [18,21] (G:=Nat×Sa×(Nat×Nat)) (λv=>[(3,.ptr (.l 3) b3 10 0 0),(4,.ptr (.l 4) b4 10 0 0),(10,.ptr (.l 10) R 10 0 0),(11,vCe_ L2),(77,vPo_ d),(78,iI d.length),(79,iI v.1)]) (λv=>[(.l 3,⟨b3,1,10,35,[Sa.c s],false⟩),(.l 4,⟨b4,1,10,35,[zr0],false⟩),(.l 10,⟨R,1,10,35,[saY v.2.1 (.l 200) v.2.2.1 v.2.2.2],false⟩),(.l 200,⟨v.2.2.1,v.2.2.2,1,2,v.2.1.result.map ci,false⟩)]) (λv=>v.1<=d.length/\WhV v.2.1/\yB s v.2.1/\wJ v.2.1 (d.drop v.1)=(E1,0)) (λv=>d.length-v.1) (0,yh L1 G1,(q 0)) ?_ (h0:=⟨Nat.zero_le _,k,j,e.symm⟩)
 clear u r w T k j e B hO V hS;rintro⟨i,y,⟨d1,d2⟩⟩ ⟨hi,D,C,b⟩;simp only at hi D C b;have hc:=C.wf Q D;by_cases h2:i<d.length
 ·have hg:¬d.length<=i:=om;have hd:d.drop i=d[i]::d.drop (i+1):=List.drop_eq_getElem_cons h2;have xk:d[i]?=some d[i]:=zE h2;rw[hd] at b;clear hd;generalize ht:d[i]=z at *;obtain⟨N,zo,zt⟩:=z;have o:(sEd y N).2=0:=zC λc=>by rw[dN (q:=⟨N,zo,zt⟩) c] at b;exact c (congrArg Prod.snd b)
  have E:=kA y N hc D o;have H:=fL D (n:=N);have F:=C.tr (@aA y N);rw[iM (q:=⟨N,zo,zt⟩) o] at b;obtain⟨A,S⟩:∃A,A=sEd y N:=⟨_,rfl⟩
  rw[<-S] at o E H F b;clear S;obtain⟨A1,A2⟩:=A;simp only at o E H F b;subst o;go_simp;intro hp;refine yU [.l 200] (.l 10) 0 9 (row:=saY y (.l 200) d1 d2) (v:=vCi_ y.result) ?_;refine aO [21] ?_;go_simp;repeat'(first|(refine yR [] [.l 203] E ?_;intro q;try go_simp)|with_reducible first|apply ai|intro)
  refine pQ (.l 200) ?_;refine sT (.l 203) (.l 200) (.l 10) 0 9 (row:=saY A1 (.l 203) (q 0).1 (q 0).2) rfl rfl rfl (by decide) rfl rfl ?_;refine aO [] ?_;go_simp;exact⟨i+1,A1,⟨om,H,F,b⟩,om,wrS om,_,_,⟨rfl,rfl,rfl,rfl,rfl,rfl,rfl,rfl,rfl,rfl,rfl,rfl⟩,rfl,rfl,rfl⟩
 ·obtain rfl:i=d.length:=om;have hj:¬d.length<d.length:=om;rw[List.drop_length] at b;have hb:y=E1:=congrArg Prod.fst b;subst hb;obtain⟨yp,ym,yf,yr,ye⟩:=y;obtain⟨rfl,rfl,rfl,rfl⟩:=C;clear b h6 hi;have hk:n<=s.frames.length:=om;go_simp;exact⟨[.l 200],dk,λ_=>(d1,d2),⟨OB,trivial⟩,by go_simp,rfl⟩
def lC (p:Pr)(s:Sa)(S:z9 s)(h7:wfP p)(h6:tyE p=0)(V:SaV p s)(h3:s.frames≠[])(ho:¬(zk p s).2.2=0):
  zK 98 [p.a,s.a] (.tup [s.a,.vec 5 [],iU (zk p s).2.2,iI 0]):=by
 have R:=tH p s S h7;rw[V.ck h6] at R;suffices HH:∀o:Int,Hd ((zk p s).2.2=o)->¬o=0->zK 98 [p.a,s.a] (.tup [s.a,.vec 5 [],iU o,iI 0]) from HH _ ⟨rfl⟩ ho
 clear ho;intro o h4 ho;have hpl:(zk p s).2.2=if ¬(sLd s (vY (zn s)) (wK p (zn s))).2.2=0 then(sLd s (vY (zn s)) (wK p (zn s))).2.2 else(vU p s).2:=by
  unfold zk;split
  ·rfl
  ·split
   ·rfl
   ·rename_i c;exact(zC c).symm
 rw[h4.out] at hpl;clear h4;have d:vU p s=wJ (sLv (sLd s (vY (zn s)) (wK p (zn s))).1) (zn s).locals:=rfl;obtain⟨n,m,x,f,l0,k,K⟩:=UF h7 h6 V h3;have hS:=vD k (K.fs.tys _ (zF K.gt));have C:=@sy s l0 (zg k);have D:=qn V.wh (q:=l0) (n:=zg k);have w:=qq s l0 (zg k) S V.wh;have O:=aw V h3 (s':=(sLd s l0 (zg k)).1) C.pl (by have:=(pz V.wh (q:=l0) (n:=zg k)).2.2;exact this);have h:=C.tr (@aB (sLd s l0 (zg k)).1);have j:=(av D O).1;obtain⟨a0,a1,a2,a3,a4,a5,g,hf,hO,Q,U⟩:=Y2 (sLd s l0 (zg k)).1 D;have r:=lB (sLv (sLd s l0 (zg k)).1) (h.wf S j);have P:sLv (sLd s l0 (zg k)).1=yh (sLd s l0 (zg k)).1 (gLv (sLd s l0 (zg k)).1).1:=rfl;rw[K.top,K.lo,K.sz] at hpl d;rw[O] at U;obtain⟨_,hq⟩:=zS.1 K.nx;obtain⟨hx,hy⟩:=zS.1 K.ff;obtain⟨hb,h1⟩:=zS.1 K.gl;obtain⟨xd,hg⟩:=zS.1 K.gt;have hc:=K.nx;have hu:=K.ff;have ha:=K.gl;have ht:=K.gt;have hp:=S.fr;have x1:=K.n1;have he:=S.lo x (zF hc);have hm:=K.fn;have x2:n<s.frames.length:=om;have hz:¬s.frames.length=0:=om;have hl:IntKind.i64.wrap ((s.frames.length:Int)-1)=(n:Int):=(AM.Tf om).trans om;obtain⟨L,Y⟩:∃L,L=sLd s l0 (zg k):=⟨_,rfl⟩
 rw[<-Y] at hpl d C D w h j hO U r P;rw[P] at d h j r;clear O Y P K;obtain⟨L1,L2,L3⟩:=L;simp only at hpl d C D w h j hO U r;generalize (gLv L1).1=G1 at *;generalize hZ:zg k=Z at *;obtain⟨xf,xa,xc,e⟩:=x;simp only at hm hb ha d he h1;subst hm;obtain⟨la,lo,lt⟩:=l0;obtain⟨tk,tt⟩:=k;have h5:=yN s S;by_cases e1:L3=0
 case neg =>
  rw[if_pos e1] at hpl;subst hpl;clear d h j r U hO Q;refine eK [] func98 λX=>?_;go_simp;repeat'(first|(apply zd R;try go_simp)|with_reducible first|apply ai|intro)
  repeat'(first|((first|apply zd hS|apply zd w|apply zd h5);try go_simp)|with_reducible first|apply ai|intro)
 subst e1;rw[if_neg sm,d] at hpl;clear d;replace hpl:=Hd.mk hpl;refine eK [7,18,21] func98 λX=>?_;go_simp;repeat'(first|(apply zd R;try go_simp)|with_reducible first|apply ai|intro)
 refine zh hP ⟨[(3,.l 3,0),(39,.l 9,3),(43,.l 2,0),(45,.l 9,0),(10,.l 10,0)],true⟩ dk ?_;go_simp;repeat'(first|(apply zd hS;try go_simp)|(apply zd w;try go_simp)|(apply zd hO;try go_simp)|exact Q|(apply zd U;try go_simp)|(refine yR [] [.l 200] r ?_;intro q;try go_simp)|with_reducible first|apply ai|intro)
 rename_i b2 b3 b4 b9 W hn;refine zf hP (B:=[18,21]) (G:=Nat×Sa×(Nat×Nat)) (λv=>[(3,.ptr (.l 3) b3 10 0 0),(4,.ptr (.l 4) b4 10 0 0),(10,.ptr (.l 10) W 10 0 0),(11,vCe_ L2),(77,vPo_ e),(78,iI e.length),(79,iI v.1)])
  (λv=>[(.l 3,⟨b3,1,10,35,[Sa.c s],false⟩),(.l 4,⟨b4,1,10,35,[zr0],false⟩),(.l 10,⟨W,1,10,35,[saY v.2.1 (.l 200) v.2.2.1 v.2.2.2],false⟩),(.l 200,⟨v.2.2.1,v.2.2.2,1,2,v.2.1.result.map ci,false⟩)])
  (λv=>v.1<=e.length/\WhV v.2.1/\yB s v.2.1/\o=(wJ v.2.1 (e.drop v.1)).2) (λv=>e.length-v.1) (0,yh L1 G1,(q 0)) dk ⟨Nat.zero_le _,j,h,hpl.out⟩ ?_ ?_ ?_
 ·clear hpl;go_simp
 ·clear hpl;go_simp
 clear D C r U j h hpl w hO Q hS;rintro⟨i,y,⟨d1,d2⟩⟩ ⟨hi,E,T,b⟩;simp only at hi E T b;replace b:=Hd.mk b;have h8:=T.wf S E;by_cases h2:i<e.length
 ·have hj:¬e.length<=i:=om;have hd:e.drop i=e[i]::e.drop (i+1):=List.drop_eq_getElem_cons h2;have xj:e[i]?=some e[i]:=zE h2;replace b:=b.out;rw[hd] at b;clear hd;generalize hr:e[i]=z at *;obtain⟨F,zo,zt⟩:=z;by_cases H:(sEd y F).2=0
  case neg =>
   rw[dN (q:=⟨F,zo,zt⟩) H] at b;have I:=fK y F h8 E;obtain⟨A,u⟩:∃A,A=sEd y F:=⟨_,rfl⟩
   rw[<-u] at H I b;clear u;obtain⟨A1,A2⟩:=A;simp only at H I b;subst b;clear ho;go_simp;intro h9;refine yU [.l 200] (.l 10) 0 9 (row:=saY y (.l 200) d1 d2) (v:=vCi_ y.result) ?_;refine aO [21] ?_;go_simp;repeat'(first|(apply zd I;try go_simp)|with_reducible first|apply ai|intro)
   go_simp;repeat'(first|(apply zd h5;try go_simp)|with_reducible first|apply ai|intro)
  have J:=kA y F h8 E H;have N:=fL E (n:=F);have M:=T.tr (@aA y F);rw[iM (q:=⟨F,zo,zt⟩) H] at b;obtain⟨A,u⟩:∃A,A=sEd y F:=⟨_,rfl⟩
  rw[<-u] at H J N M b;clear u;obtain⟨A1,A2⟩:=A;simp only at H J N M b;subst H;replace b:=Hd.mk b;go_simp;intro h9;refine yU [.l 200] (.l 10) 0 9 (row:=saY y (.l 200) d1 d2) (v:=vCi_ y.result) ?_;refine aO [21] ?_;go_simp;repeat'(first|(refine yR [] [.l 203] J ?_;intro q;try go_simp)|with_reducible first|apply ai|intro)
  refine pQ (.l 200) ?_;refine sT (.l 203) (.l 200) (.l 10) 0 9 (row:=saY A1 (.l 203) (q 0).1 (q 0).2) rfl rfl rfl (by decide) rfl rfl ?_;refine aO [] ?_;go_simp;exact⟨i+1,A1,⟨om,N,M,b.out⟩,om,wrS om,_,_,⟨rfl,rfl,rfl,rfl,rfl,rfl,rfl,rfl,rfl,rfl,rfl,rfl⟩,rfl,rfl,rfl⟩
 ·obtain rfl:i=e.length:=om;have hk:¬e.length<e.length:=om;replace b:=b.out;rw[List.drop_length] at b;exact absurd b ho
end Go.Proofs.YtllodfoldffonaaGreatDoor
