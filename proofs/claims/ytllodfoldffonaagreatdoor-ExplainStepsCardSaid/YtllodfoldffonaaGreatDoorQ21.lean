/- A part of the proof. -/
import Derived.Test.YtllodfoldffonaaGreatDoorQ20
namespace Go.Proofs.YtllodfoldffonaaGreatDoor
open Tryz AM Go.RowKit
set_option linter.unusedSimpArgs false
set_option linter.unusedVariables false
set_option linter.defProp false
set_option maxRecDepth 100000
set_option maxHeartbeats 16000000
variable {n:Int}{p:Pr}{s:Sa}{u:List Bool}
structure fnS (f:Fn): Prop where
 er:xt f=0
 wf:wfF f
 lo:xK f.locals=true
 l0:0<f.locals.length
 l16:f.locals.length<=16
 b24:f.blocks.length<=24
 st:∀b∈f.blocks,b.stmts.length<=24
def s8(k:wfP p)(h:wl p=0): ∀f∈p.funcs,fnS f:=by
 obtain⟨q,r,e⟩:=oY k h;have d:∀f∈p.funcs,xt f=0:=by
  have o:¬8<p.funcs.length:=λc=>by simp[wl,c] at h
  have m:¬p.funcs.length=0:=λc=>by simp[wl,c] at h
  have a:uX p.funcs=0:=by
   unfold wl at h;rw[if_neg o,if_neg m] at h;split at h
   ·rename_i c;exact absurd h c
   ·rename_i c;simpa using c
  clear h o m k e q r;generalize p.funcs=l at a;induction l with
  |nil=>simp
  |cons f l ih =>
   unfold uX at a;split at a
   ·rename_i c;exact absurd a c
   ·rename_i c;rintro g e;rcases List.mem_cons.1 e with rfl|e
    ·simpa using c
    ·exact ih a g e
 intro f j;have hs:=(tO (d f j)).1;have hl:=(e f j).lo;have i:=hl;unfold vT at hs;unfold xK at i;simp only[zB,zL,zA] at hs i;exact⟨d f j,k.2 f j,hl,om,om,hs.1.2,λb hb=>by have:=hs.2 b hb;unfold pG at this;simpa using this⟩
def vW(h:tyE p=0): wl p=0:=zC λc=>by unfold tyE at h;rw[if_pos c] at h;exact c h
def fnS.tys {f:Fn}(h:fnS f): ∀t∈f.locals,yE t=true:=by
 have:=h.lo;unfold xK at this;simp only[zB,zA] at this;exact this.2
def oE {f:Fn}: p9 f=u9 f:=by
 unfold p9 u9;have:∀(l:List Bk)(i:Nat),i<=l.length->((z6 l i:Nat):Int)=((l.take i).map λb=>(b.stmts.length:Int)+1).sum:=λl i=>by
  induction i with
  |zero=>intro _;simp[z6]
  |succ i ih =>
   intro hi;rw[qD om,List.take_add_one,zE om];have:=ih om
   simp only[Option.toList_some,zV,List.map_cons,List.map_nil,List.sum_append,List.sum_cons,List.sum_nil];omega
 rw[this f.blocks _ (Nat.le_refl _),List.take_length]
def LA (a b:List Int)(hl:a.length<1000000): zK 237 [vCi_ a,vCi_ b] (.bool (vV a b)):=by
 by_cases hn:a.length=b.length
 ·have g:((a.length:Int) != b.length)=false:=by simp;omega
  clear g;have t:a.length<=b.length:=om;refine eK [] func237 λX=>?_;go_simp;refine lN [] (λi=>[(0,vCi_ a),(1,vCi_ b),(12,iI a.length),(13,iI i)]) (λi=>[]) (λi=>i<=a.length/\∀k (h:k<i)(d:k<a.length) (hb:k<b.length),a[k]=b[k]) (λi=>a.length-i) 0 ?_ (h0:=⟨Nat.zero_le _,λk h=>absurd h om⟩)
  rintro i ⟨hi,j⟩;by_cases q:i<a.length
  ·have hb:i<b.length:=om;have o:(i:Int)<b.length:=om;by_cases f:a[i]=b[i]
   ·have l:(a[i] != b[i])=false:=by simpa using f
    have m:∀k (h:k<i+1)(d:k<a.length) (hb:k<b.length),a[k]=b[k]:=λk h d hb=>by
     rcases Nat.lt_or_ge k i with c|c
     ·exact j k c d hb
     ·obtain rfl:k=i:=om;exact f
    clear j f hn;generalize hx:a[i]=x at *;generalize r:b[i]=y at *;go_simp;exact⟨i+1,⟨om,λk h d hb=>m k h d hb⟩,om,wrS om⟩
   ·have l:(a[i] != b[i])=true:=by simpa using f
    have hs:vV a b=false:=decide_eq_false λe=>f (by subst e;rfl);clear j hn;generalize hx:a[i]=x at *;generalize r:b[i]=y at *;go_simp
  ·have hs:vV a b=true:=decide_eq_true (List.ext_getElem om λk d hb=>j k om d hb);clear j hn;go_simp
 ·have g:((a.length:Int) != b.length)=true:=by simp;omega
  have hs:vV a b=false:=decide_eq_false λe=>hn (by rw[e]);refine eK [] func237 λX=>?_;go_simp;all_goals simp[*]
def vaR (p:Pr)(s:Sa): Option (List Bool)->Int
 |some u=>if(!u.contains false&&qW p s&&(s.plain||vV (s.frames.map Fm.call) s.mon.running)&&decide ((s.result.length:Int)=uO p s))=true then 0 else 8
 |none=>8
def Pw(a:tu s=true)(b:s.frames.length<=16)(c:s.prints.length<=200): uP p s=vaR p s (vaG p s s.frames (List.replicate s.mon.mem.allocs.length false)):=by
 have hs:(s.mon.running==s.frames.map Fm.call)=vV (s.frames.map Fm.call) s.mon.running:=by
  unfold vV;rw[Bool.eq_iff_iff];simp only[beq_iff_eq,zL];exact eq_comm
 rw[mV,a,decide_eq_true b,decide_eq_true c,hs];unfold vaU;cases vaG p s s.frames (List.replicate s.mon.mem.allocs.length false) with
 |none=>simp[vaR]
 |some u=>simp[vaR]
def Sm{x:Fm}{l:List Fm}(h:(fmH p s x&&(plU s (yu p x.fn) x u).1&&rm p x l)=false): vaG p s (x::l) u=none:=by
 show(if _ then _ else _)=_;rw[if_neg (by simp[h])]
def Vm{x:Fm}{l:List Fm}(h:(fmH p s x&&(plU s (yu p x.fn) x u).1&&rm p x l)=true): vaG p s (x::l) u=vaG p s l (plU s (yu p x.fn) x u).2:=by
 show(if _ then _ else _)=_;rw[if_pos h]
def Vn {s:Sa}: ∀ {ls:List Po} {ts:List Ty} {u:List Bool},(plG s ls ts u).2.length=u.length
 |[],_,u=>by simp[plG]
 |_::_,[],u=>by simp[plG]
 |l::ls,t::ts,u=>by
  show(if _ then _ else _:Bool×List Bool).2.length=_;split
  ·rw[Vn,List.length_set]
  ·rfl
def Vo {s:Sa}{f:Fn}{x:Fm}{u:List Bool}: (plU s f x u).2.length=u.length:=by
 unfold plU;split
 ·exact Vn
 ·rfl
def Y0 (p:Pr)(s:Sa)(W:z9 s)(hf:wfP p)(hc:tyE p=0): zK 152 [p.a,s.a] (iI (uP p s)):=by
 have o:=s8 hf (vW hc);have S:=(oY hf (vW hc)).1;have V:=tG s W;have xc:=W.mo.me.1;by_cases z:tu s=true
 ·by_cases D:s.frames.length<=16
  ·by_cases w:s.prints.length<=200
   ·have A:xm s=0:=by unfold xm;rw[if_pos z]
    rw[Pw z D w];rw[A] at V;clear A z;have x1:¬(16:Int)<s.frames.length:=om;have x2:¬(200:Int)<s.prints.length:=om;have xa:(s.mon.mem.allocs.length:Int)<=2147483648:=om;generalize hR:vaG p s s.frames (List.replicate s.mon.mem.allocs.length false)=R at *;refine eK [] func152 λX=>?_;go_simp;repeat'(first|(apply zd V;try go_simp)|with_reducible first|apply ai|intro)
    rename_i b2 b3 O;refine sS 6 (.l 90) 1 3 (by go_simp) (by go_simp) ?_;refine lG [] (G:=Nat×List Bool×Nat×Nat) (λv=>[(2,.ptr (.l 2) b2 1 0 0),(3,.ptr (.l 3) b3 10 0 0),(5,.sl (.l 33) O 1 s.mon.mem.allocs.length s.mon.mem.allocs.length),(6,.sl (.l 90) v.2.2.1 1 (s.frames.take v.1).length v.2.2.2),(35,vFm_ s.frames),(36,iI s.frames.length),(37,iI v.1)]) (λv=>[(.l 2,⟨b2,1,1,24,[Pr.c p],false⟩),(.l 3,⟨b3,1,10,35,[Sa.c s],false⟩),(.l 33,⟨O,s.mon.mem.allocs.length,1,4,v.2.1.map cb,false⟩),(.l 90,⟨v.2.2.1,v.2.2.2,1,3,((s.frames.take v.1).map Fm.call).map ci,false⟩)]) (λv=>v.1<=s.frames.length/\v.2.1.length=s.mon.mem.allocs.length/\vaG p s (s.frames.drop v.1) v.2.1=R) (λv=>s.frames.length-v.1) (0,List.replicate s.mon.mem.allocs.length false,0,0) ?_ (h0:=⟨Nat.zero_le _,sm,hR⟩)
    rintro⟨i,u,d1,d2⟩ ⟨hi,hu,L⟩;simp only at hi hu L;have Q:=hR;clear hR;by_cases J:i<s.frames.length
    ·clear Q;have F:s.frames[i]?=some s.frames[i]:=zE J;have hd:s.frames.drop i=s.frames[i]::s.frames.drop (i+1):=List.drop_eq_getElem_cons J;have xl:(s.frames.take i).length=i:=by simp;omega
     have h4:=W.lo _ (zM J);rw[hd] at L;clear hd;have ht:s.frames.take (i+1)=s.frames.take i++[s.frames[i]]:=by rw[List.take_add_one,F];rfl
     generalize hn:s.frames[i]=x at *;have d:=λh=>(Sm (p:=p) (s:=s) (x:=x) (l:=s.frames.drop (i+1)) (u:=u) h).symm.trans L;have e:=λh=>(Vm (p:=p) (s:=s) (x:=x) (l:=s.frames.drop (i+1)) (u:=u) h).symm.trans L;clear L;by_cases c1:0<=x.fn/\x.fn<p.funcs.length
     ·obtain⟨fn,at_,call,locals⟩:=x;obtain⟨f1,f2⟩:=c1;simp only at f1 f2 h4;obtain⟨m,rfl⟩:∃m:Nat,fn=m:=⟨fn.toNat,om⟩
      have h5:m<p.funcs.length:=om;have g:yu p m=p.funcs[m]:=by unfold yu;rw[Int.toNat_natCast,zD,zE h5];rfl
      have H:=o _ (zM h5);simp only[g] at d e;generalize xd:p.funcs[m]=f at *;have B:=Yf f H.wf;rw[H.er,if_pos rfl,oE] at B;have I:=bC s f ⟨m,at_,call,locals⟩ u O s.mon.mem.allocs.length W hu H.wf.1 h4 H.tys;have hpl:=@Vo s f ⟨m,at_,call,locals⟩ u;rw[hu] at I;have hH:fmH p s ⟨m,at_,call,locals⟩=(decide (0<=at_/\at_<u9 f)&&!(s.plain&&!(call==0))):=by unfold fmH;simp only[g];rw[decide_eq_true ⟨f1,f2⟩,Bool.true_and]
      rw[hH] at d e;clear hH;by_cases c2:0<=at_/\at_<u9 f
      ·obtain⟨a1,a2⟩:=c2;rw[decide_eq_true ⟨a1,a2⟩,Bool.true_and] at d e;generalize h9:u9 f=np at *;generalize plU s f ⟨m,at_,call,locals⟩ u=PU at *;obtain⟨pk,u2⟩:=PU;simp only at hpl d e;have h6:¬p.funcs.length<=m:=om;have ho:¬(m:Int)<0:=om;have E:¬s.frames.length<=i:=om;have a3:¬at_<0:=om;have a4:¬np<=at_:=om;have hq:u9 f<=24000000:=by
        rw[<-oE];have h1:=nX (l:=f.blocks) (λb hb=>by have:=H.st b hb;omega) f.blocks.length;have h2:=H.b24;unfold p9;omega
       rw[h9] at hq;have xr:IntKind.i64.wrap ((i:Int)+1)=(i:Int)+1:=AM.Tf om;have q:none=R->8=vaR p s R:=λh=>by rw[<-h];rfl
       have U:=H.st;have K:=H.b24;clear o H h9;generalize xk:vaR p s R=RR at *;by_cases h7:i+1<s.frames.length
       ·have hp:(i:Int)+1<s.frames.length:=om;have hy:s.frames[i+1]?=some s.frames[i+1]:=zE h7;have h3:s.frames.drop (i+1)=s.frames[i+1]::s.frames.drop (i+1+1):=List.drop_eq_getElem_cons h7;generalize xs:s.frames[i+1]=y at *;have ha:rm p ⟨(m:Int),at_,call,locals⟩ (s.frames.drop (i+1))=yW f.blocks at_ y.fn:=by rw[h3];show yW (yu p m).blocks _ _=_;rw[g]
        have hg:=kv f at_ y.fn om (λb hb=>by have:=U b hb;omega) ⟨a1,om⟩;rw[ha] at d e;generalize yW f.blocks at_ y.fn=cl at *;clear h3 ha g U K;obtain⟨yf,ya,yc,yl⟩:=y;go_simp;intro b9;repeat'(first|((first|apply zd B|(refine zi [.l 33] 1 0 I ?_;intro hr)|apply zd hg);try go_simp)|with_reducible first|apply ai|intro)
        all_goals first
         |exact q (d (by simp[*]))
         |omega
         |exact⟨i+1,u2,⟨om,om,e (by simp[*])⟩,om,_,_,⟨⟨rfl,om,rfl⟩,om⟩,rfl,rfl,rfl,by first|(rw[List.take_take,Nat.min_self,List.take_add_one,List.getElem?_map,F];rfl)|(rw[List.take_take,Nat.min_self,List.take_add_one,List.getElem?_map,F];simp[ci, *])⟩
         |trace_state
       ·have hp:¬(i:Int)+1<s.frames.length:=om;have M:rm p ⟨(m:Int),at_,call,locals⟩ (s.frames.drop (i+1))=true:=by rw[List.drop_eq_nil_of_le om];rfl
        rw[M,Bool.and_true] at d e;clear g M U K;go_simp;intro b9;repeat'(first|((first|apply zd B|(refine zi [.l 33] 1 0 I ?_;intro hr));try go_simp)|with_reducible first|apply ai|intro)
        all_goals first
         |exact q (d (by simp[*]))
         |omega
         |exact⟨i+1,u2,⟨om,om,e (by simp[*])⟩,om,_,_,⟨⟨rfl,om,rfl⟩,om⟩,rfl,rfl,rfl,by first|(rw[List.take_take,Nat.min_self,List.take_add_one,List.getElem?_map,F];rfl)|(rw[List.take_take,Nat.min_self,List.take_add_one,List.getElem?_map,F];simp[ci, *])⟩
         |trace_state
      ·have r:(decide (0<=at_/\at_<u9 f)&&!(s.plain&&!(call==0))&&(plU s f ⟨m,at_,call,locals⟩ u).1&&rm p ⟨m,at_,call,locals⟩ (s.frames.drop (i+1)))=false:=by rw[decide_eq_false c2];rfl
       have q:8=vaR p s R:=by rw[<-d r];rfl
       have h6:¬p.funcs.length<=m:=om;have ho:¬(m:Int)<0:=om;have E:¬s.frames.length<=i:=om;rw[<-q];clear d e r q hpl o g H I;generalize u9 f=np at *;by_cases a3:at_<0
       ·go_simp;intro b9;repeat'(first|(apply zd B;try go_simp)|with_reducible first|apply ai|intro)
       ·have a4:np<=at_:=om;go_simp;intro b9;repeat'(first|(apply zd B;try go_simp)|with_reducible first|apply ai|intro)
     ·have r:(fmH p s x&&(plU s (yu p x.fn) x u).1&&rm p x (s.frames.drop (i+1)))=false:=by unfold fmH;rw[decide_eq_false c1];rfl
      have q:8=vaR p s R:=by rw[<-d r];rfl
      have E:¬s.frames.length<=i:=om;rw[<-q];clear d e r q o;obtain⟨fn,at_,call,locals⟩:=x;simp only at c1;by_cases a3:fn<0
      ·have a5:¬0<=fn:=om;go_simp
      ·have a4:(p.funcs.length:Int)<=fn:=om;have a5:¬fn<(p.funcs.length:Int):=om;go_simp
    ·obtain rfl:i=s.frames.length:=om;rw[List.drop_length] at L;have hm:R=some u:=L.symm;subst hm;have E:¬s.frames.length<s.frames.length:=om;have hV:=((ax (p:=p) (fs:=s.frames) (mk0 s)).1.1 (by rw[Q];rfl)).1;rw[zA] at hV;have C:=λx hx=>Qn.1 (hV x hx);have hT:=Yo p s W (λx hx=>⟨(C x hx).fn,(C x hx).len⟩) (λx hx l hl=>by
      obtain⟨k,hk,rfl⟩:=List.getElem_of_mem hl;obtain⟨a,hv⟩:=(C x hx).loc k _ _ (zE hk) (zE (by rw[<-(C x hx).len];exact hk));obtain⟨j,hj,_⟩:=hv.at_;omega)
     have hB:=RF u false om;have hQ:=LA (s.frames.map Fm.call) s.mon.running (by simp;omega);have P:=o _ (zM S);have T:=P.l0;have Y:=vD _ (P.tys _ (zM T));have g:yu p 0=p.funcs[0]:=by unfold yu;rw[Int.toNat_zero,zD,zE S];rfl
     have xf:p.funcs[0]?=some p.funcs[0]:=zE S;have N:uO p s=if s.frames.length=0 then zg (p.funcs[0].locals[0]'T) else 0:=by
      unfold uO;rw[g,zD,zE T];rfl
     have Z:vaR p s (some u)=if(!u.any (eqB false)&&qW p s&&(s.plain||vV (s.frames.map Fm.call) s.mon.running)&&decide ((s.result.length:Int)=uO p s))=true then 0 else 8:=by
      have:u.contains false=u.any (eqB false):=by
       rw[Bool.eq_iff_iff,List.contains_iff_mem,List.any_eq_true];constructor
       ·exact λh=>⟨false,h,by simp[eqB]⟩
       ·rintro⟨x,hx,h⟩;simp[eqB] at h;subst h;exact hx
      simp only[vaR,this]
     rw[Z,N];have xn:(s.frames.take s.frames.length).length=s.frames.length:=by simp
     clear C g Z N o L;generalize u.any (eqB false)=c1 at *;generalize qW p s=c2 at *;generalize vV (s.frames.map Fm.call) s.mon.running=c3 at *;clear P;generalize hn:p.funcs[0]=f at *;generalize xj:f.locals[0]=t at *;simp only[vCi_,List.map_map] at hQ;simp only[<-hu];clear hu Q hV hi J W;obtain⟨pl,mo,fr,pr,re⟩:=s;simp only at *;by_cases hz:fr = []
     ·subst hz;go_simp;repeat'(first|((first|apply zd Y|refine nK [.l 33] hB ?_|apply zd hT|refine nK [.l 90] hQ ?_);try go_simp)|with_reducible first|apply ai|intro)
      all_goals first|(simp[*];done)|grind|trace_state
     ·have y1:¬fr.length=0:=λh=>hz (List.eq_nil_of_length_eq_zero h);go_simp;repeat'(first|((first|apply zd Y|refine nK [.l 33] hB ?_|apply zd hT|refine nK [.l 90] hQ ?_);try go_simp)|with_reducible first|apply ai|intro)
      all_goals first|(simp[*];done)|grind|trace_state
   ·have h1:(200:Int)<s.prints.length:=om;have h2:¬(16:Int)<s.frames.length:=om;have A:uP p s=8:=by rw[mV,decide_eq_false w];simp
    rw[A];clear w o A;refine eK [] func152 λX=>?_;go_simp;repeat'(first|(apply zd V;try go_simp)|with_reducible first|apply ai|intro)
  ·have h1:(16:Int)<s.frames.length:=om;have A:uP p s=8:=by rw[mV,decide_eq_false D];simp
   rw[A];clear D o A;refine eK [] func152 λX=>?_;go_simp;repeat'(first|(apply zd V;try go_simp)|with_reducible first|apply ai|intro)
 ·have h8:xm s=8:=by unfold xm;rw[if_neg z]
  have A:uP p s=8:=by rw[mV,show tu s=false by simpa using z];simp
  rw[A];rw[h8] at V;clear z o A h8;refine eK [] func152 λX=>?_;go_simp;repeat'(first|(apply zd V;try go_simp)|with_reducible first|apply ai|intro)
def ckE (p:Pr)(s:Sa): Int:=if ¬tyE p=0 then tyE p else uP p s
def tH (p:Pr)(s:Sa)(f:z9 s)(b:wfP p): zK 80 [p.a,s.a] (iI (ckE p s)):=by
 have c:=ks p b;unfold ckE;by_cases h:tyE p=0
 ·have d:=Y0 p s f b h;rw[if_neg (by simpa using h)];rw[h] at c;refine eK [] func80 λX=>?_;go_simp;repeat'(first|((first|apply zd c|apply zd d);try go_simp)|with_reducible first|apply ai|intro)
 ·have hb:=z4 h;rw[if_pos h];generalize tyE p=e at *;refine eK [] func80 λX=>?_;go_simp;repeat'(first|(apply zd c;try go_simp)|with_reducible first|apply ai|intro)
def saZ:Sa:=⟨false,moZ,[],[],[]⟩
attribute [go_sem] saZ
def lDS (s:Sa)(p:Po)(n:Int): Sa×List Ce×Int×Int:=if ¬xm s=0 then(saZ,[],0,8) else if ¬n=1/\¬n=2 then(saZ,[],0,2) else((sLd s p n).1,(sLd s p n).2.1,(sLd s p n).2.2,0)
def qr (s:Sa)(p:Po)(n:Int)(f:z9 s): zK 189 [s.a,p.a,iI n] (.tup [(lDS s p n).1.a,.vec 5 ((lDS s p n).2.1.map Ce.c),iU (lDS s p n).2.2.1,iI (lDS s p n).2.2.2]):=by
 have b:=tG s f;unfold lDS;by_cases h:xm s=0
 ·rw[if_neg (by simpa using h)];by_cases c1:n=1
  ·rw[if_neg om];have d:=qq s p n f (uA.1 h);rw[h] at b;generalize sLd s p n=r at *;obtain⟨g,i,j⟩:=r;subst c1;refine eK [] func189 λX=>?_;go_simp;repeat'(first|((first|apply zd b|apply zd d);try go_simp)|with_reducible first|apply ai|intro)
  ·by_cases c2:n=2
   ·rw[if_neg om];have d:=qq s p n f (uA.1 h);rw[h] at b;generalize sLd s p n=r at *;obtain⟨g,i,j⟩:=r;subst c2;refine eK [] func189 λX=>?_;go_simp;repeat'(first|((first|apply zd b|apply zd d);try go_simp)|with_reducible first|apply ai|intro)
   ·rw[if_pos ⟨c1,c2⟩];rw[h] at b;have k:(n != 1)=true:=by simpa using c1
    have l:(n != 2)=true:=by simpa using c2
    clear c1 c2;refine eK [] func189 λX=>?_;go_simp;repeat'(first|(apply zd b;try go_simp)|with_reducible first|apply ai|intro)
 ·have hb:=z4 h;rw[if_pos h];generalize xm s=e at *;refine eK [] func189 λX=>?_;go_simp;repeat'(first|(apply zd b;try go_simp)|with_reducible first|apply ai|intro)
def uB (c:Ce): Bool:=!(wa c==0)
def rz (l:List Ce): Bool:=decide (l.length=1)||decide (l.length=2)
def sTS (s:Sa)(p:Po)(l:List Ce): Sa×Int×Int:=if ¬xm s=0 then(saZ,0,8) else if(rz l&&!l.any uB)=false then(saZ,0,2) else((sSt s p l).1,(sSt s p l).2,0)
def QA (l:List Ce): yF 248 [] Ce.a uB l:=⟨by go_simp,λc f=>by
 have b:=vL c;have hb:uB c = !(wa c==0):=rfl;rw[hb];clear hb;obtain⟨ck,d,e⟩:=c;refine eK [] func248 λX=>?_;go_simp;repeat'(first|(apply zd b;try go_simp)|with_reducible first|apply ai|intro)
 all_goals first|(simp_all;done)|grind|rfl⟩
def rA (s:Sa)(p:Po)(l:List Ce)(k:z9 s)(hl:l.length<1000000): zK 162 [s.a,p.a,vCe_ l] (.tup [(sTS s p l).1.a,iU (sTS s p l).2.1,iI (sTS s p l).2.2]):=by
 have d:=tG s k;have c:vQ Tryz.prog 248:=by go_simp
 unfold sTS;by_cases h:xm s=0
 ·rw[if_neg (by simpa using h)];have i:=qg (QA l) hl;have g:=ry s p l hl k (uA.1 h);rw[h] at d;generalize l.any uB=A at *;generalize sSt s p l=r at *;obtain⟨o,q⟩:=r;by_cases b:rz l=true
  ·have f:l.length=1\/l.length=2:=by unfold rz at b;simpa using b
   rw[b,Bool.true_and];clear b;rcases f with e|e
   ·have j:((l.length:Int) != 1)=false:=by rw[e];rfl
    clear e;cases A with
    |false =>
     refine eK [] func162 λX=>?_;go_simp;repeat'(first|((first|apply zd d|apply zd i|apply zd g);try go_simp)|exact c|with_reducible first|apply ai|intro)
    |true =>
     refine eK [] func162 λX=>?_;go_simp;repeat'(first|((first|apply zd d|apply zd i|apply zd g);try go_simp)|exact c|with_reducible first|apply ai|intro)
   ·have j:((l.length:Int) != 1)=true:=by rw[e];rfl
    have m:((l.length:Int) != 2)=false:=by rw[e];rfl
    clear e;cases A with
    |false =>
     refine eK [] func162 λX=>?_;go_simp;repeat'(first|((first|apply zd d|apply zd i|apply zd g);try go_simp)|exact c|with_reducible first|apply ai|intro)
    |true =>
     refine eK [] func162 λX=>?_;go_simp;repeat'(first|((first|apply zd d|apply zd i|apply zd g);try go_simp)|exact c|with_reducible first|apply ai|intro)
  ·have hn:¬l.length=1/\¬l.length=2:=by unfold rz at b;simpa using b
   have j:((l.length:Int) != 1)=true:=by simp;omega
   have m:((l.length:Int) != 2)=true:=by simp;omega
   rw[show rz l=false by simpa using b,Bool.false_and,if_pos rfl];clear b hn;refine eK [] func162 λX=>?_;go_simp;repeat'(first|(apply zd d;try go_simp)|with_reducible first|apply ai|intro)
 ·have hb:=z4 h;rw[if_pos h];generalize xm s=e at *;refine eK [] func162 λX=>?_;go_simp;repeat'(first|(apply zd d;try go_simp)|with_reducible first|apply ai|intro)
def rTS (s:Sa)(p:Po)(n kind call:Int): Sa×Po×Int×Int:=if ¬xm s=0 then(saZ,po0,0,8) else
 if(¬n=1/\¬n=2)\/¬grE kind=0\/(¬call=0/\(s.plain=true\/s.mon.running.any (eqI call)=false)) then(saZ,po0,0,2) else((sRt s p n kind call).1,(sRt s p n kind call).2.1,(sRt s p n kind call).2.2,0)
def rB (s:Sa)(p:Po)(n kind call:Int)(k:z9 s)(t:0<=kind): zK 154 [s.a,p.a,iI n,iU kind,iI call] (.tup [(rTS s p n kind call).1.a,(rTS s p n kind call).2.1.a,iU (rTS s p n kind call).2.2.1,iI (rTS s p n kind call).2.2.2]):=by
 have b:=tG s k;have c:=qi kind;have f:=WG s.mon.running call k.mo.rn;have x:(if kind=0\/5<=kind then(2:Int) else 0)=grE kind:=by
  unfold grE;by_cases e:kind=0\/5<=kind
  ·rw[if_pos e,if_neg om]
  ·rw[if_neg e,if_pos om]
 rw[x] at c;clear x;by_cases h:xm s=0
 ·have m:=oD s p n kind call t k (uA.1 h);have o:rTS s p n kind call=if(¬n=1/\¬n=2)\/¬grE kind=0\/(¬call=0/\(s.plain=true\/s.mon.running.any (eqI call)=false)) then(saZ,po0,0,2) else((sRt s p n kind call).1,(sRt s p n kind call).2.1,(sRt s p n kind call).2.2,0):=by unfold rTS;rw[if_neg (by simpa using h)]
  rw[o];clear o;rw[h] at b;generalize sRt s p n kind call=r at *;generalize grE kind=g at *;generalize s.mon.running.any (eqI call)=A at *;obtain⟨D,E,F⟩:=r;by_cases c1:¬n=1/\¬n=2
  ·rw[if_pos (Or.inl c1)];have B:(n != 1)=true:=by simpa using c1.1
   have C:(n != 2)=true:=by simpa using c1.2
   clear c1;refine eK [6] func154 λX=>?_;go_simp;repeat'(first|(apply zd b;try go_simp)|with_reducible first|apply ai|intro)
  ·have d:n=1\/n=2:=om;by_cases c2:g=0
   ·subst c2;by_cases j:¬call=0/\(s.plain=true\/A=false)
    ·rw[if_pos (Or.inr (Or.inr j))];obtain⟨i,v⟩:=j;have w:=z4 i;clear c1 i k;obtain⟨pl,mo,fr,pr,re⟩:=s;simp only at *;cases pl with
     |true =>
      rcases d with rfl|rfl
      ·refine eK [6] func154 λX=>?_;go_simp;repeat'(first|((first|apply zd b|apply zd c|apply zd f);try go_simp)|with_reducible first|apply ai|intro)
      ·refine eK [6] func154 λX=>?_;go_simp;repeat'(first|((first|apply zd b|apply zd c|apply zd f);try go_simp)|with_reducible first|apply ai|intro)
     |false =>
      obtain rfl:A=false:=by simpa using v
      clear v;rcases d with rfl|rfl
      ·refine eK [6] func154 λX=>?_;go_simp;repeat'(first|((first|apply zd b|apply zd c|apply zd f);try go_simp)|with_reducible first|apply ai|intro)
      ·refine eK [6] func154 λX=>?_;go_simp;repeat'(first|((first|apply zd b|apply zd c|apply zd f);try go_simp)|with_reducible first|apply ai|intro)
    ·rw[if_neg (by simp only[c1,j,not_true_eq_false,or_self,not_false_eq_true])];clear c1 k;by_cases i:call=0
     ·subst i;clear j;rcases d with rfl|rfl
      ·refine eK [6] func154 λX=>?_;go_simp;repeat'(first|((first|apply zd b|apply zd c|apply zd f|apply zd m);try go_simp)|with_reducible first|apply ai|intro)
       refine zh hP ⟨[(14,.l 14,0),(15,.l 15,0),(10,.l 10,0),(11,.l 11,0)],true⟩ dk ?_;go_simp
      ·refine eK [6] func154 λX=>?_;go_simp;repeat'(first|((first|apply zd b|apply zd c|apply zd f|apply zd m);try go_simp)|with_reducible first|apply ai|intro)
       refine zh hP ⟨[(14,.l 14,0),(15,.l 15,0),(10,.l 10,0),(11,.l 11,0)],true⟩ dk ?_;go_simp
     ·have w:=z4 i;have q:s.plain=false/\A=true:=by
       cases y:s.plain<;>cases z:A<;>simp[i,y,z] at j ⊢
      obtain⟨q,rfl⟩:=q;clear j i;obtain⟨pl,mo,fr,pr,re⟩:=s;simp only at *;subst q;rcases d with rfl|rfl
      ·refine eK [6] func154 λX=>?_;go_simp;repeat'(first|((first|apply zd b|apply zd c|apply zd f|apply zd m);try go_simp)|with_reducible first|apply ai|intro)
       refine zh hP ⟨[(14,.l 14,0),(15,.l 15,0),(10,.l 10,0),(11,.l 11,0)],true⟩ dk ?_;go_simp
      ·refine eK [6] func154 λX=>?_;go_simp;repeat'(first|((first|apply zd b|apply zd c|apply zd f|apply zd m);try go_simp)|with_reducible first|apply ai|intro)
       refine zh hP ⟨[(14,.l 14,0),(15,.l 15,0),(10,.l 10,0),(11,.l 11,0)],true⟩ dk ?_;go_simp
   ·rw[if_pos (Or.inr (Or.inl c2))];have w:=z4 c2;clear c1 c2;rcases d with rfl|rfl
    ·refine eK [6] func154 λX=>?_;go_simp;repeat'(first|((first|apply zd b|apply zd c);try go_simp)|with_reducible first|apply ai|intro)
    ·refine eK [6] func154 λX=>?_;go_simp;repeat'(first|((first|apply zd b|apply zd c);try go_simp)|with_reducible first|apply ai|intro)
 ·have hb:=z4 h;have o:rTS s p n kind call=(saZ,po0,0,8):=by unfold rTS;rw[if_pos h]
  rw[o];generalize xm s=e at *;refine eK [6] func154 λX=>?_;go_simp;repeat'(first|(apply zd b;try go_simp)|with_reducible first|apply ai|intro)
def II(h:WhV s)(c:(gEd s n).2.1=0)(b:(gEd s n).2.2=0): WhV (yh s (gEd s n).1):=by
 unfold gEd at *;cases hp:s.plain with
 |true =>
  simp only[hp,if_true] at c b ⊢;rw[if_pos b];exact⟨λe=>by unfold yh at e;simp[hp] at e,λ_=>rfl,(ap (ke b)).1⟩
 |false =>
  simp only[hp,Bool.false_eq_true,if_false] at c b ⊢;by_cases e:¬(mEd s.mon n).2.2=0\/¬(mEd s.mon n).2.1=0
  ·rw[if_pos e] at c b;omega
  ·rw[if_neg e];obtain⟨a,_⟩:=am (h.mo hp) (n:=n) om om;obtain⟨d,_⟩:=Ph a;exact⟨λ_=>d,λe=>by unfold yh at e;simp[hp] at e,d.me⟩
def fL(h:WhV s): WhV (sEd s n).1:=by
 unfold sEd;by_cases e:yw (gEd s n).2.1 (gEd s n).2.2=0
 ·rw[if_pos e];obtain⟨a,b⟩:=yX.1 e;exact II h a b
 ·rw[if_neg e];exact h
def ay(h:WhV s): WhV (sAl s n).1:=by
 unfold sAl;by_cases e:yw 0 (gAl s n).2.2=0
 ·rw[if_pos e];exact IH h (yX.1 e).2
 ·rw[if_neg e];exact h
def fM: yh s s.mon=s:=rfl
def So {s:Sa}{n:Int}: (sEd s n).1=yh s (sEd s n).1.mon:=by unfold sEd;split<;>rfl
def Sp {s:Sa}{n:Int}: (sAl s n).1=yh s (sAl s n).1.mon:=by unfold sAl;split<;>rfl
def Sq(a:z9 s)(h:WhV s): z9 (sEd s n).1:=by
 have:=fL h (n:=n)
 rw[So] at *;exact pM a this
def LB(a:z9 s)(h:WhV s): z9 (sAl s n).1:=by
 have:=ay h (n:=n)
 rw[Sp] at *;exact pM a this
def n9 (s:Sa)(n k:Nat)(x:Fm)(q:Po): Sa:=⟨s.plain,s.mon,s.frames.set n ⟨x.fn,x.at_,x.call,x.locals.set k q⟩,s.prints,s.result⟩
attribute [go_sem] n9
def rnS (s:Sa)(k:Nat): Sa×Int :=
 if ¬(sEd s ((zn s).locals.getD k po0).al).2=0 then(s,(sEd s ((zn s).locals.getD k po0).al).2) else
 if ¬(sAl (sEd s ((zn s).locals.getD k po0).al).1 (yZ s.mon.mem ((zn s).locals.getD k po0).al).cells.length).2.2=0 then(s,(sAl (sEd s ((zn s).locals.getD k po0).al).1 (yZ s.mon.mem ((zn s).locals.getD k po0).al).cells.length).2.2) else
 (n9 (sAl (sEd s ((zn s).locals.getD k po0).al).1 (yZ s.mon.mem ((zn s).locals.getD k po0).al).cells.length).1 (s.frames.length-1) k (zn s) (sAl (sEd s ((zn s).locals.getD k po0).al).1 (yZ s.mon.mem ((zn s).locals.getD k po0).al).cells.length).2.1,0)
def rnB (s:Sa)(k:Int): Bool:=decide (s.frames≠[])&&decide (0<=k/\k<(zn s).locals.length)&&decide (0<=atA s.mon.mem ((zn s).locals.getD k.toNat po0).al)&&(yZ s.mon.mem ((zn s).locals.getD k.toNat po0).al).live
def rNS (s:Sa)(k:Int): Sa×Int×Int:=if ¬xm s=0 then(saZ,0,8) else if rnB s k=false then(saZ,0,6) else((rnS s k.toNat).1,(rnS s k.toNat).2,0)
def k9 (s:Sa)(k:Int)(B:z9 s): zK 94 [s.a,iI k] (.tup [(rNS s k).1.a,iU (rNS s k).2.1,iI (rNS s k).2.2]):=by
 have z:=tG s B;have h8:=B.fr;unfold rNS;by_cases h:xm s=0
 ·rw[if_neg (by simpa using h)];have I:=uA.1 h;rw[h] at z;by_cases y:s.frames = []
  ·have hb:rnB s k=false:=by unfold rnB;rw[decide_eq_false (by simp[y])];rfl
   rw[hb,if_pos rfl];clear B I hb h;obtain⟨pl,mo,fr,pr,re⟩:=s;simp only at y;subst y;have hg:IntKind.i64.wrap (-1) = -1:=by decide
   refine eK [13,16,17] func94 λX=>?_;go_simp;repeat'(first|(apply zd z;try go_simp)|with_reducible first|apply ai|intro)
  ·have h6:=List.length_pos_iff.2 y;obtain⟨n,hn⟩:∃n,n+1=s.frames.length:=⟨s.frames.length-1,om⟩
   have G:n<s.frames.length:=om;have b:zn s=s.frames[n]:=by
    unfold zn;rw[zD,show s.frames.length-1=n by omega,zE G];rfl
   have W:s.frames[n]?=some s.frames[n]:=zE G;have h5:=B.lo _ (zM G);have h7:IntKind.i64.wrap ((s.frames.length:Int)-1)=(n:Int):=(AM.Tf om).trans om;have R:rnB s k=(decide (0<=k/\k<(s.frames[n]).locals.length)&&decide (0<=atA s.mon.mem ((s.frames[n]).locals.getD k.toNat po0).al)&&(yZ s.mon.mem ((s.frames[n]).locals.getD k.toNat po0).al).live):=by
    unfold rnB;rw[decide_eq_true y,b,Bool.true_and]
   by_cases c1:0<=k/\k<(s.frames[n]).locals.length
   ·obtain⟨m,rfl⟩:∃m:Nat,k=m:=⟨k.toNat,om⟩
    have V:m<s.frames[n].locals.length:=om;have L:(s.frames[n]).locals.getD m po0=s.frames[n].locals[m]:=by rw[zD,zE V];rfl
    rw[decide_eq_true c1,Bool.true_and,Int.toNat_natCast,L] at R;have T:rnS s m=if ¬(sEd s s.frames[n].locals[m].al).2=0 then(s,(sEd s s.frames[n].locals[m].al).2) else
     if ¬(sAl (sEd s s.frames[n].locals[m].al).1 (yZ s.mon.mem s.frames[n].locals[m].al).cells.length).2.2=0 then(s,(sAl (sEd s s.frames[n].locals[m].al).1 (yZ s.mon.mem s.frames[n].locals[m].al).cells.length).2.2) else
     (n9 (sAl (sEd s s.frames[n].locals[m].al).1 (yZ s.mon.mem s.frames[n].locals[m].al).cells.length).1 n m s.frames[n] (sAl (sEd s s.frames[n].locals[m].al).1 (yZ s.mon.mem s.frames[n].locals[m].al).cells.length).2.1,0):=by
     unfold rnS;rw[b,L,show s.frames.length-1=n by omega]
    rw[Int.toNat_natCast,T,R];clear T R L c1 b h;have N:=n8 s.mon.mem s.frames[n].locals[m].al B.mo.me.1;have hle:s.frames[n].locals[m]?=some s.frames[n].locals[m]:=zE V;have Z:=yN s B;have he:¬(m:Int)<0:=om;have hf:¬s.frames[n].locals.length<=m:=om;generalize h4:s.frames[n]=x at *;obtain⟨xf,xa,xc,M⟩:=x;simp only at *;generalize hd:M[m]=l at *;obtain⟨d,lo,lt⟩:=l;simp only at *;by_cases c2:atA s.mon.mem d<0
    ·rw[decide_eq_false om,Bool.false_and,if_pos rfl];generalize atA s.mon.mem d=j at *;refine eK [13,16,17] func94 λX=>?_;go_simp;repeat'(first|((first|apply zd z|apply zd N);try go_simp)|with_reducible first|apply ai|intro)
    ·obtain⟨j,hj,al,F,_⟩:=ud c2;have H:yZ s.mon.mem d=al:=wX hj F;have ha:=(zS.1 F).1;have hc:=(zS.1 F).2;rw[decide_eq_true (by omega:0<=atA s.mon.mem d),Bool.true_and,H];rw[hj] at N;obtain⟨an,h2,K⟩:=al;have h9:¬(j:Int)<0:=om;have U:=B.mo.me.2 _ (zF F);simp only at U;clear hj c2 H;cases h2 with
     |false =>
      rw[if_pos rfl];refine eK [13,16,17] func94 λX=>?_;go_simp;repeat'(first|((first|apply zd z|apply zd N);try go_simp)|with_reducible first|apply ai|intro)
     |true =>
      rw[if_neg sm];have S:=fK s d B I;by_cases Y:(sEd s d).2=0
      ·rw[if_neg (by simpa using Y)];have w:=Sq B I (n:=d);have t:=fL I (n:=d);have g:=@So s d;have P:=ky (sEd s d).1 K.length w t;have C:=dK (sEd s d).1 K.length w t n ⟨xf,xa,xc,M⟩ (by rw[g];exact W) (by rw[g];exact hn);have D:=@Sp (sEd s d).1 K.length;generalize sEd s d=E at *;obtain⟨O,E2⟩:=E;simp only at Y w t g P C D S;subst Y;by_cases J:(sAl O K.length).2.2=0
       ·have i:=C J;clear C;rw[if_neg (by simpa using J)];have Q:(sAl O K.length).1.frames=s.frames:=by rw[D,g];rfl
        clear P I t w D g;obtain⟨A,r⟩:∃A,A=sAl O K.length:=⟨_,rfl⟩
        rw[<-r] at J i Q ⊢;clear r;obtain⟨A1,A2,A3⟩:=A;simp only at J i Q;subst J;refine eK [13,16,17] func94 λX=>?_;go_simp;repeat'(first|((first|apply zd z|apply zd N|apply zd Z|apply zd S);try go_simp)|with_reducible first|apply ai|intro)
        refine uq hP ⟨[(10,.l 10,0),(12,.l 12,0),(84,.l 2,1)],true⟩ [91] dk ?_;go_simp;repeat'(first|(refine j8 i ?_;intro q;try go_simp)|with_reducible first|apply ai|intro)
        have h3:((s.frames.map Fm.c).set n [iI xf,iI xa,iI xc,.sl (.s 1 (.l 91)) (q 1).1 3 M.length (q 1).2])[n]?=some [iI xf,iI xa,iI xc,.sl (.s 1 (.l 91)) (q 1).1 3 M.length (q 1).2]:=by rw[List.getElem?_set_self (by simpa using G)]
        refine zh hP ⟨[(100,.l 10,7),(104,.s 0 (.l 91),3),(12,.l 12,0),(108,.s 1 (.l 91),0)],true⟩ dk ?_;go_simp;refine y8 [.s 1 (.l 91)] (.s 0 (.l 91)) n 3 (row:=[iI xf,iI xa,iI xc,.sl (.s 1 (.l 91)) (q 1).1 3 M.length (q 1).2]) (v:=vPo_ (M.set m A2)) rfl h3 rfl (by decide) (SV.own (o:=⟨(q 1).1,(q 1).2,3,53,(M.map Po.c).set m A2.c,false⟩) rfl rfl rfl rfl sm (by decide) (by rw[List.map_set,zT sm])) ?_;refine aO [] ?_;go_simp;exact zT sm
       ·have hb:=z4 J;rw[if_pos J];clear C I t w D g;obtain⟨A,r⟩:∃A,A=sAl O K.length:=⟨_,rfl⟩
        rw[<-r] at hb P ⊢;clear J r;obtain⟨A1,A2,A3⟩:=A;simp only at hb P ⊢;refine eK [13,16,17] func94 λX=>?_;go_simp;repeat'(first|((first|apply zd z|apply zd N|apply zd Z|apply zd S);try go_simp)|with_reducible first|apply ai|intro)
        refine zh hP ⟨[(10,.l 10,0),(12,.l 12,0),(84,.l 2,1)],true⟩ dk ?_;go_simp;repeat'(first|((first|apply zd Z|apply zd P);try go_simp)|with_reducible first|apply ai|intro)
      ·have hb:=z4 Y;rw[if_pos Y];generalize sEd s d=E at *;obtain⟨O,E2⟩:=E;simp only at hb S ⊢;clear I;refine eK [13,16,17] func94 λX=>?_;go_simp;repeat'(first|((first|apply zd z|apply zd N|apply zd Z|apply zd S);try go_simp)|with_reducible first|apply ai|intro)
   ·rw[R,decide_eq_false c1];simp only[Bool.false_and,if_true];clear R b I h B W;generalize h4:s.frames[n]=x at *;obtain⟨f,a,c,l⟩:=x;simp only at c1 h5;by_cases c2:k<0
    ·refine eK [13,16,17] func94 λX=>?_;go_simp;repeat'(first|(apply zd z;try go_simp)|with_reducible first|apply ai|intro)
    ·have c3:(l.length:Int)<=k:=om;have c4:¬k<(l.length:Int):=om;refine eK [13,16,17] func94 λX=>?_;go_simp;repeat'(first|(apply zd z;try go_simp)|with_reducible first|apply ai|intro)
 ·have hb:=z4 h;rw[if_pos h];generalize xm s=e at *;refine eK [13,16,17] func94 λX=>?_;go_simp;repeat'(first|(apply zd z;try go_simp)|with_reducible first|apply ai|intro)
end Go.Proofs.YtllodfoldffonaaGreatDoor
