/- A part of the proof. -/
import Derived.Test.YtllodfoldffonaaGreatDoorQ17
namespace Go.Proofs.YtllodfoldffonaaGreatDoor
open Tryz AM Go.RowKit
set_option linter.unusedSimpArgs false
set_option linter.unusedVariables false
set_option linter.defProp false
set_option maxRecDepth 100000
set_option maxHeartbeats 16000000
variable {p:Pr}{s:Sa}{u:List Bool}
def Yl (s:Sa)(b:z9 s): zK 147 [s.a] (iI (xm s)):=by
 have c:=XV s.mon b.mo;have d:=jJ s.mon.mem b.mo.me;have l1:=b.mo.sl;have f:=b.mo.rn;obtain⟨pl,⟨⟨al,nx⟩,st,rn,nt,nc⟩,fr,pr,re⟩:=s;simp only at l1 f;have e:xm ⟨pl,⟨⟨al,nx⟩,st,rn,nt,nc⟩,fr,pr,re⟩=if pl=false then vR ⟨⟨al,nx⟩,st,rn,nt,nc⟩ else if 0<st.length\/0<rn.length\/¬nt=0\/¬nc=0 then 8 else yq ⟨al,nx⟩:=by
  cases pl with
  |false=>simp[xm,tu,vR]
  |true =>
   simp only[xm,tu,yq,if_true];grind
 rw[e];clear e;cases pl with
 |false =>
  refine eK [] func147 λX=>?_;go_simp;repeat'(first|(apply zd c;try go_simp)|with_reducible first|apply ai|intro)
 |true =>
  refine eK [] func147 λX=>?_;go_simp;repeat'(first|(apply zd d;try go_simp)|with_reducible first|apply ai|intro)
  all_goals first|assumption|exact List.eq_nil_of_length_eq_zero om|omega|(exfalso;simp_all;done)|(simp_all;done)|(simp;omega)|trace_state
def fG (f:Fn)(n:Nat)(t:Ty)(h:f.locals[n]?=some t): zK 67 [f.a,iI n] (iI (zg t)):=by
 obtain⟨hl,d⟩:=zS.1 h;have c:(n:Int)<f.locals.length:=om;have b:=Xw t;clear h;obtain⟨k,o⟩:=t;refine eK [] func67 λX=>?_;go_simp;repeat'(first|(apply zd b;try go_simp)|with_reducible first|apply ai|intro)
def Ym (f:Fn)(k to:Int)(hb:f.blocks.length<1000)(hs:∀b∈f.blocks,b.stmts.length<1000000)(t:0<=k/\k<1000000000000): zK 150 [f.a,iI k,iI to] (.bool (yW f.blocks k to)):=by
 refine eK [] func150 λX=>?_;go_simp;intro o;refine zf hP (B:=[]) (G:=Nat×Int) (λv=>[(1,iI v.2),(2,iI to),(3,.ptr (.l 3) o 4 0 0),(7,iI v.1)])
  (λv=>[(.l 3,⟨o,1,4,60,[Fn.c f],false⟩)]) (λv=>v.1<=f.blocks.length/\yW (f.blocks.drop v.1) v.2 to=yW f.blocks k to/\-(v.1*1000000:Nat)<=v.2/\v.2<1000000000000) (λv=>f.blocks.length-v.1) (0,k) dk ?_ ?_ ?_ ?_
 ·exact⟨Nat.zero_le _,rfl,by simpa using t.1,t.2⟩
 ·go_simp
 ·go_simp
 rintro⟨i,q⟩ ⟨hi,e,w,y⟩;simp only at hi e w y;by_cases g:i<f.blocks.length
 ·have j:(i:Int)<f.blocks.length:=om;have hx:f.blocks[i]?=some f.blocks[i]:=zE g;have z:=hs _ (zM g);have r:f.blocks.drop i=f.blocks[i]::f.blocks.drop (i+1):=List.drop_eq_getElem_cons g;generalize C:f.blocks[i]=x at *;rw[r] at e;clear r;have A:IntKind.i64.wrap ((x.stmts.length:Int)+1)=(x.stmts.length:Int)+1:=AM.Tf om;have n:IntKind.i64.wrap (q-((x.stmts.length:Int)+1))=q-((x.stmts.length:Int)+1):=AM.Tf om;have d:yW f.blocks k to=if q=x.stmts.length then x.jump.kind==4&&x.jump.fn==to else yW (f.blocks.drop (i+1)) (q-(x.stmts.length+1)) to:=e.symm;rw[d];clear e;by_cases m:q=x.stmts.length
  ·rw[if_pos m];clear d n;subst m;go_simp;exact⟨λh _=>h,λh k=>absurd k h⟩
  ·rw[if_neg m] at d ⊢;rw[<-d];go_simp;refine⟨i+1,q-(x.stmts.length+1),⟨om,rfl,?_,?_⟩,?_,rfl,?_⟩
   ·omega
   ·omega
   ·omega
   ·exact wrS om
 ·obtain rfl:i=f.blocks.length:=om;have j:¬(f.blocks.length:Int)<f.blocks.length:=om;rw[List.drop_length] at e;rw[<-e];go_simp;exact e.symm
def Qz (p:Pr)(s:Sa)(b d e to:Int)(V:z9 s)(hf:frB p s)(hq:0<=d/\d<=2)(hc:0<=b/\b<s.mon.mem.next)(I:(s.plain=true/\e=0)\/(s.plain=false/\1<=e/\e<s.mon.ntag)):
  zK 232 [p.a,s.a,Po.a ⟨b,d,e⟩,iU to] (.bool (wW p ⟨b,d,e⟩ to s.frames)):=by
 have h2:=V.fr;have q3:¬d<0:=om;have q4:¬2<d:=om;have c3:¬b<0:=om;have c4:¬s.mon.mem.next<=b:=om;refine eK [3059] func232 λX=>?_;go_simp;intro w y z;refine sj (B:=[]) hP [(3,iU to),(4,.ptr (.l 4) w 1 0 0),(5,.ptr (.l 5) y 10 0 0),(6,.ptr (.l 6) z 3 0 0)]
  [(.l 4,⟨w,1,1,24,[Pr.c p],false⟩),(.l 5,⟨y,1,10,35,[Sa.c s],false⟩),(.l 6,⟨z,1,3,53,[Po.c ⟨b,d,e⟩],false⟩)] dk ?_ ?_
 ·rcases I with⟨W,R⟩|⟨W,R,e3⟩
  ·subst R;go_simp
  ·have e4:¬e<1:=om;have e5:¬s.mon.ntag<=e:=om;go_simp
 clear I;go_simp;refine lN [] (λi=>[(3,iU to),(4,.ptr (.l 4) w 1 0 0),(5,.ptr (.l 5) y 10 0 0),(6,.ptr (.l 6) z 3 0 0),(9,iI i)]) (λi=>[(.l 4,⟨w,1,1,24,[Pr.c p],false⟩),(.l 5,⟨y,1,10,35,[Sa.c s],false⟩),(.l 6,⟨z,1,3,53,[Po.c ⟨b,d,e⟩],false⟩)]) (λi=>i<=s.frames.length/\∀x∈s.frames.take i,idx (xy b) x.locals<0) (λi=>s.frames.length-i) 0 ?_
 rintro i ⟨hi,P⟩;have E:=kw (p:=p) (q:=⟨b,d,e⟩) (to:=to) P hi;rw[<-E];clear E;by_cases j:i<s.frames.length
 ·have H:(i:Int)<s.frames.length:=om;have hm:=λh=>zr P j h;have v:=zM j;have h6:s.frames[i]?=some s.frames[i]:=zE j;have S:s.frames.drop i=s.frames[i]::s.frames.drop (i+1):=List.drop_eq_getElem_cons j;rw[S];clear S;obtain⟨⟨Y,Z⟩,J⟩:=hf _ v;have M:=V.lo _ v;generalize h3:s.frames[i]=x at *;obtain⟨fn,at_,call,locals⟩:=x;simp only at Y Z J M;obtain⟨m,rfl⟩:∃m:Nat,fn=m:=⟨fn.toNat,om⟩
  have O:m<p.funcs.length:=om;have U:(m:Int)<p.funcs.length:=om;have n:yu p m=p.funcs[m]:=by unfold yu;rw[Int.toNat_natCast,zD,zE O];rfl
  rw[n] at J;have D:wW p ⟨b,d,e⟩ to (⟨m,at_,call,locals⟩::s.frames.drop (i+1))=if idx (xy b) locals<0 then wW p ⟨b,d,e⟩ to (s.frames.drop (i+1)) else sI (p.funcs[m].locals.getD (idx (xy b) locals).toNat ⟨0,0⟩).kind to d:=by
   rw[<-n];rfl
  rw[D];clear D n P v;generalize h1:p.funcs[m]=f at *;have f4:locals.length<=f.locals.length:=om;have f5:f.locals.length<=locals.length:=om;clear J;go_simp;intro C;refine lN [] (λk=>[(3,iU to),(4,.ptr (.l 4) w 1 0 0),(5,.ptr (.l 5) y 10 0 0),(6,.ptr (.l 6) z 3 0 0),(9,iI i),(10,.ptr (.l 10) C 4 0 0),(11,iI k)]) (λk=>[(.l 4,⟨w,1,1,24,[Pr.c p],false⟩),(.l 5,⟨y,1,10,35,[Sa.c s],false⟩),(.l 6,⟨z,1,3,53,[Po.c ⟨b,d,e⟩],false⟩),(.l 10,⟨C,1,4,64,[Fm.c ⟨m,at_,call,locals⟩],false⟩)]) (λk=>k<=locals.length/\∀l∈locals.take k,xy b l=false) (λk=>locals.length-k) 0 ?_
  rintro k ⟨hk,r⟩;by_cases F:k<locals.length
  ·have G:(k:Int)<locals.length:=om;have o:=λh=>zr r F h;have g:=λh=>wB F h r;generalize hle:locals[k]=l at o g;obtain⟨Q,lo,lt⟩:=l;have L:k<f.locals.length:=om;have T:(k:Int)<f.locals.length:=om;by_cases A:Q=b
   ·have hx:=g (by unfold xy;simpa using A);rw[hx,if_neg om,Int.toNat_natCast,zE L,zH];have K:(Q != b)=false:=by simpa using A
    generalize h5:f.locals[k]=t at *;have h4:=A;clear A o g hx hm;go_simp;unfold sI;grind
   ·have hx:=o (by unfold xy;simpa using A);have K:(Q != b)=true:=by simpa using A
    clear g hm;go_simp;exact⟨k+1,⟨om,hx⟩,om,wrS om⟩
  ·have hz:idx (xy b) locals = -1:=ub (zx r om);have G:¬(k:Int)<locals.length:=om;rw[hz,if_pos om];have N:=hm (by simp only;omega);clear hm;go_simp;exact⟨i+1,⟨om,N⟩,om,wrS om⟩
 ·obtain rfl:i=s.frames.length:=om;have H:¬(s.frames.length:Int)<s.frames.length:=om;rw[List.drop_length];go_simp;rfl
def UB (p:Pr)(s:Sa)(q:Po)(to:Int)(r:z9 s)(n:frB p s)(o:0<=q.off/\q.off<=2): zK 232 [p.a,s.a,q.a,iU to] (.bool (we p s q to)):=by
 obtain⟨d,g,c⟩:=q;obtain⟨l,m⟩:=o;simp only at l m;have w:¬g<0:=om;have j:we p s ⟨d,g,c⟩ to=(x5 s c&&decide (0<=d/\d<s.mon.mem.next)&&wW p ⟨d,g,c⟩ to s.frames):=rfl;rw[j];clear j;by_cases k:0<=d/\d<s.mon.mem.next
 ·obtain⟨c1,c2⟩:=k;rw[decide_eq_true ⟨c1,c2⟩,Bool.and_true];have t:¬d<0:=om;have v:¬s.mon.mem.next<=d:=om;by_cases b:x5 s c=true
  ·have h:(s.plain=true/\c=0)\/(s.plain=false/\1<=c/\c<s.mon.ntag):=by
    unfold x5 at b;cases e:s.plain with
    |true=>rw[e] at b;simp at b;exact Or.inl ⟨rfl,b⟩
    |false=>rw[e] at b;simp at b;exact Or.inr ⟨rfl,b⟩
   rw[b,Bool.true_and];exact Qz p s d g c to r n ⟨l,m⟩ ⟨c1,c2⟩ h
  ·rw[show x5 s c=false by simpa using b,Bool.false_and];cases e:s.plain with
   |true =>
    have f:¬c=0:=by unfold x5 at b;rw[e] at b;simpa using b
    have i:=z4 f;refine eK [] func232 λX=>?_;go_simp;repeat'(first|with_reducible first|apply ai|intro)
   |false =>
    have f:c<1\/(¬c<1/\s.mon.ntag<=c):=by unfold x5 at b;rw[e] at b;simp at b;omega
    rcases f with f|⟨f,i⟩
    ·refine eK [] func232 λX=>?_;go_simp;repeat'(first|with_reducible first|apply ai|intro)
    ·refine eK [] func232 λX=>?_;go_simp;repeat'(first|with_reducible first|apply ai|intro)
 ·rw[decide_eq_false k,Bool.and_false,Bool.false_and];by_cases c1:d<0
  ·refine eK [] func232 λX=>?_;go_simp;repeat'(first|with_reducible first|apply ai|intro)
  ·have c2:s.mon.mem.next<=d:=om;refine eK [] func232 λX=>?_;go_simp;repeat'(first|with_reducible first|apply ai|intro)
def usB (u:List Bool)(k:Int): Bool:=u.getD k.toNat true
def plG (s:Sa): List Po->List Ty->List Bool->Bool×List Bool
 |l::ls,t::ts,u=>if sJ s l t&&!usB u (atA s.mon.mem l.al) then plG s ls ts (u.set (atA s.mon.mem l.al).toNat true) else(false,u)
 |_,_,u=>(true,u)
def plU (s:Sa)(f:Fn)(x:Fm)(u:List Bool): Bool×List Bool:=if x.locals.length=f.locals.length then plG s x.locals f.locals u else(false,u)
def dH{l:Po}{ls:List Po}{t:Ty}{ts:List Ty}(h:(sJ s l t&&!usB u (atA s.mon.mem l.al))=true): plG s (l::ls) (t::ts) u=plG s ls ts (u.set (atA s.mon.mem l.al).toNat true):=by
 show(if _ then _ else _)=_;rw[if_pos h]
def kx{l:Po}{ls:List Po}{t:Ty}{ts:List Ty}(h:(sJ s l t&&!usB u (atA s.mon.mem l.al))=false): plG s (l::ls) (t::ts) u=(false,u):=by
 show(if _ then _ else _)=_;rw[if_neg (by simp[h])]
def bC (s:Sa)(f:Fn)(x:Fm)(u:List Bool)(b c:Nat)(hw:z9 s)(hu:u.length=s.mon.mem.allocs.length)(hl:f.locals.length<1000000)(hx:x.locals.length<1000000)(ht:∀t∈f.locals,yE t=true):
  zG 234 1 (λι=>[s.a,f.a,x.a,.sl (ι 0) b 1 u.length c]) (λ_=>[⟨b,c,1,4,u.map cb,false⟩]) (λ_ _=>.bool (plU s f x u).1) (λ_ _=>[⟨b,c,1,4,(plU s f x u).2.map cb,false⟩]):=by
 by_cases o:x.locals.length=f.locals.length
 ·have d:plU s f x u=plG s x.locals f.locals u:=by unfold plU;rw[if_pos o]
  rw[d];have hn:((x.locals.length:Int) != f.locals.length)=false:=by simp;omega
  have hle:x.locals.length<=f.locals.length:=om;clear o d;refine eG [] func234 λX=>?_;go_simp;intro D E F;refine lG [1010,3067] (G:=Nat×List Bool) (λv=>[(3,.sl u0 b 1 u.length c),(4,.ptr (.l 4) D 10 0 0),(5,.ptr (.l 5) E 4 0 0),(6,.ptr (.l 6) F 4 0 0),(22,vPo_ x.locals),(23,iI x.locals.length),(24,iI v.1)]) (λv=>[(u0,⟨b,c,1,4,v.2.map cb,false⟩),(.l 4,⟨D,1,10,35,[Sa.c s],false⟩),(.l 5,⟨E,1,4,60,[Fn.c f],false⟩),(.l 6,⟨F,1,4,64,[Fm.c x],false⟩)]) (λv=>v.1<=x.locals.length/\v.2.length=u.length/\plG s (x.locals.drop v.1) (f.locals.drop v.1) v.2=plG s x.locals f.locals u) (λv=>x.locals.length-v.1) (0,u) ?_ (h0:=⟨Nat.zero_le _,rfl,rfl⟩)
  rintro⟨i,j⟩ ⟨hi,W,w⟩;simp only at hi W w;rw[<-w];by_cases L:i<x.locals.length
  ·have P:x.locals.drop i=x.locals[i]::x.locals.drop (i+1):=List.drop_eq_getElem_cons L;have J:f.locals.drop i=f.locals[i]'om::f.locals.drop (i+1):=List.drop_eq_getElem_cons om;have S:i<f.locals.length:=om;have Y:(i:Int)<f.locals.length:=om;have h8:x.locals[i]?=some x.locals[i]:=zE L;rw[P,J] at w ⊢;clear P J;have V:yE f.locals[i]=true:=ht _ (zM S);have Q:=vD _ V;generalize h3:x.locals[i]=l at *;generalize h2:f.locals[i]=t at *;have H:=n8 s.mon.mem l.al hw.mo.me.1;obtain⟨q,lo,lt⟩:=l;by_cases R:atA s.mon.mem q<0
   ·have M:(sJ s ⟨q,lo,lt⟩ t&&!usB j (atA s.mon.mem q))=false:=by
     unfold sJ;rw[decide_eq_false (by simp only;omega)];simp
    rw[kx M];clear w M Q;go_simp;intro e;repeat'(first|(apply zd H;try go_simp)|with_reducible first|apply ai|intro)
    all_goals exact⟨[u0],dk,⟨OB,trivial⟩,rfl⟩
   ·obtain⟨n,z,al,A,T⟩:=ud (m:=s.mon.mem) (n:=q) om;obtain⟨h6,h5⟩:=zS.1 A;have U:n<j.length:=om;have O:usB j (n:Int)=j[n]:=by unfold usB;rw[Int.toNat_natCast,zD,zE U];rfl
    have I:yZ s.mon.mem q=al:=wX z A;have K:sJ s ⟨q,lo,lt⟩ t=(decide (lo=0)&&al.live&&decide ((al.cells.length:Int)=zg t)&&x5 s lt):=by
     unfold sJ;simp only[I];rw[decide_eq_true om,Bool.true_and];congr 3
    have d:=λh=>dH (s:=s) (l:=⟨q,lo,lt⟩) (ls:=x.locals.drop (i+1)) (t:=t) (ts:=f.locals.drop (i+1)) (u:=j) h;have g:=λh=>kx (s:=s) (l:=⟨q,lo,lt⟩) (ls:=x.locals.drop (i+1)) (t:=t) (ts:=f.locals.drop (i+1)) (u:=j) h;simp only[K,z,O,Int.toNat_natCast] at d g;rw[z] at H;have Z:(n:Int)<u.length:=om;have h1:n<u.length:=om;have h9:=hx;clear K O R z A T I;generalize h7:j[n]=un at *;by_cases C:un=true
    ·subst C;rw[g sm];clear w d g Q;go_simp;intro e;repeat'(first|(apply zd H;try go_simp)|with_reducible first|apply ai|intro)
     all_goals exact⟨[u0],dk,⟨OB,trivial⟩,rfl⟩
    obtain rfl:un=false:=by simpa using C
    by_cases y:lo=0
    ·subst y;clear C;go_simp;intro e;repeat'(first|(apply zd H;try go_simp)|with_reducible first|apply ai|intro)
     ·exfalso;grind
     rename_i r;refine sj (B:=[3067]) hP [(3,.sl u0 b 1 u.length c),(4,.ptr (.l 4) D 10 0 0),(5,.ptr (.l 5) E 4 0 0),(6,.ptr (.l 6) F 4 0 0),(9,iI i),(10,.ptr (.l 10) e 3 0 0),(11,iI n),(12,.ptr (.l 12) r 3 0 0),(13,.bool (decide (1<=lt)&&decide (lt<s.mon.ntag))),(22,vPo_ x.locals),(23,iI x.locals.length),(24,iI i)]
      [(u0,⟨b,c,1,4,j.map cb,false⟩),(.l 4,⟨D,1,10,35,[Sa.c s],false⟩),(.l 5,⟨E,1,4,60,[Fn.c f],false⟩),(.l 6,⟨F,1,4,64,[Fm.c x],false⟩),(.l 10,⟨e,1,3,53,[Po.c ⟨q,0,lt⟩],false⟩),(.l 12,⟨r,1,3,170,[Al.c al],false⟩)] dk ?_ ?_
     ·go_simp;exact⟨λh _=>h,λh k=>absurd k om⟩
     go_simp;refine sj (B:=[]) hP [(3,.sl u0 b 1 u.length c),(4,.ptr (.l 4) D 10 0 0),(5,.ptr (.l 5) E 4 0 0),(6,.ptr (.l 6) F 4 0 0),(9,iI i),(10,.ptr (.l 10) e 3 0 0),(11,iI n),(12,.ptr (.l 12) r 3 0 0),(13,.bool (x5 s lt)),(22,vPo_ x.locals),(23,iI x.locals.length),(24,iI i)]
      [(u0,⟨b,c,1,4,j.map cb,false⟩),(.l 4,⟨D,1,10,35,[Sa.c s],false⟩),(.l 5,⟨E,1,4,60,[Fn.c f],false⟩),(.l 6,⟨F,1,4,64,[Fm.c x],false⟩),(.l 10,⟨e,1,3,53,[Po.c ⟨q,0,lt⟩],false⟩),(.l 12,⟨r,1,3,170,[Al.c al],false⟩)] dk ?_ ?_
     ·go_simp;unfold x5;exact⟨λh=>by rw[h];rfl,λh=>by rw[h];simp[Bool.decide_and]⟩
     generalize x5 s lt=tg at *;go_simp;repeat'(first|(apply zd Q;try go_simp)|with_reducible first|apply ai|intro)
     all_goals first
      |exact⟨i+1,j.set n true,⟨om,by rw[List.length_set];omega,(d (by simp[*])).symm.trans w⟩,om,wrS om,by rw[List.map_set];rfl⟩
      |skip
     all_goals(have N:plG s x.locals f.locals u=(false,j):=w.symm.trans (g (by clear d g w;simp[*])))
     all_goals rw[N]
     all_goals exact⟨[u0],dk,⟨OB,trivial⟩,rfl,rfl⟩
    ·rw[g (by simp[y])];have h4:=z4 y;clear w d g Q y;go_simp;intro e;repeat'(first|(apply zd H;try go_simp)|with_reducible first|apply ai|intro)
     all_goals exact⟨[u0],dk,⟨OB,trivial⟩,rfl⟩
  ·obtain rfl:i=x.locals.length:=om;have hz:plG s (x.locals.drop x.locals.length) (f.locals.drop x.locals.length) j=(true,j):=by rw[List.drop_length];rfl
   rw[hz];go_simp;exact⟨[u0],dk,⟨OB,trivial⟩,rfl⟩
 ·have d:plU s f x u=(false,u):=by unfold plU;rw[if_neg o]
  rw[d];have hn:((x.locals.length:Int) != f.locals.length)=true:=by simp;omega
  refine eG [] func234 λX=>?_;go_simp;intro _ _ _;exact⟨[u0],dk,⟨OB,trivial⟩,rfl⟩
def Yn (s:Sa)(f:Fn)(x:Fm)(u:List Bool)(b c:Nat)(hw:z9 s)(hu:u.length=s.mon.mem.allocs.length)(hl:f.locals.length<1000000)(hx:x.locals.length<1000000):
  zG 149 1 (λι=>[s.a,f.a,x.a,.sl (ι 0) b 1 u.length c]) (λ_=>[⟨b,c,1,4,u.map cb,false⟩]) (λ_ _=>.bool (plU s f x u).1) (λ_ _=>[⟨b,c,1,4,(plU s f x u).2.map cb,false⟩]):=by
 by_cases r:x.locals.length=f.locals.length
 ·have C:plU s f x u=plG s x.locals f.locals u:=by unfold plU;rw[if_pos r]
  rw[C];have hn:((x.locals.length:Int) != f.locals.length)=false:=by simp;omega
  have hle:x.locals.length<=f.locals.length:=om;clear r C;refine eG [] func149 λX=>?_;go_simp;intro b4 b5 b6;refine lG [] (G:=Nat×List Bool) (λv=>[(3,.sl u0 b 1 u.length c),(4,.ptr (.l 4) b4 10 0 0),(5,.ptr (.l 5) b5 4 0 0),(6,.ptr (.l 6) b6 4 0 0),(9,iI v.1)]) (λv=>[(u0,⟨b,c,1,4,v.2.map cb,false⟩),(.l 4,⟨b4,1,10,35,[Sa.c s],false⟩),(.l 5,⟨b5,1,4,60,[Fn.c f],false⟩),(.l 6,⟨b6,1,4,64,[Fm.c x],false⟩)]) (λv=>v.1<=x.locals.length/\v.2.length=u.length/\plG s (x.locals.drop v.1) (f.locals.drop v.1) v.2=plG s x.locals f.locals u) (λv=>x.locals.length-v.1) (0,u) ?_ (h0:=⟨Nat.zero_le _,rfl,rfl⟩)
  rintro⟨i,z⟩ ⟨hi,Z,y⟩;simp only at hi Z y;rw[<-y];by_cases N:i<x.locals.length
  ·have R:x.locals.drop i=x.locals[i]::x.locals.drop (i+1):=List.drop_eq_getElem_cons N;have L:f.locals.drop i=f.locals[i]'om::f.locals.drop (i+1):=List.drop_eq_getElem_cons om;have T:i<f.locals.length:=om;have h1:(i:Int)<f.locals.length:=om;have O:(i:Int)<x.locals.length:=om;have hb:x.locals[i]?=some x.locals[i]:=zE N;have w:=fG f i f.locals[i] (zE T);rw[R,L] at y ⊢;clear R L;generalize h6:x.locals[i]=l at *;generalize h5:f.locals[i]=t at *;have q:=ZD s.mon.mem l.al hw.mo.me.1;obtain⟨D,lo,lt⟩:=l;have g:=λh=>dH (s:=s) (l:=⟨D,lo,lt⟩) (ls:=x.locals.drop (i+1)) (t:=t) (ts:=f.locals.drop (i+1)) (u:=z) h;have d:=λh=>kx (s:=s) (l:=⟨D,lo,lt⟩) (ls:=x.locals.drop (i+1)) (t:=t) (ts:=f.locals.drop (i+1)) (u:=z) h;have M:sJ s ⟨D,lo,lt⟩ t=(decide (0<=atA s.mon.mem D)&&lo==0&&(yZ s.mon.mem D).live&&decide (((yZ s.mon.mem D).cells.length:Int)=zg t)&&x5 s lt):=rfl;rw[M] at g d;clear M;by_cases A:lo=0
   ·subst A;by_cases S:atA s.mon.mem D<0
    ·rw[d (by rw[decide_eq_false om];simp)];clear y d g;go_simp;intro j;repeat'(first|((first|apply zd q|apply zd w);try go_simp)|with_reducible first|apply ai|intro)
     all_goals exact⟨[u0],dk,⟨OB,trivial⟩,rfl⟩
    ·obtain⟨n,B,al,F,U⟩:=ud (m:=s.mon.mem) (n:=D) om;obtain⟨h9,h8⟩:=zS.1 F;have W:n<z.length:=om;have Q:usB z (n:Int)=z[n]:=by unfold usB;rw[Int.toNat_natCast,zD,zE W];rfl
     have K:yZ s.mon.mem D=al:=wX B F;have V:decide (0<=(n:Int))=true:=decide_eq_true om;simp only[K,B,Q,Int.toNat_natCast,V,Bool.true_and,beq_self_eq_true] at g d;rw[B] at q;have h3:(n:Int)<u.length:=om;have h4:n<u.length:=om;have hc:=hx;clear Q S B F U K;generalize ha:z[n]=un at *;by_cases I:un=true
     ·subst I;rw[d sm];clear y g d;go_simp;intro j;repeat'(first|((first|apply zd q|apply zd w);try go_simp)|with_reducible first|apply ai|intro)
      all_goals exact⟨[u0],dk,⟨OB,trivial⟩,rfl⟩
     obtain rfl:un=false:=by simpa using I
     clear I;by_cases E:al.live=true
     ·by_cases o:(al.cells.length:Int)=zg t
      ·have Y:((al.cells.length:Int) != zg t)=false:=by simp[o]
       by_cases k:x5 s lt=true
       ·have H:(s.plain=true/\lt=0)\/(s.plain=false/\1<=lt/\lt<s.mon.ntag):=by
         unfold x5 at k;cases e:s.plain with
         |true=>rw[e] at k;simp at k;exact Or.inl ⟨rfl,k⟩
         |false=>rw[e] at k;simp at k;exact Or.inr ⟨rfl,k⟩
        have P:=(g (by rw[E,k,o];simp)).symm;clear y g d k o;rcases H with⟨p1,J⟩|⟨p1,J,p3⟩
        ·subst J;go_simp;intro j;repeat'(first|((first|apply zd q|apply zd w);try go_simp)|with_reducible first|apply ai|intro)
         ·exfalso;grind
         exact⟨i+1,z.set n true,⟨om,by rw[List.length_set];omega,P⟩,om,wrS om,by rw[List.map_set];rfl⟩
        ·have p4:¬lt<1:=om;have p5:¬s.mon.ntag<=lt:=om;go_simp;intro j;repeat'(first|((first|apply zd q|apply zd w);try go_simp)|with_reducible first|apply ai|intro)
         ·exfalso;grind
         exact⟨i+1,z.set n true,⟨om,by rw[List.length_set];omega,P⟩,om,wrS om,by rw[List.map_set];rfl⟩
       ·rw[d (by rw[show x5 s lt=false by simpa using k];simp)];have H:(s.plain=true/\¬lt=0)\/(s.plain=false/\(lt<1\/(¬lt<1/\s.mon.ntag<=lt))):=by
         unfold x5 at k;cases e:s.plain with
         |true=>rw[e] at k;simp at k;exact Or.inl ⟨rfl,k⟩
         |false=>rw[e] at k;simp at k;refine Or.inr ⟨rfl,?_⟩;omega
        clear y g d k o;rcases H with⟨p1,J⟩|⟨p1,J|⟨J,p3⟩⟩
        ·have p3:=z4 J;go_simp;intro j;repeat'(first|((first|apply zd q|apply zd w);try go_simp)|with_reducible first|apply ai|intro)
         all_goals exact⟨[u0],dk,⟨OB,trivial⟩,rfl⟩
        ·skip
         go_simp;intro j;repeat'(first|((first|apply zd q|apply zd w);try go_simp)|with_reducible first|apply ai|intro)
         all_goals exact⟨[u0],dk,⟨OB,trivial⟩,rfl⟩
        ·skip
         go_simp;intro j;repeat'(first|((first|apply zd q|apply zd w);try go_simp)|with_reducible first|apply ai|intro)
         all_goals exact⟨[u0],dk,⟨OB,trivial⟩,rfl⟩
      ·rw[d (by rw[decide_eq_false o];simp)];have Y:((al.cells.length:Int) != zg t)=true:=by simpa using o
       clear y g d o;go_simp;intro j;repeat'(first|((first|apply zd q|apply zd w);try go_simp)|with_reducible first|apply ai|intro)
       all_goals exact⟨[u0],dk,⟨OB,trivial⟩,rfl⟩
     ·rw[d (by rw[show al.live=false by simpa using E];simp)];have h2:al.live=false:=by simpa using E
      clear y g d;go_simp;intro j;repeat'(first|((first|apply zd q|apply zd w);try go_simp)|with_reducible first|apply ai|intro)
      all_goals exact⟨[u0],dk,⟨OB,trivial⟩,rfl⟩
   ·rw[d (by rw[show(lo==0)=false by simpa using A];simp)];have h7:=z4 A;clear y g d A;go_simp;intro j;repeat'(first|((first|apply zd q|apply zd w);try go_simp)|with_reducible first|apply ai|intro)
    all_goals exact⟨[u0],dk,⟨OB,trivial⟩,rfl⟩
  ·obtain rfl:i=x.locals.length:=om;have O:¬(x.locals.length:Int)<x.locals.length:=om;have hz:plG s (x.locals.drop x.locals.length) (f.locals.drop x.locals.length) z=(true,z):=by rw[List.drop_length];rfl
   rw[hz];go_simp;exact⟨[u0],dk,⟨OB,trivial⟩,rfl⟩
 ·have C:plU s f x u=(false,u):=by unfold plU;rw[if_neg r]
  rw[C];have hn:((x.locals.length:Int) != f.locals.length)=true:=by simp;omega
  refine eG [] func149 λX=>?_;go_simp;intro _ _ _;exact⟨[u0],dk,⟨OB,trivial⟩,rfl⟩
def tyC (p:Pr)(s:Sa)(t:Ty)(l:List Ce): Bool:=l.all (ceT p s t)
def tyQ (p:Pr)(s:Sa)(q:Po×Ty): Bool:=tyC p s q.2 (yZ s.mon.mem q.1.al).cells
def tyZ (p:Pr)(s:Sa)(l:List (Po×Ty)): Bool:=l.all (tyQ p s)
def tyR (p:Pr)(s:Sa)(x:Fm): Bool:=tyZ p s (x.locals.zip (yu p x.fn).locals)
def tyF (p:Pr)(s:Sa)(l:List Fm): Bool:=l.all (tyR p s)
def Vh (p:Pr)(s:Sa): qW p s=tyF p s s.frames:=rfl
def plB (s:Sa): Prop:=∀x∈s.frames,∀l∈x.locals,0<=atA s.mon.mem l.al
def Yo (p:Pr)(s:Sa)(M:z9 s)(hf:frB p s)(hp:plB s): zK 236 [p.a,s.a] (.bool (qW p s)):=by
 rw[Vh];have h7:=M.fr;have hA:=λq to=>jU p s q to M hf;refine eK [] func236 λX=>?_;go_simp;intro C D;refine lN [] (λi=>[(2,.ptr (.l 2) C 1 0 0),(3,.ptr (.l 3) D 10 0 0),(14,vFm_ s.frames),(15,iI s.frames.length),(16,iI i)]) (λi=>[(.l 2,⟨C,1,1,24,[Pr.c p],false⟩),(.l 3,⟨D,1,10,35,[Sa.c s],false⟩)]) (λi=>i<=s.frames.length/\∀x∈s.frames.take i,tyR p s x=true) (λi=>s.frames.length-i) 0 ?_
 rintro i ⟨hi,Y⟩;by_cases z:i<s.frames.length
 ·have hm:=λh=>zr Y z h;have d:=zM z;have B:tyR p s s.frames[i]=false->tyF p s s.frames=false:=λh=>wj d h;have hd:s.frames[i]?=some s.frames[i]:=zE z;obtain⟨⟨f1,f2⟩,Q⟩:=hf _ d;have T:=M.lo _ d;have J:=hp _ d;generalize F:s.frames[i]=x at *;obtain⟨fn,at_,call,locals⟩:=x;simp only at f1 f2 Q T J;obtain⟨m,rfl⟩:∃m:Nat,fn=m:=⟨fn.toNat,om⟩
  have V:m<p.funcs.length:=om;have h2:(m:Int)<p.funcs.length:=om;have r:yu p m=p.funcs[m]:=by unfold yu;rw[Int.toNat_natCast,zD,zE V];rfl
  have L:tyR p s ⟨m,at_,call,locals⟩=tyZ p s (locals.zip p.funcs[m].locals):=by rw[<-r];rfl
  rw[r] at Q;rw[L] at B hm;clear L r Y d;generalize h6:p.funcs[m]=f at *;have f4:locals.length<=f.locals.length:=om;have he:(locals.zip f.locals).length=locals.length:=by rw[List.length_zip];omega
  clear Q;go_simp;intro P;refine lN [] (λk=>[(2,.ptr (.l 2) C 1 0 0),(3,.ptr (.l 3) D 10 0 0),(14,vFm_ s.frames),(15,iI s.frames.length),(16,iI i),(6,.ptr (.l 6) P 4 0 0),(21,vPo_ locals),(22,iI locals.length),(23,iI k)]) (λk=>[(.l 2,⟨C,1,1,24,[Pr.c p],false⟩),(.l 3,⟨D,1,10,35,[Sa.c s],false⟩),(.l 6,⟨P,1,4,64,[Fm.c ⟨m,at_,call,locals⟩],false⟩)]) (λk=>k<=locals.length/\∀q∈(locals.zip f.locals).take k,tyQ p s q=true) (λk=>locals.length-k) 0 ?_
  rintro k ⟨hk,y⟩;by_cases H:k<locals.length
  ·have I:k<(locals.zip f.locals).length:=om;have h8:k<f.locals.length:=om;have h1:(k:Int)<f.locals.length:=om;have O:(locals.zip f.locals)[k]=(locals[k],f.locals[k]):=List.getElem_zip;have e:=λh=>zr y I h;have g:tyQ p s (locals.zip f.locals)[k]=false->tyZ p s (locals.zip f.locals)=false:=λh=>wj (zM I) h;have hle:locals[k]?=some locals[k]:=zE H;have hpl:=J _ (zM H);rw[O] at e g;clear O y;generalize h9:locals[k]=l at *;generalize hc:f.locals[k]=t at *;obtain⟨n,A,al,o,W⟩:=ud (m:=s.mon.mem) (n:=l.al) om;obtain⟨hb,ha⟩:=zS.1 o;have h3:(n:Int)<s.mon.mem.allocs.length:=om;have K:tyQ p s (l,t)=tyC p s t al.cells:=by unfold tyQ;rw[wX A o]
   have h5:=(M.mo.me.2 _ (zF o))
   rw[K] at e g;have hF:=n8 s.mon.mem l.al M.mo.me.1;rw[A] at hF;obtain⟨la,lo,lt⟩:=l;clear K A o W hpl;go_simp;intro b8 Z;repeat'(first|(apply zd hF;try go_simp)|with_reducible first|apply ai|intro)
   refine lN [] (λj=>[(2,.ptr (.l 2) C 1 0 0),(3,.ptr (.l 3) D 10 0 0),(14,vFm_ s.frames),(15,iI s.frames.length),(16,iI i),(6,.ptr (.l 6) P 4 0 0),(21,vPo_ locals),(22,iI locals.length),(23,iI k),(9,.ptr (.l 9) Z 2 0 0),(10,.bool (decide (3<=t.kind))),(53,vCe_ al.cells),(54,iI al.cells.length),(55,iI j)]) (λj=>[(.l 2,⟨C,1,1,24,[Pr.c p],false⟩),(.l 3,⟨D,1,10,35,[Sa.c s],false⟩),(.l 6,⟨P,1,4,64,[Fm.c ⟨m,at_,call,locals⟩],false⟩),(.l 9,⟨Z,1,2,141,[Ty.c t],false⟩)]) (λj=>j<=al.cells.length/\∀c∈al.cells.take j,ceT p s t c=true) (λj=>al.cells.length-j) 0 ?_
   rintro j ⟨hj,w⟩;go_simp;refine⟨λv=>⟨_,zE v,λh4=>?_⟩,λF=>?_⟩
   ·have S:=λh=>zr w v h;have G:ceT p s t al.cells[j]=false->tyC p s t al.cells=false:=λh=>wj (zM v) h;have hq:=hA al.cells[j].p t.to;generalize al.cells[j]=c at *;clear w;have E:ceT p s t c=(c.kind==0||((decide (3<=t.kind)==(c.kind==2))&&(decide (t.kind<3)||we p s c.p t.to))):=rfl;have hB:ceT p s t c=false->tyF p s s.frames=false:=λh=>B (g (G h));clear B g G hm e;generalize tyF p s s.frames=R at *;repeat'(first|(apply zd hq;try go_simp)|with_reducible first|apply ai|intro)
    all_goals first
     |exact hB (by rw[E];grind)
     |exact⟨j+1,⟨om,S (by rw[E];grind)⟩,om,wrS om⟩
     |trace_state
   ·have N:tyC p s t al.cells=true:=zA.2 (zx w F);exact⟨k+1,⟨om,λa b h=>e N (a,b) h⟩,om,wrS om⟩
  ·have N:tyZ p s (locals.zip f.locals)=true:=zA.2 (zx y om);have U:=hm N;clear hm;go_simp;exact⟨i+1,⟨om,U⟩,om,wrS om⟩
 ·have N:tyF p s s.frames=true:=zA.2 (zx Y om);rw[N];go_simp
def Lx (s:Sa): Prop:=∀a∈s.mon.mem.allocs,∀c∈a.cells,c.kind=2->0<=c.p.off/\c.p.off<=2
def We (p:Pr)(s:Sa)(S:z9 s)(hf:frB p s)(hp:plB s)(h3:Lx s): zK 151 [p.a,s.a] (.bool (qW p s)):=by
 rw[Vh];have hb:=S.fr;have hA:=λq to h=>UB p s q to S hf h;refine eK [] func151 λX=>?_;go_simp;intro D E;refine lN [] (λi=>[(2,.ptr (.l 2) D 1 0 0),(3,.ptr (.l 3) E 10 0 0),(5,iI i)]) (λi=>[(.l 2,⟨D,1,1,24,[Pr.c p],false⟩),(.l 3,⟨E,1,10,35,[Sa.c s],false⟩)]) (λi=>i<=s.frames.length/\∀x∈s.frames.take i,tyR p s x=true) (λi=>s.frames.length-i) 0 ?_
 rintro i ⟨hi,ho⟩;by_cases A:i<s.frames.length
 ·have M:(i:Int)<s.frames.length:=om;have hm:=λh=>zr ho A h;have e:=zM A;have C:tyR p s s.frames[i]=false->tyF p s s.frames=false:=λh=>wj e h;have hr:s.frames[i]?=some s.frames[i]:=zE A;obtain⟨⟨f1,f2⟩,W⟩:=hf _ e;have Y:=S.lo _ e;have O:=hp _ e;generalize F:s.frames[i]=x at *;obtain⟨fn,at_,call,locals⟩:=x;simp only at f1 f2 W Y O;obtain⟨m,rfl⟩:∃m:Nat,fn=m:=⟨fn.toNat,om⟩
  have h1:m<p.funcs.length:=om;have h6:(m:Int)<p.funcs.length:=om;have w:yu p m=p.funcs[m]:=by unfold yu;rw[Int.toNat_natCast,zD,zE h1];rfl
  have Q:tyR p s ⟨m,at_,call,locals⟩=tyZ p s (locals.zip p.funcs[m].locals):=by rw[<-w];rfl
  rw[w] at W;rw[Q] at C hm;clear Q w ho e;generalize ha:p.funcs[m]=f at *;have f4:locals.length<=f.locals.length:=om;have ht:(locals.zip f.locals).length=locals.length:=by rw[List.length_zip];omega
  clear W;go_simp;intro V;refine lN [] (λk=>[(2,.ptr (.l 2) D 1 0 0),(3,.ptr (.l 3) E 10 0 0),(5,iI i),(6,.ptr (.l 6) V 4 0 0),(7,iI k)]) (λk=>[(.l 2,⟨D,1,1,24,[Pr.c p],false⟩),(.l 3,⟨E,1,10,35,[Sa.c s],false⟩),(.l 6,⟨V,1,4,64,[Fm.c ⟨m,at_,call,locals⟩],false⟩)]) (λk=>k<=locals.length/\∀q∈(locals.zip f.locals).take k,tyQ p s q=true) (λk=>locals.length-k) 0 ?_
  rintro k ⟨hk,z⟩;by_cases J:k<locals.length
  ·have K:(k:Int)<locals.length:=om;have L:k<(locals.zip f.locals).length:=om;have hd:k<f.locals.length:=om;have h5:(k:Int)<f.locals.length:=om;have U:(locals.zip f.locals)[k]=(locals[k],f.locals[k]):=List.getElem_zip;have r:=λh=>zr z L h;have v:tyQ p s (locals.zip f.locals)[k]=false->tyZ p s (locals.zip f.locals)=false:=λh=>wj (zM L) h;have hle:locals[k]?=some locals[k]:=zE J;have hpl:=O _ (zM J);rw[U] at r v;clear U z;generalize he:locals[k]=l at *;generalize hn:f.locals[k]=t at *;obtain⟨n,B,al,d,h2⟩:=ud (m:=s.mon.mem) (n:=l.al) om;obtain⟨hl,hg⟩:=zS.1 d;have h7:(n:Int)<s.mon.mem.allocs.length:=om;have P:tyQ p s (l,t)=tyC p s t al.cells:=by unfold tyQ;rw[wX B d]
   have h9:=(S.mo.me.2 _ (zF d))
   rw[P] at r v;have N:=h3 _ (zF d);have hF:=ZD s.mon.mem l.al S.mo.me.1;rw[B] at hF;obtain⟨la,lo,lt⟩:=l;clear P B d h2 hpl;go_simp;intro b8;repeat'(first|(apply zd hF;try go_simp)|with_reducible first|apply ai|intro)
   refine lN [] (λj=>[(2,.ptr (.l 2) D 1 0 0),(3,.ptr (.l 3) E 10 0 0),(5,iI i),(6,.ptr (.l 6) V 4 0 0),(7,iI k),(8,.ptr (.l 8) b8 2 0 0),(9,vCe_ al.cells),(10,iI j)]) (λj=>[(.l 2,⟨D,1,1,24,[Pr.c p],false⟩),(.l 3,⟨E,1,10,35,[Sa.c s],false⟩),(.l 6,⟨V,1,4,64,[Fm.c ⟨m,at_,call,locals⟩],false⟩),(.l 8,⟨b8,1,2,141,[Ty.c t],false⟩)]) (λj=>j<=al.cells.length/\∀c∈al.cells.take j,ceT p s t c=true) (λj=>al.cells.length-j) 0 ?_
   rintro j ⟨hj,y⟩;go_simp;refine⟨λo=>⟨_,zE o,?_⟩,λF=>?_⟩
   ·have G:=λh=>zr y o h;have H:ceT p s t al.cells[j]=false->tyC p s t al.cells=false:=λh=>wj (zM o) h;have hq:=λh:al.cells[j].kind=2=>hA al.cells[j].p t.to (N _ (zM o) h);have hP:=qI t;generalize h8:al.cells[j]=c at *;clear y;have g:ceT p s t c=(c.kind==0||((decide (3<=t.kind)==(c.kind==2))&&(decide (t.kind<3)||we p s c.p t.to))):=rfl;have hB:ceT p s t c=false->tyF p s s.frames=false:=λh=>C (v (H h));clear C v H hm r;generalize tyF p s s.frames=R at *;by_cases I:c.kind=2
    ·have h4:=hq I;clear hq;repeat'(first|((first|apply zd hP|apply zd h4);try go_simp)|with_reducible first|apply ai|intro)
     all_goals first
      |exact hB (by rw[g];grind)
      |exact⟨j+1,⟨om,G (by rw[g];grind)⟩,om,wrS om⟩
      |trace_state
    ·clear hq;have hc:(c.kind==2)=false:=by simpa using I
     repeat'(first|(apply zd hP;try go_simp)|with_reducible first|apply ai|intro)
     all_goals first
      |exact hB (by rw[g];grind)
      |exact⟨j+1,⟨om,G (by rw[g];grind)⟩,om,wrS om⟩
      |trace_state
   ·have T:tyC p s t al.cells=true:=zA.2 (zx y F);exact⟨k+1,⟨om,λa b h=>r T (a,b) h⟩,om,wrS om⟩
  ·have K:¬(k:Int)<locals.length:=om;have T:tyZ p s (locals.zip f.locals)=true:=zA.2 (zx z om);have Z:=hm T;clear hm;go_simp;exact⟨i+1,⟨om,Z⟩,om,wrS om⟩
 ·have M:¬(i:Int)<s.frames.length:=om;have T:tyF p s s.frames=true:=zA.2 (zx ho om);rw[T];go_simp
def mT (p:Pr)(s:Sa)(t:Ty)(c:Ce): Bool:=!(c.kind==uQ t)||!(wa c==0)||(c.kind==2&&!we p s c.p t.to)
def N2{t:Ty}{l:List Ce}: xh p s t l=(decide ((l.length:Int)=zg t)&&!l.any (mT p s t)):=by
 have e:∀c:Ce,mT p s t c = !((c.kind==uQ t)&&(xg c&&(decide (t.kind<3)||we p s c.p t.to))):=λc=>by
  have b:(wa c==0)=xg c:=by unfold wa;cases xg c<;>rfl
  unfold mT uQ;rw[b];by_cases k:t.kind<3
  ·rw[if_pos k,decide_eq_true k];by_cases j:c.kind=1
   ·rw[j];cases xg c<;>rfl
   ·rw[show(c.kind==1)=false by simpa using j];rfl
  ·rw[if_neg k,decide_eq_false k];by_cases j:c.kind=2
   ·rw[j];cases xg c<;>cases we p s c.p t.to<;>rfl
   ·rw[show(c.kind==2)=false by simpa using j];rfl
 unfold xh um;rw[Bool.and_assoc];congr 1
 rw[Bool.eq_iff_iff];simp only[zB,zA,Bool.not_eq_true',zI,e,Bool.not_eq_true,Bool.not_eq_false',Bool.not_eq_false];constructor
 ·rintro⟨d,b⟩ c a;have:=d c a;have:=b c a
  simp_all
 ·intro h;refine⟨λc a=>?_,λc a=>?_⟩
  ·have:=h c a;simp_all
  ·have:=h c a;simp_all
def Ly (p:Pr)(s:Sa)(t:Ty)(l:List Ce): Bool:=l.any (mT p s t)
def Wf (p:Pr)(s:Sa)(t:Ty)(l:List Ce)(r:z9 s)(q:frB p s)(h:yE t=true)(hl:l.length<1000000): zK 173 [p.a,s.a,t.a,vCe_ l] (.bool (xh p s t l)):=by
 have j:yF 254 [.rp [iU (uQ t)],.rp (Pr.c p),.rp (Sa.c s),.rp (Ty.c t)] Ce.a (mT p s t) l:=⟨by go_simp,λc y=>by
  have m:=jU p s c.p t.to r q;have n:=vL c;have hb:mT p s t c=(!(c.kind==uQ t)||!(wa c==0)||(c.kind==2&&!we p s c.p t.to)):=rfl;rw[hb];clear hb;obtain⟨ck,w,x⟩:=c;refine eK [] func254 λX=>?_;go_simp;repeat'(first|((first|apply zd n|apply zd m);try go_simp)|with_reducible first|apply ai|intro)
  all_goals first|assumption|(simp_all;done)|grind⟩
 have g:=vD t h;have b:=qg j hl;rw[N2];have e:l.any (mT p s t)=Ly p s t l:=rfl;rw[e] at b ⊢;have f:uQ t=if t.kind=1\/t.kind=2 then 1 else 2:=by unfold uQ;unfold yE at h;simp at h;grind
 generalize Ly p s t l=A at *;clear j e h;by_cases d:(l.length:Int)=zg t
 ·have i:((l.length:Int) != zg t)=false:=by simp[d]
  rw[decide_eq_true d,Bool.true_and];clear d;obtain⟨k,o⟩:=t;rw[f] at b;clear f;by_cases k1:k=1
  ·subst k1;rw[if_pos (Or.inl rfl)] at b;refine eK [6] func173 λX=>?_;go_simp;repeat'(first|(apply zd g;try go_simp)|with_reducible first|apply ai|intro)
   refine z5 [.l 9] 9 (SV.ptr rfl rfl rfl rfl sm rfl) ?_;refine z5 [.l 4] 4 (SV.ptr rfl rfl rfl rfl sm rfl) ?_;refine z5 [.l 5] 5 (SV.ptr rfl rfl rfl rfl sm rfl) ?_;refine z5 [.l 6] 6 (SV.ptr rfl rfl rfl rfl sm rfl) ?_;refine aO [] ?_;go_simp;repeat'(first|(apply zd b;try go_simp)|with_reducible first|apply ai|intro)
  ·by_cases v:k=2
   ·subst v;rw[if_pos (Or.inr rfl)] at b;clear k1;refine eK [6] func173 λX=>?_;go_simp;repeat'(first|(apply zd g;try go_simp)|with_reducible first|apply ai|intro)
    refine z5 [.l 9] 9 (SV.ptr rfl rfl rfl rfl sm rfl) ?_;refine z5 [.l 4] 4 (SV.ptr rfl rfl rfl rfl sm rfl) ?_;refine z5 [.l 5] 5 (SV.ptr rfl rfl rfl rfl sm rfl) ?_;refine z5 [.l 6] 6 (SV.ptr rfl rfl rfl rfl sm rfl) ?_;refine aO [] ?_;go_simp;repeat'(first|(apply zd b;try go_simp)|with_reducible first|apply ai|intro)
   ·rw[if_neg (by simp only;omega)] at b;refine eK [6] func173 λX=>?_;go_simp;repeat'(first|(apply zd g;try go_simp)|with_reducible first|apply ai|intro)
    refine z5 [.l 9] 9 (SV.ptr rfl rfl rfl rfl sm rfl) ?_;refine z5 [.l 4] 4 (SV.ptr rfl rfl rfl rfl sm rfl) ?_;refine z5 [.l 5] 5 (SV.ptr rfl rfl rfl rfl sm rfl) ?_;refine z5 [.l 6] 6 (SV.ptr rfl rfl rfl rfl sm rfl) ?_;refine aO [] ?_;go_simp;repeat'(first|(apply zd b;try go_simp)|with_reducible first|apply ai|intro)
 ·have i:((l.length:Int) != zg t)=true:=by simpa using d
  rw[decide_eq_false d,Bool.false_and];clear d;obtain⟨k,o⟩:=t;refine eK [6] func173 λX=>?_;go_simp;repeat'(first|(apply zd g;try go_simp)|with_reducible first|apply ai|intro)
def Ek (m:Mo)(p:Po)(n:Int)(b:MoV m): zK 256 [p.a,iI n,.rp (Mo.c m)] (.tup [(mLd m p n).1.a,.vec 5 ((mLd m p n).2.1.map Ce.c),iU (mLd m p n).2.2.1,iI (mLd m p n).2.2.2]):=by
 have h:=ZJ m p n b;generalize mLd m p n=r at *;obtain⟨d,e,f,g⟩:=r;refine eK [] func256 λX=>?_;go_simp;repeat'(first|(apply zd h;try go_simp)|with_reducible first|apply ai|intro)
def Lz (m:Mo)(p:Po)(l:List Ce)(b:MoV m)(hl:l.length<1000000): zK 258 [p.a,vCe_ l,.rp (Mo.c m)] (.tup [(mSt m p l).1.a,iU (mSt m p l).2.1,iI (mSt m p l).2.2]):=by
 have h:=bu m p l b hl;generalize mSt m p l=r at *;obtain⟨d,e,f⟩:=r;refine eK [] func258 λX=>?_;go_simp;repeat'(first|(apply zd h;try go_simp)|with_reducible first|apply ai|intro)
def El (m:Mo)(p:Po)(n kind call:Int)(d:MoV m)(b:0<=kind): zK 260 [p.a,iI n,iU kind,iI call,.rp (Mo.c m)] (.tup [(mRt m p n kind call).1.a,(mRt m p n kind call).2.1.a,iU (mRt m p n kind call).2.2.1,iI (mRt m p n kind call).2.2.2]):=by
 have h:=bv m p n kind call d b;generalize mRt m p n kind call=r at *;obtain⟨e,f,g,i⟩:=r;refine eK [] func260 λX=>?_;go_simp;repeat'(first|(apply zd h;try go_simp)|with_reducible first|apply ai|intro)
def Q4 (m:Mo)(size:Int)(b:MoV m): zK 262 [iI size,.rp (Mo.c m)] (.tup [(mAl m size).1.a,(mAl m size).2.1.a,iI (mAl m size).2.2]):=by
 have h:=bx m size b;generalize mAl m size=r at *;obtain⟨d,e,f⟩:=r;refine eK [] func262 λX=>?_;go_simp;repeat'(first|(apply zd h;try go_simp)|with_reducible first|apply ai|intro)
def Em (m:Mo)(b:MoV m): zK 266 [.rp (Mo.c m)] (.tup [(mEn m).1.a,iI (mEn m).2.1,iI (mEn m).2.2]):=by
 have h:=lu m b;generalize mEn m=r at *;obtain⟨d,e,f⟩:=r;refine eK [] func266 λX=>?_;go_simp;repeat'(first|(apply zd h;try go_simp)|with_reducible first|apply ai|intro)
def En (m:Mo)(b:MoV m): zK 267 [.rp (Mo.c m)] (.tup [(mLv m).1.a,iI (mLv m).2]):=by
 have h:=lw m b;generalize mLv m=r at *;obtain⟨d,e⟩:=r;refine eK [] func267 λX=>?_;go_simp;repeat'(first|(apply zd h;try go_simp)|with_reducible first|apply ai|intro)
def Q5 (x:Me): zK 268 [x.a] (Mo.a ⟨x,[],[],0,0⟩):=by
 obtain⟨l,n⟩:=x;refine eK [] func268 λX=>?_;go_simp;repeat'(first|with_reducible first|apply ai|intro)
def Eo (m:Mo)(p:Po)(n:Int)(b:wfA m.mem): zK 269 [p.a,iI n,.rp (Mo.c m)] (.tup [m.a,vCe_ (ldL m.mem p n),iU (ldW m.mem p n),iI (fdE m.mem p n)]):=by
 have h:=su m.mem p n b;refine eK [] func269 λX=>?_;go_simp;repeat'(first|(apply zd h;try go_simp)|with_reducible first|apply ai|intro)
def Ps (m:Mo)(p:Po)(l:List Ce)(e:wfA m.mem)(hl:l.length<1000000): zK 271 [p.a,vCe_ l,.rp (Mo.c m),.rp [.fn 268 []]] (.tup [Mo.a ⟨stM m.mem p l,[],[],0,0⟩,iU (stW m.mem p l),iI (stE m.mem p l)]):=by
 have h:=nN m.mem p l e hl;have b:=Q5 (stM m.mem p l);generalize stM m.mem p l=x at *;have d:vQ Tryz.prog 268:=by go_simp
 refine eK [] func271 λX=>?_;go_simp;repeat'(first|((first|apply zd h|apply zd b);try go_simp)|with_reducible first|apply ai|intro)
def I2 (m:Mo)(p:Po)(n kind call:Int)(b:wfA m.mem): zK 273 [p.a,iI n,iU kind,iI call,.rp (Mo.c m)] (.tup [m.a,Po.a ⟨p.al,p.off,0⟩,iU (if ldW m.mem p n=4 then 0 else ldW m.mem p n),iI (fdE m.mem p n)]):=by
 have h:=su m.mem p n b;refine eK [5] func273 λX=>?_;go_simp;repeat'(first|(apply zd h;try go_simp)|with_reducible first|apply ai|intro)
 all_goals(refine vo hP ⟨[(5,.l 5,0),(9,.l 9,0),(10,.l 10,0)],false⟩ [4] dk ?_;go_simp)
def UC (m:Mo)(size:Int)(e:wfA m.mem): zK 274 [iI size,.rp (Mo.c m),.rp [.fn 268 []]] (.tup [Mo.a ⟨wz m.mem size,[],[],0,0⟩,Po.a ⟨uJ m.mem size,0,0⟩,iI (wy m.mem size)]):=by
 have h:=gS m.mem size e;have b:=Q5 (wz m.mem size);generalize wz m.mem size=x at *;have d:vQ Tryz.prog 268:=by go_simp
 refine eK [] func274 λX=>?_;go_simp;repeat'(first|((first|apply zd h|apply zd b);try go_simp)|with_reducible first|apply ai|intro)
def I3 (m:Mo): zK 278 [.rp (Mo.c m)] (.tup [m.a,iI 0,iI 0]):=by
 refine eK [] func278 λX=>?_;go_simp
def I4 (m:Mo): zK 279 [.rp (Mo.c m)] (.tup [m.a,iI 0]):=by
 refine eK [] func279 λX=>?_;go_simp
def Ep (m:Mo)(n:Int)(f:MoV m): zK 264 [iI n,.rp (Mo.c m)] (if ¬(mEd m n).2.2=0\/¬(mEd m n).2.1=0 then .tup [(mEd m n).1.a,iU (mEd m n).2.1,iI (mEd m n).2.2] else .tup [(mFg (mEd m n).1).a,iU 0,iI 0]):=by
 have h:=n5 m n f;have e:(mEd m n).2.1=0->(mEd m n).2.2=0->MoV (mEd m n).1:=λi b=>(am f i b).1;generalize mEd m n=r at *;obtain⟨g,l,o⟩:=r;simp only at e ⊢;by_cases d:o=0
 ·by_cases b:l=0
  ·have k:=d8 g (e b d);rw[if_neg (by simp[b,d])];subst b d;generalize mFg g=x at *;refine eK [] func264 λX=>?_;go_simp;repeat'(first|((first|apply zd h|apply zd k);try go_simp)|with_reducible first|apply ai|intro)
  ·rw[if_pos (Or.inr b)];have j:=z4 b;subst d;refine eK [] func264 λX=>?_;go_simp;repeat'(first|(apply zd h;try go_simp)|with_reducible first|apply ai|intro)
 ·rw[if_pos (Or.inl d)];have j:=z4 d;refine eK [] func264 λX=>?_;go_simp;repeat'(first|(apply zd h;try go_simp)|with_reducible first|apply ai|intro)
def I5 (m:Mo)(n:Int)(k:wfA m.mem): zK 276 [iI n,.rp (Mo.c m),.rp [.fn 268 []]] (.tup [if yV m.mem n=0 then Mo.a ⟨fgM (xP m.mem n),[],[],0,0⟩ else m.a,iU 0,iI (yV m.mem n)]):=by
 have h:=mB m.mem n k;have j:vQ Tryz.prog 268:=by go_simp
 by_cases d:yV m.mem n=0
 ·rw[if_pos d];have b:=ke d;have e:yq (xP m.mem n)=0/\wfA (xP m.mem n):=⟨og.2 b,by have:=b.len;omega,λa i=>by have:=(b.al a i).c2;omega⟩
  have f:=lp (xP m.mem n) e.2;rw[e.1] at f;rw[d] at h ⊢;have g:=Q5 (fgM (xP m.mem n));clear e b;generalize fgM (xP m.mem n)=y at *;generalize xP m.mem n=x at *;refine eK [] func276 λX=>?_;go_simp;repeat'(first|((first|apply zd h|apply zd f|apply zd g);try go_simp)|with_reducible first|apply ai|intro)
 ·rw[if_neg d];have l:=z4 d;refine eK [] func276 λX=>?_;go_simp;repeat'(first|(apply zd h;try go_simp)|with_reducible first|apply ai|intro)
def ofF (s:Sa): List AV:=if s.plain then
    [.fn 269 [.rp (Mo.c s.mon)],.fn 271 [.rp (Mo.c s.mon),.rp [.fn 268 []]],.fn 273 [.rp (Mo.c s.mon)],.fn 274 [.rp (Mo.c s.mon),.rp [.fn 268 []]],
     .fn 276 [.rp (Mo.c s.mon),.rp [.fn 268 []]],.fn 278 [.rp (Mo.c s.mon)],.fn 279 [.rp (Mo.c s.mon)]]
  else [.fn 256 [.rp (Mo.c s.mon)],.fn 258 [.rp (Mo.c s.mon)],.fn 260 [.rp (Mo.c s.mon)],.fn 262 [.rp (Mo.c s.mon)],.fn 264 [.rp (Mo.c s.mon)],.fn 266 [.rp (Mo.c s.mon)],.fn 267 [.rp (Mo.c s.mon)]]
def wY (s:Sa): zK 176 [s.a] (.agg (ofF s)):=by
  cases hp:s.plain with
  |false =>
    have e:ofF s = [.fn 256 [.rp (Mo.c s.mon)],.fn 258 [.rp (Mo.c s.mon)],.fn 260 [.rp (Mo.c s.mon)],.fn 262 [.rp (Mo.c s.mon)],.fn 264 [.rp (Mo.c s.mon)],.fn 266 [.rp (Mo.c s.mon)],.fn 267 [.rp (Mo.c s.mon)]]:=by unfold ofF;rw[hp];rfl
    rw[e];refine eK [3] func176 λX=>?_;go_simp;intro b d f;refine z5 [.l 3] 3 (SV.ptr rfl rfl rfl rfl sm rfl) ?_;refine aO [] ?_;go_simp
  |true =>
    have e:ofF s = [.fn 269 [.rp (Mo.c s.mon)],.fn 271 [.rp (Mo.c s.mon),.rp [.fn 268 []]],.fn 273 [.rp (Mo.c s.mon)],.fn 274 [.rp (Mo.c s.mon),.rp [.fn 268 []]],
     .fn 276 [.rp (Mo.c s.mon),.rp [.fn 268 []]],.fn 278 [.rp (Mo.c s.mon)],.fn 279 [.rp (Mo.c s.mon)]]:=by unfold ofF;rw[hp];rfl
    rw[e];refine eK [5] func176 λX=>?_;go_simp;intro b d f g;refine z5 [.l 3] 3 (SV.ptr rfl rfl rfl rfl sm rfl) ?_;refine z5 [.l 4] 4 (SV.ptr rfl rfl rfl rfl sm rfl) ?_;refine aO [] ?_;go_simp
def vV (a b:List Int): Bool:=decide (a=b)
def dI (a b:List Int)(hl:a.length<1000000): zK 72 [vCi_ a,vCi_ b] (.bool (vV a b)):=by
 by_cases hn:a.length=b.length
 ·have m:((a.length:Int) != b.length)=false:=by simp;omega
  have t:a.length<=b.length:=om;have v:b.length<=a.length:=om;clear hn;refine eK [] func72 λX=>?_;go_simp;refine lN [] (λi=>[(0,vCi_ a),(1,vCi_ b),(5,iI i)]) (λi=>[]) (λi=>i<=a.length/\∀k (h:k<i)(d:k<a.length) (hb:k<b.length),a[k]=b[k]) (λi=>a.length-i) 0 ?_ (h0:=⟨Nat.zero_le _,λk h=>absurd h om⟩)
  rintro i ⟨hi,j⟩;by_cases q:i<a.length
  ·have g:(i:Int)<a.length:=om;have hb:i<b.length:=om;have o:(i:Int)<b.length:=om;by_cases f:a[i]=b[i]
   ·have l:(a[i] != b[i])=false:=by simpa using f
    have n:∀k (h:k<i+1)(d:k<a.length) (hb:k<b.length),a[k]=b[k]:=λk h d hb=>by
     rcases Nat.lt_or_ge k i with c|c
     ·exact j k c d hb
     ·obtain rfl:k=i:=om;exact f
    clear j f;generalize hx:a[i]=x at *;generalize r:b[i]=y at *;go_simp;exact⟨i+1,⟨om,λk h d hb=>n k h d hb⟩,om,wrS om⟩
   ·have l:(a[i] != b[i])=true:=by simpa using f
    have hs:vV a b=false:=decide_eq_false λe=>f (by subst e;rfl);clear j;generalize hx:a[i]=x at *;generalize r:b[i]=y at *;go_simp
  ·have g:¬(i:Int)<a.length:=om;have hs:vV a b=true:=decide_eq_true (List.ext_getElem om λk d hb=>j k om d hb);clear j;go_simp
 ·have m:((a.length:Int) != b.length)=true:=by simp;omega
  have hs:vV a b=false:=decide_eq_false λe=>hn (by rw[e]);refine eK [] func72 λX=>?_;go_simp;all_goals simp[*]
def rm (p:Pr)(x:Fm): List Fm->Bool
 |[]=>true
 |y::_=>yW (yu p x.fn).blocks x.at_ y.fn
def fmH (p:Pr)(s:Sa)(x:Fm): Bool:=decide (0<=x.fn/\x.fn<p.funcs.length)&&decide (0<=x.at_/\x.at_<u9 (yu p x.fn))&&!(s.plain&&!(x.call==0))
def vaG (p:Pr)(s:Sa): List Fm->List Bool->Option (List Bool)
 |[],u=>some u
 |x::l,u=>if(fmH p s x&&(plU s (yu p x.fn) x u).1&&rm p x l)=true then vaG p s l (plU s (yu p x.fn) x u).2 else none
structure Mk (s:Sa)(S:List Int)(u:List Bool): Prop where
 len:u.length=s.mon.mem.allocs.length
 on:∀k:Nat,u[k]?=some true↔k<u.length/\∃a∈S,atA s.mon.mem a=k
def Vi {m:Me}{a b:Int}(h:0<=atA m a)(e:atA m a=atA m b): a=b:=by
 obtain⟨k,f,x,hx,hn⟩:=ud (m:=m) (n:=a) om;obtain⟨j,d,y,c,hm⟩:=ud (m:=m) (n:=b) om;have:k=j:=om
 subst this;rw[hx] at c;injection c with c;subst c;omega
def Pu {s:Sa}: ∀ {ls:List Po} {ts:List Ty} {S:List Int} {u:List Bool},ls.length=ts.length->Mk s S u ->
  ((plG s ls ts u).1=true↔((ls.zip ts).all (λq=>sJ s q.1 q.2)=true/\(ls.map Po.al).Nodup/\∀l∈ls,l.al∉S))/\((plG s ls ts u).1=true->Mk s (ls.map Po.al++S) (plG s ls ts u).2)
 |[],[],S,u,_,hM=>⟨by simp[plG],λ_=>by simpa[plG] using hM⟩
 |[],_::_,_,_,h,_=>by simp at h
 |_::_,[],_,_,h,_=>by simp at h
 |l::ls,t::ts,S,u,hl,hM=>by
  by_cases g:sJ s l t=true
  ·have H:0<=atA s.mon.mem l.al:=by
    unfold sJ at g;simp only[zB,zL] at g;exact g.1.1.1.1
   obtain⟨k,w,x,hx,hn⟩:=ud (m:=s.mon.mem) (n:=l.al) om;have i:k<u.length:=by rw[hM.len];exact(zS.1 hx).1
   have y:usB u (atA s.mon.mem l.al)=u[k]:=by unfold usB;rw[w,Int.toNat_natCast,zD,zE i];rfl
   have v:u[k]=true↔l.al∈S:=by
    have:=hM.on k
    rw[zE i] at this;constructor
    ·intro h;obtain⟨_,a,I,e⟩:=this.1 (by rw[h]);have:=Vi (b:=a) H (by rw[w,e])
     rw[this];exact I
    ·intro h;have:=this.2 ⟨i,l.al,h,w⟩
     injection this
   by_cases z:u[k]=true
   ·have e:plG s (l::ls) (t::ts) u=(false,u):=kx (by rw[y,z,g];rfl);rw[e];refine⟨⟨λh=>by simp at h,fun ⟨_,_,h⟩=>absurd (v.1 z) (h l sm)⟩,λh=>by simp at h⟩
   ·have B:u[k]=false:=by simpa using z
    have e:plG s (l::ls) (t::ts) u=plG s ls ts (u.set k true):=by
     have:=dH (s:=s) (l:=l) (ls:=ls) (t:=t) (ts:=ts) (u:=u) (by rw[y,B,g];rfl)
     rw[this,w,Int.toNat_natCast]
    have A:Mk s (l.al::S) (u.set k true):=by
     refine⟨by rw[List.length_set];exact hM.len,λj=>?_⟩;rw[List.getElem?_set,List.length_set];have J:=hM.on j;by_cases D:k=j
     ·subst D;rw[if_pos rfl,if_pos i];exact⟨λ_=>⟨i,l.al,sm,w⟩,λ_=>rfl⟩
     ·rw[if_neg D,J];constructor
      ·rintro⟨o,a,d,r⟩;exact⟨o,a,by simp[d],r⟩
      ·rintro⟨o,a,d,r⟩;refine⟨o,a,?_,r⟩;rcases List.mem_cons.1 d with rfl|d
       ·exfalso;omega
       ·exact d
    obtain⟨K,L⟩:=Pu (ls:=ls) (ts:=ts) (by simpa using hl) A;rw[e];constructor
    ·rw[K];simp only[List.zip_cons_cons,List.all_cons,g,Bool.true_and,List.map_cons,List.nodup_cons,List.mem_cons];have C:l.al∉S:=λh=>z (v.2 h);constructor
     ·rintro⟨a,b,c⟩;refine⟨a,⟨λh=>?_,b⟩,λl' f=>?_⟩
      ·obtain⟨l',f,G⟩:=List.mem_map.1 h;exact(c l' f) (Or.inl G)
      ·rcases f with rfl|f
       ·exact C
       ·exact λh=>(c l' f) (Or.inr h)
     ·rintro⟨a,⟨E,F⟩,c⟩;refine⟨a,F,λl' f h=>?_⟩;rcases h with h|h
      ·exact E (List.mem_map.2 ⟨l',f,h⟩)
      ·exact c l' (Or.inr f) h
    ·intro h;have:=L h
     refine⟨this.len,λj=>?_⟩;rw[this.on j];constructor
     ·rintro⟨o,a,d,r⟩;refine⟨o,a,?_,r⟩;simp only[zJ,List.mem_cons,List.map_cons] at d ⊢;rcases d with d|d|d
      ·exact Or.inl (Or.inr d)
      ·exact Or.inl (Or.inl d)
      ·exact Or.inr d
     ·rintro⟨o,a,d,r⟩;refine⟨o,a,?_,r⟩;simp only[zJ,List.mem_cons,List.map_cons] at d ⊢;rcases d with(d|d)|d
      ·exact Or.inr (Or.inl d)
      ·exact Or.inl d
      ·exact Or.inr (Or.inr d)
  ·have e:plG s (l::ls) (t::ts) u=(false,u):=kx (by rw[show sJ s l t=false by simpa using g];rfl);rw[e];refine⟨⟨λh=>by simp at h,fun ⟨h,_⟩=>?_⟩,λh=>by simp at h⟩;simp only[List.zip_cons_cons,List.all_cons,zB] at h;exact absurd h.1 g
def I6{x:Fm}{S:List Int}(a:Mk s S u):
  ((plU s (yu p x.fn) x u).1=true↔(jx p s x=true/\(x.locals.map Po.al).Nodup/\∀l∈x.locals,l.al∉S))/\((plU s (yu p x.fn) x u).1=true->Mk s (x.locals.map Po.al++S) (plU s (yu p x.fn) x u).2):=by
 unfold plU jx;by_cases h:x.locals.length=(yu p x.fn).locals.length
 ·rw[if_pos h,decide_eq_true h,Bool.true_and];exact Pu h a
 ·rw[if_neg h,decide_eq_false h];simp
def mU{x:Fm}{l:List Fm}: sw p (x::l)=(rm p x l&&sw p l):=by
 cases l with
 |nil=>rfl
 |cons y l=>rfl
def Yp{x:Fm}: iG p s x=(fmH p s x&&jx p s x):=by
 unfold iG fmH;cases jx p s x<;>simp[Bool.and_comm,Bool.and_assoc]
def ax {p:Pr}{s:Sa}: ∀ {fs:List Fm} {S:List Int} {u:List Bool},Mk s S u ->
  ((vaG p s fs u).isSome=true↔(fs.all (iG p s)=true/\sw p fs=true/\(fs.flatMap λx=>x.locals.map Po.al).Nodup/\∀a∈(fs.flatMap λx=>x.locals.map Po.al),a∉S)) /\
  (∀v,vaG p s fs u=some v->v.length=u.length/\∀k:Nat,v[k]?=some true↔k<v.length/\∃a,(a∈(fs.flatMap λx=>x.locals.map Po.al)\/a∈S)/\atA s.mon.mem a=k)
 |[],S,u,hM=>⟨by simp[vaG,sw],λv h=>by
   have:u=v:=by simpa[vaG] using h
   subst this;refine⟨rfl,λk=>?_⟩;rw[hM.on k];simp⟩
 |x::l,S,u,hM=>by
  obtain⟨t,L⟩:=I6 (p:=p) (x:=x) hM;have i:vaG p s (x::l) u=if(fmH p s x&&(plU s (yu p x.fn) x u).1&&rm p x l)=true then vaG p s l (plU s (yu p x.fn) x u).2 else none:=rfl;rw[i];by_cases m:(fmH p s x&&(plU s (yu p x.fn) x u).1&&rm p x l)=true
  ·rw[if_pos m];simp only[zB] at m;obtain⟨⟨c1,c2⟩,w⟩:=m;obtain⟨A,B,C⟩:=t.1 c2;have j:=L c2;obtain⟨F,G⟩:=ax (fs:=l) j;constructor
   ·rw[F,mU,w,Bool.true_and];simp only[List.all_cons,Yp,c1,A,Bool.and_self,Bool.true_and,List.flatMap_cons,zJ];constructor
    ·rintro⟨a,b,c,d⟩;refine⟨a,b,List.nodup_append.2 ⟨B,c,λy g z E e=>?_⟩,λy g=>?_⟩
     ·subst e;exact d y E (Or.inl g)
     ·rcases g with g|g
      ·obtain⟨q,n,rfl⟩:=List.mem_map.1 g;exact C q n
      ·exact λh=>d y g (Or.inr h)
    ·rintro⟨a,b,c,d⟩;obtain⟨n1,J,K⟩:=List.nodup_append.1 c;refine⟨a,b,J,λy g h=>?_⟩;rcases h with h|h
     ·exact K y h y g rfl
     ·exact d y (Or.inr g) h
   ·intro v D;obtain⟨H,I⟩:=G v D;refine⟨by rw[H,j.len,hM.len],λk=>?_⟩;rw[I k];simp only[List.flatMap_cons,zJ];constructor
    ·rintro⟨o,a,f,r⟩;exact⟨o,a,by rcases f with f|f|f<;>simp[f],r⟩
    ·rintro⟨o,a,f,r⟩;exact⟨o,a,by rcases f with(f|f)|f<;>simp[f],r⟩
  ·rw[if_neg m];refine⟨⟨λh=>by simp at h,fun ⟨a,b,c,d⟩=>absurd ?_ m⟩,λv h=>by simp at h⟩;rw[mU] at b;simp only[List.all_cons,Yp,zB,List.flatMap_cons,zJ] at a b c d ⊢;exact⟨⟨a.1.1,t.2 ⟨a.1.2,(List.nodup_append.1 c).1,λq n=>d q.al (Or.inl (List.mem_map.2 ⟨q,n,rfl⟩))⟩⟩,b.1⟩
def vaU (p:Pr)(s:Sa): Bool:=match vaG p s s.frames (List.replicate s.mon.mem.allocs.length false) with
 |some u=>!u.contains false
 |none=>false
def mk0 (s:Sa): Mk s [] (List.replicate s.mon.mem.allocs.length false):=⟨sm,λk=>by
 simp only[List.getElem?_replicate,List.not_mem_nil,false_and,exists_false,and_false,iff_false];split<;>simp⟩
def I7(hm:MeV s.mon.mem): vaU p s=(s.frames.all (iG p s)&&sw p s.frames&&decide (wD s).Nodup&&s.mon.mem.allocs.all (λa=>decide (a.num∈wD s))):=by
 obtain⟨l,A⟩:=ax (p:=p) (fs:=s.frames) (mk0 s);unfold vaU;cases v:vaG p s s.frames (List.replicate s.mon.mem.allocs.length false) with
 |none =>
  rw[v] at l;simp only[Option.isSome_none,Bool.false_eq_true,false_iff] at l;symm
  simp only[Bool.and_eq_false_iff,zN];apply zC;intro hn;simp only[not_or,Bool.not_eq_false,Classical.not_not] at hn;exact l ⟨hn.1.1.1,hn.1.1.2,hn.1.2,sm⟩
 |some u =>
  rw[v] at l;simp only[Option.isSome_some,true_iff] at l;obtain⟨a,b,c,d⟩:=l;obtain⟨e,f⟩:=A u v;simp only[List.length_replicate] at e;rw[a,b,decide_eq_true (show(wD s).Nodup from c),Bool.true_and,Bool.true_and,Bool.true_and];rw[Bool.eq_iff_iff];simp only[Bool.not_eq_true',zA,zL];constructor
  ·intro h x hx;obtain⟨i,hi,g,_⟩:=nT hm hx;have B:=(zS.1 g).1;have C:u[i]?=some true:=by
    have n:i<u.length:=om;rw[zE n];cases q:u[i] with
    |true=>rfl
    |false =>
     exfalso;have:u.contains false=true:=List.contains_iff_mem.2 (by rw[<-q];exact zM n)
     rw[this] at h;simp at h
   obtain⟨_,y,o,w⟩:=(f i).1 C;have:x.num=y:=Vi (m:=s.mon.mem) om (by rw[hi,w])
   rw[this];rcases o with o|o
   ·exact o
   ·simp at o
  ·intro h;cases q:u.contains false with
   |false=>rfl
   |true =>
    exfalso;obtain⟨k,z,t⟩:=List.getElem_of_mem (List.contains_iff_mem.1 q);have j:k<s.mon.mem.allocs.length:=om;have hx:=h _ (zM j);obtain⟨i,hi,g,_⟩:=nT hm (zM j);have r:i=k:=zC λc=>du hm (zE j) g c rfl;have:=(f k).2 ⟨z,_,Or.inl hx,by rw[hi,r]⟩
    rw[zE z,t] at this;simp at this
def mV: uP p s=if(tu s&&decide (s.frames.length<=16)&&decide (s.prints.length<=200)&&vaU p s&&qW p s&&(s.plain||s.mon.running==s.frames.map Fm.call)&&decide ((s.result.length:Int)=uO p s))=true then 0 else 8:=by
 have e:dC p s=(tu s&&decide (s.frames.length<=16)&&decide (s.prints.length<=200)&&vaU p s&&qW p s&&(s.plain||s.mon.running==s.frames.map Fm.call)&&decide ((s.result.length:Int)=uO p s)):=by
  by_cases b:tu s=true
  ·have c:WhV s:=uA.1 (by unfold xm;rw[if_pos b]);rw[I7 c.me];unfold dC;simp only[Bool.and_assoc]
  ·have a:tu s=false:=by simpa using b
   unfold dC;simp only[a,Bool.false_and]
 unfold uP;rw[e]
end Go.Proofs.YtllodfoldffonaaGreatDoor
