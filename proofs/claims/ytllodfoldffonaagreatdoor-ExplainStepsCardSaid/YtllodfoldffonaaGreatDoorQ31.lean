/- A part of the proof. -/
import Derived.Test.YtllodfoldffonaaGreatDoorQ24
import Derived.Test.YtllodfoldffonaaGreatDoorQ30
namespace Go.Proofs.YtllodfoldffonaaGreatDoor
open Go.Proofs.Tryz AM Go.RowKit
set_option linter.unusedSimpArgs false
set_option linter.unusedVariables false
set_option linter.defProp false
set_option maxRecDepth 100000
set_option maxHeartbeats 16000000
variable {l:List Ce}{t:Ty}
def QL (q:Po)(l:List Po): yF 358 [.rp (Po.c q)] Po.a (xy q.al) l:=⟨by go_simp,λx hx=>by
  have d:xy q.al x=(x.al==q.al):=rfl;rw[d];obtain⟨a,b,c⟩:=x;refine eK [] func358 λX=>?_;go_simp⟩
def Wl (p:Pr)(s:Sa)(q:Po)(to:Int)(T:z9 s)(W:frB p s): zK 247 [p.a,s.a,q.a,iU to] (.bool (we p s q to)):=by
 have K:=QL q;obtain⟨b,g,d⟩:=q;refine eK [6,1001,3026] func247 λX=>?_;go_simp;intro v D E;refine sj (B:=[6,3026]) hP [(3,iU to),(4,.ptr (.l 4) v 1 0 0),(5,.ptr (.l 5) D 10 0 0),(6,.ptr (.l 6) E 3 0 0),(9,.bool (decide (1<=d)&&decide (d<s.mon.ntag)))]
  [(.l 4,⟨v,1,1,24,[Pr.c p],false⟩),(.l 5,⟨D,1,10,35,[Sa.c s],false⟩),(.l 6,⟨E,1,3,53,[Po.c ⟨b,g,d⟩],false⟩)] dk ?_ ?_
 ·go_simp;exact⟨λh _=>h,λh k=>absurd k om⟩
 go_simp;refine sj (B:=[6]) hP [(3,iU to),(4,.ptr (.l 4) v 1 0 0),(5,.ptr (.l 5) D 10 0 0),(6,.ptr (.l 6) E 3 0 0),(9,.bool (x5 s d))]
  [(.l 4,⟨v,1,1,24,[Pr.c p],false⟩),(.l 5,⟨D,1,10,35,[Sa.c s],false⟩),(.l 6,⟨E,1,3,53,[Po.c ⟨b,g,d⟩],false⟩)] dk ?_ ?_
 ·go_simp;unfold x5;exact⟨λh=>by rw[h];rfl,λh=>by rw[h];simp[Bool.decide_and]⟩
 have O:we p s ⟨b,g,d⟩ to=(x5 s d&&decide (0<=b/\b<s.mon.mem.next)&&wW p ⟨b,g,d⟩ to s.frames):=rfl;rw[O];clear O;generalize x5 s d=C;by_cases j:C=true/\0<=b/\b<s.mon.mem.next
 ·obtain⟨rfl,c1,c2⟩:=j;have c3:¬b<0:=om;have c4:¬s.mon.mem.next<=b:=om;rw[decide_eq_true ⟨c1,c2⟩];go_simp;refine z5 [.l 6] 6 (SV.ptr rfl rfl rfl rfl sm rfl) ?_;refine aO [] ?_;go_simp;refine lN [] (λi=>[(3,iU to),(4,.ptr (.l 4) v 1 0 0),(6,.rp (Po.c ⟨b,g,d⟩)),(47,vFm_ s.frames),(48,iI s.frames.length),(49,iI i)]) (λi=>[(.l 4,⟨v,1,1,24,[Pr.c p],false⟩)]) (λi=>i<=s.frames.length/\∀x∈s.frames.take i,idx (xy b) x.locals<0) (λi=>s.frames.length-i) 0 ?_
  rintro i ⟨hi,J⟩;have y:=kw (p:=p) (q:=⟨b,g,d⟩) (to:=to) J hi;rw[<-y];clear y;have Z:=T.fr;by_cases e:i<s.frames.length
  ·have hm:=λh=>zr J e h;have u:=zM e;have h7:s.frames[i]?=some s.frames[i]:=zE e;have P:s.frames.drop i=s.frames[i]::s.frames.drop (i+1):=List.drop_eq_getElem_cons e;rw[P];clear P;obtain⟨⟨L,M⟩,N⟩:=W _ u;have z:=T.lo _ u;generalize h3:s.frames[i]=x at *;obtain⟨fn,at_,call,locals⟩:=x;simp only at L M N z;obtain⟨m,rfl⟩:∃m:Nat,fn=m:=⟨fn.toNat,om⟩
   have I:m<p.funcs.length:=om;have G:=Zr (K locals) z;have o:yu p m=p.funcs[m]:=by unfold yu;rw[Int.toNat_natCast,zD,zE I];rfl
   rw[o] at N;have w:wW p ⟨b,g,d⟩ to (⟨m,at_,call,locals⟩::s.frames.drop (i+1))=if idx (xy b) locals<0 then wW p ⟨b,g,d⟩ to (s.frames.drop (i+1)) else sI (p.funcs[m].locals.getD (idx (xy b) locals).toNat ⟨0,0⟩).kind to g:=by
    rw[<-o];rfl
   rw[w];clear w o J u;generalize Y:p.funcs[m]=f at *;by_cases hn:idx (xy b) locals<0
   ·rw[if_pos hn];have H:=hm hn;have h4:¬0<=idx (xy b) locals:=om;generalize idx (xy b) locals=k at *;go_simp;intro F;repeat'(first|(apply zd G;try go_simp)|with_reducible first|apply ai|intro)
    exact⟨i+1,⟨om,H⟩,om,wrS om⟩
   ·rw[if_neg hn];obtain⟨n,r,h5,_⟩:=q9 (by omega:0<=idx (xy b) locals)
    rw[r] at G;rw[r,Int.toNat_natCast];have A:n<f.locals.length:=om;have Q:(n:Int)<f.locals.length:=om;have R:(m:Int)<p.funcs.length:=om;rw[zD,zE A,zH];clear hm hn r L M;generalize h6:f.locals[n]=t at *;go_simp;intro F;repeat'(first|(apply zd G;try go_simp)|with_reducible first|apply ai|intro)
    all_goals(unfold sI;first|(simp[*];done)|grind)
  ·obtain rfl:i=s.frames.length:=om;rw[List.drop_length];go_simp;rfl
 ·have U:(C&&decide (0<=b/\b<s.mon.mem.next))=false:=by
   cases C<;>simp at j ⊢;exact j
  rw[U];clear U;by_cases S:C=true
  ·subst S;have j:=not_and.1 j rfl;by_cases h0:0<=b
   ·have h1:s.mon.mem.next<=b:=om;have V:¬b<0:=om;clear j;go_simp
   ·have V:b<0:=om;clear j;go_simp
  ·obtain rfl:C=false:=by simpa using S
   clear j;go_simp
def kI (t:Ty): zK 246 [t.a] (.bool (t.kind==1||t.kind==2)):=by
 obtain⟨k,o⟩:=t;refine eK [] func246 λX=>?_;go_simp;all_goals first|(simp;done)|(simp[*];done)|grind|trace_state
def oF (p:Pr)(s:Sa)(n m:Nat)(x:Fm)(f:Fn)(h:Env p s)(K:xR p s n m x f): zK 157 [p.a,s.a] (.tup [x.a,vTy_ f.locals,iI 0]):=by
 have b:=tH p s h.wf h.wp;rw[h.v.ck h.ty] at b;have e:=h.wf.fr;have c:=K.n1;have r:=K.nx;have i:=K.ff;have hm:=K.fn;obtain⟨q,g⟩:=zS.1 K.nx;obtain⟨j,k⟩:=zS.1 K.ff;have d:IntKind.i64.wrap ((s.frames.length:Int)-1)=(n:Int):=(AM.Tf om).trans om;have o:¬s.frames.length=0:=om;clear K h;obtain⟨A,y,z,B⟩:=x;simp only at hm;subst hm;obtain⟨fp,w,u,fb⟩:=f;obtain⟨pl,mo,fr,pr,re⟩:=s;simp only at *;clear c;refine eK [7] func157 λX=>?_;go_simp;repeat'(first|(apply zd b;try go_simp)|with_reducible first|apply ai|intro)
 refine vo hP ⟨[(8,.l 8,0),(30,.l 2,0),(32,.l 8,0),(4,.l 4,0)],true⟩ [35] dk ?_;go_simp
def nE (p:Pr)(s:Sa)(x:Pl)(n m:Nat)(y:Fm)(f:Fn)(h:Env p s)(K:xR p s n m y f)(B:zZ (tyL p s) x=0)(U:0<=x.field/\x.field<256):
  zK 160 [s.a,y.a,vTy_ f.locals,x.a] (.tup [(fdS p s x).1.a,.agg [iI (fdS p s x).2.1.al,iI (fdS p s x).2.1.off,iI (fdS p s x).2.1.tag,iI (fdS p s x).2.2.1],iU (fdS p s x).2.2.2,iI 0]):=by
 have Q:=h.wf;have r:=qX (tyL p s) x (by rw[K.tyl];exact K.fs.wf.1);obtain⟨k,l,t,P,hl,C,A,G,J,L,I⟩:=kq h.v h.ne B;have z:l.off=0:=by
  obtain⟨a,Y⟩:=(h.v.fm _ (vd h.ne)).loc k _ _ hl C;exact Y.off
 rw[show ov (tyL p s) x=wH x by unfold ov;rw[if_pos B];rfl,show ox (tyL p s) x=zg (zu (tyL p s) x) by unfold ox;rw[if_pos B],B] at r;have b:=qr s l 1 Q;have w:lDS s l 1=((sLd s l 1).1,(sLd s l 1).2.1,(sLd s l 1).2.2,0):=by unfold lDS;rw[if_neg (by simpa using uA.2 h.v.wh),if_neg om]
 rw[w] at b;have g:=λS=>Vs h.v.wh (q:=l) S;have O:fdS p s x=if x.deref=false then(s,tv l (wH x),zg (zu (tyL p s) x),0) else
   if ¬(sLd s l 1).2.2=0 then(s,po0,0,(sLd s l 1).2.2) else
   if ¬((sLd s l 1).2.1.getD 0 ceZ).kind=2 then(s,po0,0,8) else
   ((sLd s l 1).1,tv ((sLd s l 1).2.1.getD 0 ceZ).p (wH x),zg (zu (tyL p s) x),0):=by unfold fdS;rw[A]
 rw[O];clear O A G J L I C w;rw[K.top] at hl;rw[<-K.tyl];obtain⟨F,H⟩:=zS.1 hl;have E:=dP x;generalize wH x=d at *;generalize zg (zu (tyL p s) x)=Z at *;generalize tyL p s=ts at *;clear K h B Q;obtain⟨xl,xd,xf⟩:=x;simp only at P U;subst P;obtain⟨yf,ya,yc,yl⟩:=y;simp only at hl F H;obtain⟨la,lo,lt⟩:=l;simp only at z;subst z;have V:¬(k:Int)<0:=om;have W:¬yl.length<=k:=om;cases xd with
 |false =>
  rw[if_pos rfl];have M:IntKind.i64.wrap d=d:=AM.Tf om;obtain⟨pl,mo,fr,pr,re⟩:=s;simp only at *;clear b g E;refine eK [7,15] func160 λX=>?_;go_simp;repeat'(first|(apply zd r;try go_simp)|with_reducible first|apply ai|intro)
  refine zh hP ⟨[(4,.l 4,0),(15,.l 15,0),(8,.l 8,0),(9,.l 9,0)],true⟩ dk ?_;go_simp
 |true =>
  rw[if_neg sm];obtain⟨D,u⟩:∃D,D=sLd s ⟨la,0,lt⟩ 1:=⟨_,rfl⟩
  rw[<-u] at b g ⊢;clear u;obtain⟨D1,D2,R⟩:=D;simp only at b g ⊢;obtain⟨pl,mo,fr,pr,re⟩:=s;by_cases o:R=0
  ·subst o;obtain⟨c,T,j⟩:=g rfl;subst T;rw[if_neg sm];simp only[List.getD_cons_zero];have i:c.kind=2->0<=c.p.off/\c.p.off<=2:=λe=>by
    unfold xg at j;simp[e] at j;omega
   clear g j;obtain⟨ck,cn,⟨ca,N,ct⟩⟩:=c;simp only at i ⊢;by_cases e:ck=2
   ·subst e;have M:IntKind.i64.wrap (N+d)=N+d:=AM.Tf om;rw[if_neg sm];clear i E;refine eK [7,15] func160 λX=>?_;go_simp;repeat'(first|(apply zd r;try go_simp)|with_reducible first|apply ai|intro)
    repeat'(first|(apply zd b;try go_simp)|with_reducible first|apply ai|intro)
    refine zh hP ⟨[(16,.l 16,0),(15,.l 15,0),(8,.l 8,0),(9,.l 9,0)],true⟩ dk ?_;go_simp
   ·have hb:(ck != 2)=true:=by simpa using e
    rw[if_pos e];clear i E;refine eK [7,15] func160 λX=>?_;go_simp;repeat'(first|(apply zd r;try go_simp)|with_reducible first|apply ai|intro)
    repeat'(first|(apply zd b;try go_simp)|with_reducible first|apply ai|intro)
  ·have hb:=z4 o;rw[if_pos o];clear g E;refine eK [7,15] func160 λX=>?_;go_simp;repeat'(first|(apply zd r;try go_simp)|with_reducible first|apply ai|intro)
   repeat'(first|(apply zd b;try go_simp)|with_reducible first|apply ai|intro)
def oG (p:Pr)(s:Sa)(x:Pl)(h:Env p s)(d:zZ (tyL p s) x=0)(k:0<=x.field/\x.field<256):
  zK 153 [p.a,s.a,x.a] (.tup [(fdS p s x).1.a,(fdS p s x).2.1.a,iI (fdS p s x).2.2.1,iU (fdS p s x).2.2.2,iI 0]):=by
 obtain⟨n,m,y,f,K⟩:=h.top;have j:=oF p s n m y f h K;have c:=w7 (tyL p s) x (by rw[K.tyl];exact K.fs.wf.1);rw[d,K.tyl] at c;have g:=nE p s x n m y f h K d k;have b:=h.same (@vA p s x) (uv h.v (x:=x));have e:=ua (fdS p s x).1 b.wf;clear b K h d;generalize fdS p s x=F at *;obtain⟨o,i,q,r⟩:=F;simp only at g e ⊢;generalize zu f.locals x=t at *;obtain⟨z,A⟩:=t;obtain⟨D,B,C⟩:=x;obtain⟨H,E,G,I⟩:=y;obtain⟨fa,u,w⟩:=i;refine eK [10] func153 λX=>?_;go_simp;repeat'(first|((first|apply zd j|apply zd c|apply zd g);try go_simp)|with_reducible first|apply ai|intro)
 refine zh hP ⟨[(16,.l 16,0),(59,.l 17,0),(61,.l 17,3),(6,.l 6,0),(7,.l 7,0)],true⟩ dk ?_;go_simp;repeat'(first|(apply zd e;try go_simp)|with_reducible first|apply ai|intro)
def dT (ts:List Ty)(o:Opd)(hl:ts.length<1000000)(b:xK ts=true)(c:zq o=0): zK 253 [vTy_ ts,o.a] (.tup [(opT ts o).a,iI (opE ts o)]):=by
 have f:=nw ts hl;rw[if_pos b] at f;have d:=wi o;rw[c] at d;have g:=tP ts o hl;clear b c;generalize opT ts o=t at *;generalize opE ts o=e at *;obtain⟨k,m⟩:=t;obtain⟨ok,on,⟨j,i,h⟩⟩:=o;refine eK [] func253 λX=>?_;go_simp;repeat'(first|((first|apply zd f|apply zd d|apply zd g);try go_simp)|with_reducible first|apply ai|intro)
def e9 (k:Int)(c:Ce): Bool:=!(c.kind==k)
def NI (k:Int)(l:List Ce): yF 355 [.rp [iU k]] Ce.a (e9 k) l:=⟨by go_simp,λc e=>by
 have hb:e9 k c = !(c.kind==k):=rfl;rw[hb];clear hb;obtain⟨ck,b,d⟩:=c;refine eK [] func355 λX=>?_;go_simp;all_goals first|rfl|(simp;done)|grind⟩
def NJ: um t l=(decide ((l.length:Int)=zg t)&&!l.any (e9 (uQ t))):=by
 unfold um;congr 1
 rw[Bool.eq_iff_iff];simp[e9]
def kJ (t:Ty)(l:List Ce)(h:yE t=true)(hl:l.length<1000000): zK 242 [t.a,vCe_ l] (.bool (um t l)):=by
 have b:=qg (NI (uQ t) l) hl;have d:=pp t;have f:=kI t;rw[NJ];have g:uQ t=if(t.kind==1||t.kind==2)=true then 1 else 2:=by unfold uQ;unfold yE at h;simp at h;grind
 generalize l.any (e9 (uQ t))=A at *;rw[g] at b;clear g;have i:ww t=0:=by unfold ww;rw[if_pos h]
 rw[if_pos h,i] at d;have hn:(decide ((l.length:Int)=zg t))=((l.length:Int)==zg t):=rfl;rw[hn];clear i hn h;generalize zg t=n at *;obtain⟨j,k⟩:=t;simp only at b f;generalize (j==1||j==2)=w at *;cases w with
 |true =>
  rw[if_pos rfl] at b;by_cases e:(l.length:Int)=n
  ·have c:((l.length:Int)==n)=true:=by simpa using e
   rw[c,Bool.true_and];clear e;refine eK [5] func242 λX=>?_;go_simp;repeat'(first|((first|apply zd d|apply zd f);try go_simp)|with_reducible first|apply ai|intro)
   refine z5 [.l 7] 7 (SV.ptr rfl rfl rfl rfl sm rfl) ?_;refine aO [] ?_;go_simp;repeat'(first|(apply zd b;try go_simp)|with_reducible first|apply ai|intro)
  ·have c:((l.length:Int)==n)=false:=by simpa using e
   rw[c,Bool.false_and];clear e b;refine eK [5] func242 λX=>?_;go_simp;repeat'(first|((first|apply zd d|apply zd f);try go_simp)|with_reducible first|apply ai|intro)
   refine z5 [.l 7] 7 (SV.ptr rfl rfl rfl rfl sm rfl) ?_;refine aO [] ?_;go_simp
 |false =>
  rw[if_neg sm] at b;by_cases e:(l.length:Int)=n
  ·have c:((l.length:Int)==n)=true:=by simpa using e
   rw[c,Bool.true_and];clear e;refine eK [5] func242 λX=>?_;go_simp;repeat'(first|((first|apply zd d|apply zd f);try go_simp)|with_reducible first|apply ai|intro)
   refine z5 [.l 7] 7 (SV.ptr rfl rfl rfl rfl sm rfl) ?_;refine aO [] ?_;go_simp;repeat'(first|(apply zd b;try go_simp)|with_reducible first|apply ai|intro)
  ·have c:((l.length:Int)==n)=false:=by simpa using e
   rw[c,Bool.false_and];clear e b;refine eK [5] func242 λX=>?_;go_simp;repeat'(first|((first|apply zd d|apply zd f);try go_simp)|with_reducible first|apply ai|intro)
   refine z5 [.l 7] 7 (SV.ptr rfl rfl rfl rfl sm rfl) ?_;refine aO [] ?_;go_simp
def kK (p:Pr)(s:Sa)(o:Opd)(h:Env p s)(R:VlP p s o)(N:zq o=0)(I:opE (tyL p s) o=0):
  zK 171 [p.a,s.a,o.a] (.tup [(vlS p s o).1.a,.vec 5 ((vlS p s o).2.1.map Ce.c),iU (vlS p s o).2.2,iI 0]):=by
 obtain⟨n,m,y,f,K⟩:=h.top;have O:=oF p s n m y f h K;have i:=wi o;rw[N] at i;have g:=dT (tyL p s) o (by rw[K.tyl];exact K.fs.wf.1) (by rw[K.tyl];exact K.fs.lo) N;rw[I,K.tyl] at g;have E:=ua s h.wf;by_cases k1:o.kind=1
 ·have hU:vlS p s o=(s,[ce1 o.n],0):=by unfold vlS;rw[if_pos k1]
  rw[hU];clear hU N I h R K;generalize opT f.locals o=t at *;obtain⟨tk,tt⟩:=t;obtain⟨ok,on,⟨pl,pd,pf⟩⟩:=o;simp only at k1;subst k1;obtain⟨yf,ya,yc,yl⟩:=y;obtain⟨sp,mo,fr,pr,re⟩:=s;refine eK [10,20] func171 λX=>?_;go_simp;repeat'(first|((first|apply zd O|apply zd i|apply zd g);try go_simp)|with_reducible first|apply ai|intro)
  refine zh hP ⟨[(4,.l 4,0),(48,.l 5,1),(6,.l 6,0)],true⟩ dk ?_;go_simp;repeat'(first|(apply zd E;try go_simp)|with_reducible first|apply ai|intro)
 ·have Z:opT f.locals o=zu (tyL p s) o.pl:=by
   rw[<-K.tyl];rcases ou I with⟨a,_⟩|⟨_,_,a,_⟩
   ·exact absurd a k1
   ·exact a
  have b:o.kind=3->(zu (tyL p s) o.pl).kind=4:=by
   rcases ou I with⟨a,_⟩|⟨_,_,_,a⟩
   ·exact absurd a k1
   ·exact a.1
  rw[Z] at g;have P:=nE p s o.pl n m y f h K (R.t k1) R.f;have T:=@vA p s o.pl;have U:=uv h.v (x:=o.pl);have B:=h.same T U;have H:=λe=>(rj h.v h.ne (R.t k1) e).sz;have d:=qr (fdS p s o.pl).1 (fdS p s o.pl).2.1 (fdS p s o.pl).2.2.1 B.wf;have u:(fdS p s o.pl).2.2.2=0->lDS (fdS p s o.pl).1 (fdS p s o.pl).2.1 (fdS p s o.pl).2.2.1=((sLd (fdS p s o.pl).1 (fdS p s o.pl).2.1 (fdS p s o.pl).2.2.1).1,(sLd (fdS p s o.pl).1 (fdS p s o.pl).2.1 (fdS p s o.pl).2.2.1).2.1,(sLd (fdS p s o.pl).1 (fdS p s o.pl).2.1 (fdS p s o.pl).2.2.1).2.2,0):=λe=>by
   unfold lDS;rw[if_neg (by simpa using uA.2 B.v.wh),if_neg];rw[H e];unfold zg;split<;>simp
  have V:=@sy (fdS p s o.pl).1 (fdS p s o.pl).2.1 (fdS p s o.pl).2.2.1;have M:=qn B.v.wh (q:=(fdS p s o.pl).2.1) (n:=(fdS p s o.pl).2.2.1);have z:=V.wf B.wf M;have Q:=Vl B.v.wh (q:=(fdS p s o.pl).2.1) (n:=(fdS p s o.pl).2.2.1);have r:=kJ (zu (tyL p s) o.pl) (sLd (fdS p s o.pl).1 (fdS p s o.pl).2.1 (fdS p s o.pl).2.2.1).2.1 (Ye (R.t k1)) Q;have w:=rA (sLd (fdS p s o.pl).1 (fdS p s o.pl).2.1 (fdS p s o.pl).2.2.1).1 (fdS p s o.pl).2.1 [ceZ] z sm;have G:sTS (sLd (fdS p s o.pl).1 (fdS p s o.pl).2.1 (fdS p s o.pl).2.2.1).1 (fdS p s o.pl).2.1 [ceZ]=((sSt (sLd (fdS p s o.pl).1 (fdS p s o.pl).2.1 (fdS p s o.pl).2.2.1).1 (fdS p s o.pl).2.1 [ceZ]).1,(sSt (sLd (fdS p s o.pl).1 (fdS p s o.pl).2.1 (fdS p s o.pl).2.2.1).1 (fdS p s o.pl).2.1 [ceZ]).2,0):=by
   unfold sTS;rw[if_neg (by simpa using uA.2 M),if_neg (by decide)]
  rw[G] at w;have J:=ua (sLd (fdS p s o.pl).1 (fdS p s o.pl).2.1 (fdS p s o.pl).2.2.1).1 z;have A:=ua (sSt (sLd (fdS p s o.pl).1 (fdS p s o.pl).2.1 (fdS p s o.pl).2.2.1).1 (fdS p s o.pl).2.1 [ceZ]).1 (oW.wf z (mR M));have D:=xE (yb Ce.one (sLd (fdS p s o.pl).1 (fdS p s o.pl).2.1 (fdS p s o.pl).2.2.1).2.1) (by simpa using Q);unfold vlS;rw[if_neg k1];have C:=R.k;clear T U B V M z Q K R h I N G Z;generalize zu (tyL p s) o.pl=t at *;generalize fdS p s o.pl=F at *;obtain⟨F1,F2,F3,F4⟩:=F;simp only at P H d u r w J A D ⊢;obtain⟨ok,on,⟨pl,pd,pf⟩⟩:=o;have q1:(ok==1)=false:=by simpa using k1
  obtain⟨yf,ya,yc,yl⟩:=y;obtain⟨tk,tt⟩:=t;obtain⟨sp,mo,fr,pr,re⟩:=s;obtain⟨fa,fo,ft⟩:=F2;by_cases z1:F4=0
  case neg =>
   rw[if_pos z1];have hb:=z4 z1;clear H u C k1 b z1;refine eK [10,20] func171 λX=>?_;go_simp;repeat'(first|((first|apply zd O|apply zd i|apply zd g|apply zd P);try go_simp)|with_reducible first|apply ai|intro)
   repeat'(first|(apply zd E;try go_simp)|with_reducible first|apply ai|intro)
  subst z1;rw[if_neg sm];rw[u rfl] at d;have j:=H rfl;clear H u;obtain⟨L,u⟩:∃L,L=sLd F1 ⟨fa,fo,ft⟩ F3:=⟨_,rfl⟩
  rw[<-u] at d r w J A D ⊢;clear u;obtain⟨L1,L2,L3⟩:=L;simp only at d r w J A D ⊢;by_cases z2:L3=0
  case neg =>
   rw[if_pos z2];have hb:=z4 z2;clear C k1 b z2 j;refine eK [10,20] func171 λX=>?_;go_simp;repeat'(first|((first|apply zd O|apply zd i|apply zd g|apply zd P);try go_simp)|with_reducible first|apply ai|intro)
   repeat'(first|(apply zd d;try go_simp)|with_reducible first|apply ai|intro)
   repeat'(first|(apply zd E;try go_simp)|with_reducible first|apply ai|intro)
  subst z2;rw[if_neg sm];generalize um ⟨tk,tt⟩ L2=kb at *;cases kb with
  |false =>
   rw[if_pos rfl];clear C k1 b j;refine eK [10,20] func171 λX=>?_;go_simp;repeat'(first|((first|apply zd O|apply zd i|apply zd g|apply zd P);try go_simp)|with_reducible first|apply ai|intro)
   repeat'(first|((first|apply zd d|apply zd r);try go_simp)|with_reducible first|apply ai|intro)
   repeat'(first|(apply zd E;try go_simp)|with_reducible first|apply ai|intro)
  |true =>
   rw[if_neg sm];by_cases k3:ok=3
   ·subst k3;rw[if_neg sm];have h4:=b rfl;simp only at h4;subst h4;have h1:F3=1:=j;subst h1;obtain⟨S,G⟩:∃S,S=sSt L1 ⟨fa,fo,ft⟩ [ceZ]:=⟨_,rfl⟩
    rw[<-G] at w A ⊢;clear G;obtain⟨S1,S2⟩:=S;simp only at w A ⊢;clear C k1 b j;have W:=w.kg;by_cases z3:S2=0
    ·subst z3;rw[if_neg sm];refine eK [10,20] func171 λX=>?_;go_simp;repeat'(first|((first|apply zd O|apply zd i|apply zd g|apply zd P);try go_simp)|with_reducible first|apply ai|intro)
     repeat'(first|((first|apply zd d|apply zd r);try go_simp)|with_reducible first|apply ai|intro)
     refine uq hP ⟨[(14,.l 14,0),(105,.l 15,0),(107,.l 15,3)],true⟩ [110] dk ?_;go_simp;repeat'(first|(refine rT [.l 109] W ?_;intro q;try go_simp)|with_reducible first|apply ai|intro)
     repeat'(first|((first|apply zd A|apply zd D);try go_simp)|with_reducible first|apply ai|intro)
    ·have hb:=z4 z3;rw[if_pos z3];refine eK [10,20] func171 λX=>?_;go_simp;repeat'(first|((first|apply zd O|apply zd i|apply zd g|apply zd P);try go_simp)|with_reducible first|apply ai|intro)
     repeat'(first|((first|apply zd d|apply zd r);try go_simp)|with_reducible first|apply ai|intro)
     refine uq hP ⟨[(14,.l 14,0),(105,.l 15,0),(107,.l 15,3)],true⟩ [110] dk ?_;go_simp;repeat'(first|(refine rT [.l 109] W ?_;intro q;try go_simp)|with_reducible first|apply ai|intro)
     repeat'(first|(apply zd E;try go_simp)|with_reducible first|apply ai|intro)
   ·rw[if_pos k3];have Y:ok=1\/ok=2\/ok=3:=C;have h2:¬ok=1:=k1;have h3:¬ok=3:=k3;obtain rfl:ok=2:=om;clear Y h2 h3;clear C k1 b j k3;refine eK [10,20] func171 λX=>?_;go_simp;repeat'(first|((first|apply zd O|apply zd i|apply zd g|apply zd P);try go_simp)|with_reducible first|apply ai|intro)
    repeat'(first|((first|apply zd d|apply zd r);try go_simp)|with_reducible first|apply ai|intro)
    repeat'(first|((first|apply zd J|apply zd D);try go_simp)|with_reducible first|apply ai|intro)
def eC (p:Pr)(s:Sa)(t:Ty)(c:Ce): Bool:=!(wa c==0)||(!(t.kind==1||t.kind==2)&&!we p s c.p t.to)
def LS {p:Pr}{s:Sa}(g:yE t=true): xh p s t l=(um t l&&!l.any (eC p s t)):=by
 have i:(t.kind==1||t.kind==2)=decide (t.kind<3):=by unfold yE at g;simp at g;rw[Bool.eq_iff_iff];simp;omega
 unfold xh;congr 1
 rw[Bool.eq_iff_iff];simp only[eC,i,zA,Bool.not_eq_true',zI];have f:∀c:Ce,(wa c==0)=xg c:=λc=>by unfold wa;cases xg c<;>rfl
 constructor
 ·intro h c e;have:=h c e
  rw[f];cases a:xg c<;>cases b:decide (t.kind<3)<;>cases d:we p s c.p t.to<;>simp_all
 ·intro h c e;have:=h c e
  rw[f] at this;cases a:xg c<;>cases b:decide (t.kind<3)<;>cases d:we p s c.p t.to<;>simp_all
def Wm (p:Pr)(s:Sa)(t:Ty)(l:List Ce)(k:z9 s)(j:frB p s)(d:yE t=true)(hl:l.length<1000000): zK 159 [p.a,s.a,t.a,vCe_ l] (.bool (xh p s t l)):=by
 have b:yF 244 [.rp (Ty.c t),.rp (Pr.c p),.rp (Sa.c s)] Ce.a (eC p s t) l:=⟨by go_simp,λc o=>by
  have e:=Wl p s c.p t.to k j;have f:=vL c;have i:=kI t;have hb:eC p s t c=(!(wa c==0)||(!(t.kind==1||t.kind==2)&&!we p s c.p t.to)):=rfl;rw[hb];clear hb;obtain⟨ck,m,n⟩:=c;refine eK [] func244 λX=>?_;go_simp;repeat'(first|((first|apply zd f|apply zd e|apply zd i);try go_simp)|with_reducible first|apply ai|intro)
  all_goals first|assumption|(simp_all;done)|grind⟩
 have g:=qg b hl;have h:=kJ t l d hl;rw[LS d];generalize l.any (eC p s t)=A at *;generalize um t l=B at *;clear b;refine eK [1] func159 λX=>?_;go_simp;repeat'(first|with_reducible first|apply ai|intro)
 refine z5 [.l 4] 4 (SV.ptr rfl rfl rfl rfl sm rfl) ?_;refine z5 [.l 5] 5 (SV.ptr rfl rfl rfl rfl sm rfl) ?_;refine z5 [.l 6] 6 (SV.ptr rfl rfl rfl rfl sm rfl) ?_;refine aO [] ?_;go_simp;repeat'(first|((first|apply zd h|apply zd g);try go_simp)|with_reducible first|apply ai|intro)
 all_goals first|assumption|(simp_all;done)|grind|trace_state
def bc {p:Pr}{s:Sa}(h:xh p s t l=true): (rz l&&!l.any uB)=true/\l.length<1000000:=by
 unfold xh um at h;simp only[zB,zL,zA] at h;obtain⟨⟨a,_⟩,b⟩:=h;have hl:l.length=1\/l.length=2:=by unfold zg at a;split at a<;>omega
 refine⟨?_,om⟩;rw[zB];refine⟨by unfold rz;rcases hl with e|e<;>simp[e],?_⟩;rw[Bool.not_eq_true',zI];intro c d;have:=(b c d).1
 simp[uB,wa,this]
def qZ (p:Pr)(s:Sa)(x:Pl)(l:List Ce)(h:Env p s)(r:zZ (tyL p s) x=0)(H:0<=x.field/\x.field<256)(e:xh p s (zu (tyL p s) x) l=true):
  zK 92 [p.a,s.a,x.a,vCe_ l] (.tup [(asS p s x l).1.a,iU (asS p s x l).2,iI 0]):=by
 obtain⟨o,hl⟩:=bc e;obtain⟨n,m,y,f,K⟩:=h.top;have u:=oF p s n m y f h K;have j:=w7 (tyL p s) x (by rw[K.tyl];exact K.fs.wf.1);rw[r,K.tyl] at j;have i:=Wm p s (zu (tyL p s) x) l h.wf h.v.frB (Ye r) hl;rw[e,K.tyl] at i;have q:=nE p s x n m y f h K r H;have c:=h.same (@vA p s x) (uv h.v (x:=x));have b:=rA (fdS p s x).1 (fdS p s x).2.1 l c.wf hl;have d:sTS (fdS p s x).1 (fdS p s x).2.1 l=((sSt (fdS p s x).1 (fdS p s x).2.1 l).1,(sSt (fdS p s x).1 (fdS p s x).2.1 l).2,0):=by
  unfold sTS;rw[if_neg (by simpa using uA.2 c.v.wh),if_neg (by rw[o];decide)]
 rw[d] at b;have k:=ua s h.wf;have g:=ua (sSt (fdS p s x).1 (fdS p s x).2.1 l).1 (oW.wf c.wf (mR c.v.wh));unfold asS;clear d c K h r e o;generalize zu f.locals x=t at *;generalize fdS p s x=F at *;obtain⟨A,B,I,C⟩:=F;simp only at q b g ⊢;obtain⟨L,M⟩:=t;obtain⟨P,N,O⟩:=x;obtain⟨T,Q,R,U⟩:=y;obtain⟨fa,E,G⟩:=B;by_cases w:C=0
 case neg =>
  rw[if_pos w];have hb:=z4 w;refine eK [] func92 λX=>?_;go_simp;repeat'(first|((first|apply zd u|apply zd j|apply zd i|apply zd q);try go_simp)|with_reducible first|apply ai|intro)
  repeat'(first|(apply zd k;try go_simp)|with_reducible first|apply ai|intro)
 subst w;rw[if_neg sm];obtain⟨S,d⟩:∃S,S=sSt A ⟨fa,E,G⟩ l:=⟨_,rfl⟩
 rw[<-d] at b g ⊢;clear d;obtain⟨J,D⟩:=S;simp only at b g ⊢;by_cases z:D=0
 ·subst z;rw[if_neg sm];refine eK [] func92 λX=>?_;go_simp;repeat'(first|((first|apply zd u|apply zd j|apply zd i|apply zd q);try go_simp)|with_reducible first|apply ai|intro)
  repeat'(first|(apply zd b;try go_simp)|with_reducible first|apply ai|intro)
  repeat'(first|(apply zd g;try go_simp)|with_reducible first|apply ai|intro)
 ·have hb:=z4 z;rw[if_pos z];refine eK [] func92 λX=>?_;go_simp;repeat'(first|((first|apply zd u|apply zd j|apply zd i|apply zd q);try go_simp)|with_reducible first|apply ai|intro)
  repeat'(first|(apply zd b;try go_simp)|with_reducible first|apply ai|intro)
  repeat'(first|(apply zd k;try go_simp)|with_reducible first|apply ai|intro)
def YE (p:Pr)(s:Sa)(n m:Nat)(x:Fm)(f:Fn)(d:z9 s)(K:xR p s n m x f): zK 90 [p.a,s.a] (.tup [x.a,f.a]):=by
 have e:=d.fr;have b:=K.n1;have o:=K.nx;have h:=K.ff;have hm:=K.fn;obtain⟨k,g⟩:=zS.1 K.nx;obtain⟨i,j⟩:=zS.1 K.ff;have c:IntKind.i64.wrap ((s.frames.length:Int)-1)=(n:Int):=(AM.Tf om).trans om;clear K d;obtain⟨w,u,v,y⟩:=x;simp only at hm;subst hm;obtain⟨fp,r,q,fb⟩:=f;obtain⟨pl,mo,fr,pr,re⟩:=s;simp only at *;clear b;refine eK [2] func90 λX=>?_;go_simp;repeat'(first|with_reducible first|apply ai|intro)
 refine vo hP ⟨[(6,.l 6,0),(16,.l 2,0),(18,.l 6,0),(4,.l 4,0),(5,.l 5,0)],true⟩ [20] dk ?_;go_simp
def w9 (p:Pr)(s:Sa)(g:z9 s)(f:wfP p): zK 36 [p.a,s.a] (iI (aSE p s)):=by
 have b:=tH p s g f;unfold aSE;by_cases c:ckE p s=0
 ·rw[if_neg (by simpa using c)];rw[c] at b;by_cases d:s.frames = []
  ·rw[if_pos d];clear g;obtain⟨pl,mo,fr,pr,re⟩:=s;simp only at d;subst d;refine eK [] func36 λX=>?_;go_simp;repeat'(first|(apply zd b;try go_simp)|with_reducible first|apply ai|intro)
  ·have h:¬s.frames.length=0:=λe=>d (List.eq_nil_of_length_eq_zero e);rw[if_neg d];refine eK [] func36 λX=>?_;go_simp;repeat'(first|(apply zd b;try go_simp)|with_reducible first|apply ai|intro)
 ·have hb:=z4 c;rw[if_pos c];generalize ckE p s=e at *;refine eK [] func36 λX=>?_;go_simp;repeat'(first|(apply zd b;try go_simp)|with_reducible first|apply ai|intro)
def wq (p:Pr)(s t:Sa)(q:Int)(d:Nat): zG 93 1 (λι=>[.ptr (ι 0) d 12 0 0,t.a,iU 0,iI 0]) (λ_=>[⟨d,1,12,102,[[vFn_ p.funcs,.bool s.plain,vAl_ s.mon.mem.allocs,iI s.mon.mem.next,vSs_ s.mon.stacks,vCi_ s.mon.running,iI s.mon.ntag,iI s.mon.ncall,vFm_ s.frames,vCi_ s.prints,vCi_ s.result,iU q]],false⟩]) (λ_ _=>.bool true) (λ_ _=>[⟨d,1,12,102,[[vFn_ p.funcs,.bool t.plain,vAl_ t.mon.mem.allocs,iI t.mon.mem.next,vSs_ t.mon.stacks,vCi_ t.mon.running,iI t.mon.ntag,iI t.mon.ncall,vFm_ t.frames,vCi_ t.prints,vCi_ t.result,iU q]],false⟩]):=by
 obtain⟨m,⟨⟨i,k⟩,st,n,g,h⟩,j,b,c⟩:=s;obtain⟨v,⟨⟨o,u⟩,w,tr,t1,t2⟩,r,e,f⟩:=t;refine eG [] func93 λX=>?_;go_simp;repeat'(first|with_reducible first|apply ai|intro)
 exact⟨[u0],dk,⟨OB,trivial⟩,rfl⟩
def uh (p:Pr)(s t:Sa)(q o:Int)(d:Nat)(b:¬o=0): zG 93 1 (λι=>[.ptr (ι 0) d 12 0 0,t.a,iU o,iI 0]) (λ_=>[⟨d,1,12,102,[[vFn_ p.funcs,.bool s.plain,vAl_ s.mon.mem.allocs,iI s.mon.mem.next,vSs_ s.mon.stacks,vCi_ s.mon.running,iI s.mon.ntag,iI s.mon.ncall,vFm_ s.frames,vCi_ s.prints,vCi_ s.result,iU q]],false⟩]) (λ_ _=>.bool false) (λ_ _=>[⟨d,1,12,102,[[vFn_ p.funcs,.bool s.plain,vAl_ s.mon.mem.allocs,iI s.mon.mem.next,vSs_ s.mon.stacks,vCi_ s.mon.running,iI s.mon.ntag,iI s.mon.ncall,vFm_ s.frames,vCi_ s.prints,vCi_ s.result,iU o]],false⟩]):=by
 have hb:=z4 b;obtain⟨n,⟨⟨j,m⟩,st,r,h,i⟩,k,c,e⟩:=s;obtain⟨x,⟨⟨u,w⟩,y,tr,t1,t2⟩,v,f,g⟩:=t;refine eG [] func93 λX=>?_;go_simp;repeat'(first|with_reducible first|apply ai|intro)
 exact⟨[u0],dk,⟨OB,trivial⟩,rfl⟩
def oH (p:Pr)(s:Sa)(o:Opd)(q:Int)(d:Nat)(h:Env p s)(i:VlP p s o)(b:zq o=0)(e:opE (tyL p s) o=0)(j:(vlS p s o).2.2=0): zG 96 1 (λι=>[.ptr (ι 0) d 12 0 0,o.a]) (λ_=>[⟨d,1,12,102,[[vFn_ p.funcs,.bool s.plain,vAl_ s.mon.mem.allocs,iI s.mon.mem.next,vSs_ s.mon.stacks,vCi_ s.mon.running,iI s.mon.ntag,iI s.mon.ncall,vFm_ s.frames,vCi_ s.prints,vCi_ s.result,iU q]],false⟩]) (λ_ _=>.tup [.vec 5 ((vlS p s o).2.1.map Ce.c),.bool true]) (λ_ _=>[⟨d,1,12,102,[[vFn_ p.funcs,.bool (vlS p s o).1.plain,.vec 3 ((vlS p s o).1.mon.mem.allocs.map Al.c),iI (vlS p s o).1.mon.mem.next,.vec 2 ((vlS p s o).1.mon.stacks.map Ss.c),.vec 1 ((vlS p s o).1.mon.running.map ci),iI (vlS p s o).1.mon.ntag,iI (vlS p s o).1.mon.ncall,.vec 4 ((vlS p s o).1.frames.map Fm.c),.vec 1 ((vlS p s o).1.prints.map ci),.vec 1 ((vlS p s o).1.result.map ci),iU q]],false⟩]):=by
 have g:=kK p s o h i b e;have f:=wq p s (vlS p s o).1 q d;rw[j] at g;clear h i b e j;generalize (vlS p s o).1=r at *;generalize (vlS p s o).2.1=u at *;obtain⟨ok,on,⟨w,v,k⟩⟩:=o;obtain⟨D,⟨⟨A,C⟩,st,E,y,z⟩,B,m,n⟩:=s;refine eG [1] func96 λX=>?_;go_simp;repeat'(first|with_reducible first|apply ai|intro)
 refine zh hP ⟨[(13,u0,0),(17,u0,1),(3,.l 3,0),(6,.l 6,0)],true⟩ dk ?_;go_simp;repeat'(first|(apply zd g;try go_simp)|with_reducible first|apply ai|intro)
 refine zi [u0] 1 0 f ?_;intro x;go_simp;exact⟨[u0],dk,⟨OB,trivial⟩,rfl⟩
def nF (p:Pr)(s:Sa)(o:Opd)(q:Int)(d:Nat)(h:Env p s)(i:VlP p s o)(b:zq o=0)(c:opE (tyL p s) o=0)(g:¬(vlS p s o).2.2=0): zG 96 1 (λι=>[.ptr (ι 0) d 12 0 0,o.a]) (λ_=>[⟨d,1,12,102,[[vFn_ p.funcs,.bool s.plain,vAl_ s.mon.mem.allocs,iI s.mon.mem.next,vSs_ s.mon.stacks,vCi_ s.mon.running,iI s.mon.ntag,iI s.mon.ncall,vFm_ s.frames,vCi_ s.prints,vCi_ s.result,iU q]],false⟩]) (λ_ _=>.tup [.vec 5 [],.bool false]) (λ_ _=>[⟨d,1,12,102,[[vFn_ p.funcs,.bool s.plain,vAl_ s.mon.mem.allocs,iI s.mon.mem.next,vSs_ s.mon.stacks,vCi_ s.mon.running,iI s.mon.ntag,iI s.mon.ncall,vFm_ s.frames,vCi_ s.prints,vCi_ s.result,iU (vlS p s o).2.2]],false⟩]):=by
 have f:=kK p s o h i b c;have e:=uh p s s q (vlS p s o).2.2 d g;rw[LF g] at f;simp only at f;clear h i b c g;generalize (vlS p s o).2.2=n at *;obtain⟨ok,on,⟨u,r,j⟩⟩:=o;obtain⟨B,⟨⟨y,A⟩,st,C,w,x⟩,z,k,m⟩:=s;refine eG [1] func96 λX=>?_;go_simp;repeat'(first|with_reducible first|apply ai|intro)
 refine zh hP ⟨[(13,u0,0),(17,u0,1),(3,.l 3,0),(6,.l 6,0)],true⟩ dk ?_;go_simp;repeat'(first|(apply zd f;try go_simp)|with_reducible first|apply ai|intro)
 refine zi [u0] 1 0 e ?_;intro v;go_simp;exact⟨[u0],dk,⟨OB,trivial⟩,rfl⟩
def xL (p:Pr)(s:Sa)(o:Opd)(q n:Int)(d:Nat)(h:Env p s)(g:VlP p s o)(b:zq o=0)(e:opE (tyL p s) o=0)(i:(vlS p s o).2.2=0)(hn:(vlS p s o).2.1 = [ce1 n]): zG 41 1 (λι=>[.ptr (ι 0) d 12 0 0,o.a]) (λ_=>[⟨d,1,12,102,[[vFn_ p.funcs,.bool s.plain,vAl_ s.mon.mem.allocs,iI s.mon.mem.next,vSs_ s.mon.stacks,vCi_ s.mon.running,iI s.mon.ntag,iI s.mon.ncall,vFm_ s.frames,vCi_ s.prints,vCi_ s.result,iU q]],false⟩]) (λ_ _=>.tup [iI n,.bool true]) (λ_ _=>[⟨d,1,12,102,[[vFn_ p.funcs,.bool (vlS p s o).1.plain,.vec 3 ((vlS p s o).1.mon.mem.allocs.map Al.c),iI (vlS p s o).1.mon.mem.next,.vec 2 ((vlS p s o).1.mon.stacks.map Ss.c),.vec 1 ((vlS p s o).1.mon.running.map ci),iI (vlS p s o).1.mon.ntag,iI (vlS p s o).1.mon.ncall,.vec 4 ((vlS p s o).1.frames.map Fm.c),.vec 1 ((vlS p s o).1.prints.map ci),.vec 1 ((vlS p s o).1.result.map ci),iU q]],false⟩]):=by
 have f:=oH p s o q d h g b e i;rw[hn] at f;clear h g b e i hn;generalize (vlS p s o).1=r at *;obtain⟨ok,on,⟨v,u,j⟩⟩:=o;obtain⟨C,⟨⟨z,B⟩,st,D,x,y⟩,A,k,m⟩:=s;refine eG [] func41 λX=>?_;go_simp;repeat'(first|with_reducible first|apply ai|intro)
 refine zi [u0] 1 0 f ?_;intro w;go_simp;exact⟨[u0],dk,⟨OB,trivial⟩,rfl⟩
def sA (p:Pr)(s:Sa)(o:Opd)(q:Int)(d:Nat)(h:Env p s)(e:VlP p s o)(b:zq o=0)(c:opE (tyL p s) o=0)(f:¬(vlS p s o).2.2=0): zG 41 1 (λι=>[.ptr (ι 0) d 12 0 0,o.a]) (λ_=>[⟨d,1,12,102,[[vFn_ p.funcs,.bool s.plain,vAl_ s.mon.mem.allocs,iI s.mon.mem.next,vSs_ s.mon.stacks,vCi_ s.mon.running,iI s.mon.ntag,iI s.mon.ncall,vFm_ s.frames,vCi_ s.prints,vCi_ s.result,iU q]],false⟩]) (λ_ _=>.tup [iI 0,.bool false]) (λ_ _=>[⟨d,1,12,102,[[vFn_ p.funcs,.bool s.plain,vAl_ s.mon.mem.allocs,iI s.mon.mem.next,vSs_ s.mon.stacks,vCi_ s.mon.running,iI s.mon.ntag,iI s.mon.ncall,vFm_ s.frames,vCi_ s.prints,vCi_ s.result,iU (vlS p s o).2.2]],false⟩]):=by
 have g:=nF p s o q d h e b c f;clear h e b c f;generalize (vlS p s o).2.2=m at *;obtain⟨ok,on,⟨r,n,i⟩⟩:=o;obtain⟨A,⟨⟨x,z⟩,st,B,v,w⟩,y,j,k⟩:=s;refine eG [] func41 λX=>?_;go_simp;repeat'(first|with_reducible first|apply ai|intro)
 refine zi [u0] 1 0 g ?_;intro u;go_simp;exact⟨[u0],dk,⟨OB,trivial⟩,rfl⟩
abbrev wbO (p:Pr)(d:Nat)(s:Sa)(q:Int): Ob:=⟨d,1,12,102,[[vFn_ p.funcs,.bool s.plain,vAl_ s.mon.mem.allocs,iI s.mon.mem.next,vSs_ s.mon.stacks,vCi_ s.mon.running,iI s.mon.ntag,iI s.mon.ncall,vFm_ s.frames,vCi_ s.prints,vCi_ s.result,iU q]],false⟩
attribute [go_sem] wbO
def vG {f:Fn}{b i:Nat}{bk:Bk}(hb:f.blocks[b]?=some bk)(hi:i<bk.stmts.length+1): (uS f)[z6 f.blocks b+i]?=some ⟨b,i⟩:=by
 unfold uS;refine dG ?_ (zS.1 hb).1;unfold stN;rw[hb];exact hi
def wc (p:Pr)(s:Sa)(q:Int)(d n m b i:Nat)(x:Fm)(f:Fn)(bk:Bk)(o:z9 s)(K:xR p s n m x f)(hb:f.blocks[b]?=some bk)(hi:i<bk.stmts.length+1)(g:x.at_=z6 f.blocks b+i):
  zG 38 1 (λι=>[.ptr (ι 0) d 12 0 0]) (λ_=>[wbO p d s q]) (λ_ _=>.tup [.agg [iI b,iI i],bk.a]) (λ_ _=>[wbO p d s q]):=by
 have u:=YE p s n m x f o K;have e:=xC f K.fs.wf;rw[if_pos K.fs.er,K.fs.er] at e;have h:=vG hb hi;have y:=(zS.1 h).1;have c:x.at_=((z6 f.blocks b+i:Nat):Int):=by rw[g];omega
 clear g K o;generalize z6 f.blocks b+i=k at *;generalize uS f=L at *;obtain⟨P,N,O,Q⟩:=x;simp only at c;subst c;obtain⟨fp,D,C,fb⟩:=f;simp only at hb;obtain⟨v,w⟩:=zS.1 hb;obtain⟨bs,B⟩:=bk;obtain⟨J,⟨⟨G,I⟩,st,M,E,F⟩,H,z,A⟩:=s;have j:(k:Int)<L.length:=om;have r:L[k]=⟨(b:Int),(i:Int)⟩:=(zS.1 h).2;refine eG [1,4,5] func38 λX=>?_;go_simp;repeat'(first|with_reducible first|apply ai|intro)
 refine zh hP ⟨[(11,u0,0),(15,u0,1),(4,.l 4,0),(5,.l 5,0)],true⟩ dk ?_;go_simp;repeat'(first|((first|apply zd u|apply zd e);try go_simp)|with_reducible first|apply ai|intro)
 ·exfalso;omega
 refine vo hP ⟨[(40,.l 4,1),(47,.l 4,1),(44,.l 5,3),(2,.l 2,0),(3,.l 3,0)],true⟩ [42,50,52] dk ?_;go_simp;exact⟨[u0],dk,⟨OB,trivial⟩,rfl⟩
def be (p:Pr)(s:Sa)(q:Int)(d n m b i:Nat)(x:Fm)(f:Fn)(bk:Bk)(c:z9 s)(K:xR p s n m x f)(hb:f.blocks[b]?=some bk)(hi:i<bk.stmts.length+1)(a:x.at_=z6 f.blocks b+i):
  zG 99 1 (λι=>[.ptr (ι 0) d 12 0 0]) (λ_=>[wbO p d s q]) (λ_ _=>bk.jump.a') (λ_ _=>[wbO p d s q]):=by
 have e:=wc p s q d n m b i x f bk c K hb hi a
 clear c K hb hi a
 obtain⟨bs,o⟩:=bk;obtain⟨A,⟨⟨w,z⟩,st,B,u,v⟩,y,g,h⟩:=s;refine eG [] func99 λX=>?_;go_simp;repeat'(first|with_reducible first|apply ai|intro)
 refine zi [u0] 1 0 e ?_;intro r;go_simp;intro j k;exact⟨[u0],dk,⟨OB,trivial⟩,rfl⟩
def qE (p:Pr)(s:Sa)(q:Int)(d n m v:Nat)(x:Fm)(f:Fn)(c:Pt)(e:z9 s)(K:xR p s n m x f)(hp:ptE f c=0)(k:ptN f c=v):
  zG 40 1 (λι=>[.ptr (ι 0) d 12 0 0,c.a]) (λ_=>[wbO p d s q]) (λ_ _=>.tup []) (λ_ _=>[wbO p d (atS s v) q]):=by
 have u:=YE p s n m x f e K;have i:=Yi f c K.fs.wf;rw[if_pos hp,hp,k] at i;have o:=bE s e;have w:=K.n1;have h:=K.nx;have g:=e.fr;have b:atS s v=⟨s.plain,s.mon,s.frames.set n ⟨x.fn,v,x.call,x.locals⟩,s.prints,s.result⟩:=by unfold atS;rw[K.top,show s.frames.length-1=n by omega]
 rw[b];clear b e K hp k;have j:IntKind.i64.wrap ((s.frames.length:Int)-1)=(n:Int):=(AM.Tf om).trans om;have y:n<s.frames.length:=om;clear g;obtain⟨N,L,M,O⟩:=x;obtain⟨B,C⟩:=c;obtain⟨I,⟨⟨F,H⟩,st,J,D,E⟩,G,z,A⟩:=s;simp only at *;obtain⟨_,r⟩:=zS.1 h;refine eG [1,6] func40 λX=>?_;go_simp;repeat'(first|with_reducible first|apply ai|intro)
 refine zh hP ⟨[(11,u0,0),(15,u0,1),(4,.l 4,0),(5,.l 5,0)],true⟩ dk ?_;go_simp;repeat'(first|((first|apply zd u|apply zd i|(refine yR [] [.l 200] o ?_;intro q));try go_simp)|with_reducible first|apply ai|intro)
 refine zh hP ⟨[(42,u0,8),(47,u0,8),(53,.l 200,1)],true⟩ dk ?_;go_simp;refine⟨[u0],dk,⟨⟨_,rfl,rfl,rfl,rfl,rfl,rfl,gz ?_⟩,trivial⟩,yg,rfl⟩;repeat'(first|exact uC _ _ _|refine mi (qz _ _ _) ?_|refine mi (dR (by decide) rfl rfl rfl rfl sm (zT sm)) ?_)
def PJ {s:Sa}{q:Po}{n kind:Int}(h:WhV s)(hn:n=1\/n=2)(c:1<=kind/\kind<=4): rTS s q n kind 0=((sRt s q n kind 0).1,(sRt s q n kind 0).2.1,(sRt s q n kind 0).2.2,0):=by
 unfold rTS;rw[if_neg (by simpa using uA.2 h),if_neg];unfold grE;rw[if_pos c];rintro(⟨a,b⟩|a|⟨a,_⟩)
 ·omega
 ·exact a rfl
 ·exact a rfl
def qv: zg t=1\/zg t=2:=by unfold zg;split<;>simp
def boK (r:Rv): Int:=if r.kind=5 then 4 else r.bo
def YF (p:Pr)(s:Sa)(r:Rv)(q:Int)(d:Nat)(g:Env p s)(i:VlP p s r.a)(b:zq r.a=0)(e:opE (tyL p s) r.a=0)(k1:r.kind=1)(h:(vlS p s r.a).2.2=0):
  zG 91 1 (λι=>[.ptr (ι 0) d 12 0 0,r.a']) (λ_=>[wbO p d s q]) (λ_ _=>.tup [.vec 5 ((vlS p s r.a).2.1.map Ce.c),.bool true]) (λ_ _=>[wbO p d ((vlS p s r.a).1) q]):=by
 have f:=oH p s r.a q d g i b e h;clear g i b e h;generalize vlS p s r.a=V at *;obtain⟨m,n,o⟩:=V;obtain⟨F,G,E,⟨v,w,⟨al,ad,u⟩⟩,⟨bk,A,⟨z,x,y⟩⟩,⟨pl,B,C⟩⟩:=r;obtain⟨M,⟨⟨J,L⟩,st,N,H,I⟩,K,j,k⟩:=s;simp only at k1 f;subst k1;refine eG [8,11,12] func91 λX=>?_;go_simp;repeat'(first|with_reducible first|apply ai|intro)
 refine zi [u0] 1 0 (f) ?_;intro D;go_simp;exact⟨[u0],dk,⟨OB,trivial⟩,rfl⟩
def Wn (p:Pr)(s:Sa)(r:Rv)(q:Int)(d:Nat)(f:Env p s)(h:VlP p s r.a)(b:zq r.a=0)(c:opE (tyL p s) r.a=0)(k1:r.kind=1)(g:¬(vlS p s r.a).2.2=0):
  zG 91 1 (λι=>[.ptr (ι 0) d 12 0 0,r.a']) (λ_=>[wbO p d s q]) (λ_ _=>.tup [vCe_ ([]:List Ce),.bool false]) (λ_ _=>[wbO p d s ((vlS p s r.a).2.2)]):=by
 have e:=nF p s r.a q d f h b c g;clear f h b c g;generalize vlS p s r.a=V at *;obtain⟨k,m,n⟩:=V;obtain⟨E,F,D,⟨u,v,⟨al,ad,o⟩⟩,⟨bk,z,⟨y,w,x⟩⟩,⟨pl,A,B⟩⟩:=r;obtain⟨L,⟨⟨I,K⟩,st,M,G,H⟩,J,i,j⟩:=s;simp only at k1 e;subst k1;refine eG [8,11,12] func91 λX=>?_;go_simp;repeat'(first|with_reducible first|apply ai|intro)
 refine zi [u0] 1 0 (e) ?_;intro C;go_simp;exact⟨[u0],dk,⟨OB,trivial⟩,rfl⟩
def YG (p:Pr)(s:Sa)(r:Rv)(q:Int)(d:Nat)(c:Env p s)(g:zZ (tyL p s) r.pl=0)(e:0<=r.pl.field/\r.pl.field<256)(k:r.kind=4\/r.kind=5)(f:¬(fdS p s r.pl).2.2.2=0):
  zG 91 1 (λι=>[.ptr (ι 0) d 12 0 0,r.a']) (λ_=>[wbO p d s q]) (λ_ _=>.tup [.vec 5 [],.bool false]) (λ_ _=>[wbO p d s ((fdS p s r.pl).2.2.2)]):=by
 have b:=oG p s r.pl c g e;have a:=uh p s (fdS p s r.pl).1 q (fdS p s r.pl).2.2.2 d f;clear c g e f;generalize fdS p s r.pl=V at *;obtain⟨m,n,o,u⟩:=V;obtain⟨F,G,E,⟨w,x,⟨al,ad,v⟩⟩,⟨bk,B,⟨A,y,z⟩⟩,⟨pl,C,D⟩⟩:=r;obtain⟨M,⟨⟨J,L⟩,st,N,H,I⟩,K,i,j⟩:=s;simp only at k b a;rcases k with rfl|rfl
 ·refine eG [8,11,12] func91 λX=>?_;go_simp;repeat'(first|with_reducible first|apply ai|intro)
  refine zh hP ⟨[(2,.l 2,0),(37,u0,0),(41,u0,1),(43,.l 3,13),(7,.l 7,0),(8,.l 8,0)],true⟩ dk ?_;go_simp;repeat'(first|(apply zd b;try go_simp)|with_reducible first|apply ai|intro)
  refine zi [u0] 1 0 (a) ?_;intro h;go_simp;exact⟨[u0],dk,⟨OB,trivial⟩,rfl⟩
 ·refine eG [8,11,12] func91 λX=>?_;go_simp;repeat'(first|with_reducible first|apply ai|intro)
  refine zh hP ⟨[(2,.l 2,0),(37,u0,0),(41,u0,1),(43,.l 3,13),(7,.l 7,0),(8,.l 8,0)],true⟩ dk ?_;go_simp;repeat'(first|(apply zd b;try go_simp)|with_reducible first|apply ai|intro)
  refine zi [u0] 1 0 (a) ?_;intro h;go_simp;exact⟨[u0],dk,⟨OB,trivial⟩,rfl⟩
def YH (p:Pr)(s:Sa)(r:Rv)(q:Int)(d:Nat)(g:Env p s)(o:zZ (tyL p s) r.pl=0)(u:0<=r.pl.field/\r.pl.field<256)(k:r.kind=4\/r.kind=5)(hb:1<=boK r/\boK r<=4)(n:(fdS p s r.pl).2.2.2=0)
  (i:(sRt (fdS p s r.pl).1 (fdS p s r.pl).2.1 (fdS p s r.pl).2.2.1 (boK r) 0).2.2=0) :
  zG 91 1 (λι=>[.ptr (ι 0) d 12 0 0,r.a']) (λ_=>[wbO p d s q]) (λ_ _=>.tup [.vec 5 (([⟨2,0,(sRt (fdS p s r.pl).1 (fdS p s r.pl).2.1 (fdS p s r.pl).2.2.1 (boK r) 0).2.1⟩]:List Ce).map Ce.c),.bool true]) (λ_ _=>[wbO p d ((sRt (fdS p s r.pl).1 (fdS p s r.pl).2.1 (fdS p s r.pl).2.2.1 (boK r) 0).1) q]):=by
 have b:=oG p s r.pl g o u;have f:=wq p s (fdS p s r.pl).1 q d;have w:=p7 g.v.wh (p:=p) (x:=r.pl);have h:=g.same vA (uv g.v (x:=r.pl));have j:=(rj g.v g.ne o n).sz;have a:=rB (fdS p s r.pl).1 (fdS p s r.pl).2.1 (fdS p s r.pl).2.2.1 (boK r) 0 h.wf om;rw[PJ w (by rw[j];exact qv) hb] at a;have e:=wq p (fdS p s r.pl).1 (sRt (fdS p s r.pl).1 (fdS p s r.pl).2.1 (fdS p s r.pl).2.2.1 (boK r) 0).1 q d;rw[i] at a;rw[n] at b;clear g o u n w h j i;generalize sRt (fdS p s r.pl).1 (fdS p s r.pl).2.1 (fdS p s r.pl).2.2.1 (boK r) 0=W at *;generalize fdS p s r.pl=V at *;obtain⟨C,D,E,F⟩:=V;obtain⟨G,H,I⟩:=W;unfold boK at a hb;obtain⟨T,U,S,⟨K,L,⟨al,ad,J⟩⟩,⟨bk,P,⟨O,M,N⟩⟩,⟨pl,Q,R⟩⟩:=r;obtain⟨sp,⟨⟨sa,sn⟩,st,sr,Y,Z⟩,sf,A,B⟩:=s;simp only at k b f e a hb;rcases k with rfl|rfl
 ·simp only[if_pos,if_neg,reduceIte,show ¬(4:Int)=5 by decide] at a hb;refine eG [8,11,12] func91 λX=>?_;go_simp;repeat'(first|with_reducible first|apply ai|intro)
  refine zh hP ⟨[(2,.l 2,0),(37,u0,0),(41,u0,1),(43,.l 3,13),(7,.l 7,0),(8,.l 8,0)],true⟩ dk ?_;go_simp;repeat'(first|(apply zd b;try go_simp)|with_reducible first|apply ai|intro)
  refine zi [u0] 1 0 (f) ?_;intro y;go_simp;refine zh hP ⟨[(2,.l 2,0),(60,u0,1),(8,.l 8,0),(7,.l 7,0)],true⟩ dk ?_;go_simp;repeat'(first|(apply zd a;try go_simp)|with_reducible first|apply ai|intro)
  refine z5 [.l 8] 8 (SV.ptr rfl rfl rfl rfl sm rfl) ?_;refine ll hP ⟨[(2,.l 2,0),(7,.l 7,0)],true⟩ [8] (LC.mk _ _ _ _ _ _ (ji [u0]) e dk rfl (λ_=>rfl) (λ_=>rfl)) 77 dk ?_;go_simp;intro m;refine s9 rfl ?_ λz=>?_
  ·go_simp
  go_simp;exact⟨[u0],dk,⟨OB,trivial⟩,by decide,rfl⟩
 ·simp only[if_pos,if_neg,reduceIte,show ¬(4:Int)=5 by decide] at a hb;refine eG [8,11,12] func91 λX=>?_;go_simp;repeat'(first|with_reducible first|apply ai|intro)
  refine zh hP ⟨[(2,.l 2,0),(37,u0,0),(41,u0,1),(43,.l 3,13),(7,.l 7,0),(8,.l 8,0)],true⟩ dk ?_;go_simp;repeat'(first|(apply zd b;try go_simp)|with_reducible first|apply ai|intro)
  refine zi [u0] 1 0 (f) ?_;intro y;go_simp;refine zh hP ⟨[(2,.l 2,0),(60,u0,1),(8,.l 8,0),(7,.l 7,0)],true⟩ dk ?_;go_simp;repeat'(first|(apply zd a;try go_simp)|with_reducible first|apply ai|intro)
  refine z5 [.l 8] 8 (SV.ptr rfl rfl rfl rfl sm rfl) ?_;refine ll hP ⟨[(2,.l 2,0),(7,.l 7,0)],true⟩ [8] (LC.mk _ _ _ _ _ _ (ji [u0]) e dk rfl (λ_=>rfl) (λ_=>rfl)) 77 dk ?_;go_simp;intro m;refine s9 rfl ?_ λz=>?_
  ·go_simp
  go_simp;exact⟨[u0],dk,⟨OB,trivial⟩,by decide,rfl⟩
def Wo (p:Pr)(s:Sa)(r:Rv)(q:Int)(d:Nat)(g:Env p s)(o:zZ (tyL p s) r.pl=0)(u:0<=r.pl.field/\r.pl.field<256)(k:r.kind=4\/r.kind=5)(hb:1<=boK r/\boK r<=4)(n:(fdS p s r.pl).2.2.2=0)
  (i:¬(sRt (fdS p s r.pl).1 (fdS p s r.pl).2.1 (fdS p s r.pl).2.2.1 (boK r) 0).2.2=0) :
  zG 91 1 (λι=>[.ptr (ι 0) d 12 0 0,r.a']) (λ_=>[wbO p d s q]) (λ_ _=>.tup [.vec 5 (([⟨2,0,(sRt (fdS p s r.pl).1 (fdS p s r.pl).2.1 (fdS p s r.pl).2.2.1 (boK r) 0).2.1⟩]:List Ce).map Ce.c),.bool false]) (λ_ _=>[wbO p d ((fdS p s r.pl).1) ((sRt (fdS p s r.pl).1 (fdS p s r.pl).2.1 (fdS p s r.pl).2.2.1 (boK r) 0).2.2)]):=by
 have b:=oG p s r.pl g o u;have f:=wq p s (fdS p s r.pl).1 q d;have w:=p7 g.v.wh (p:=p) (x:=r.pl);have h:=g.same vA (uv g.v (x:=r.pl));have j:=(rj g.v g.ne o n).sz;have a:=rB (fdS p s r.pl).1 (fdS p s r.pl).2.1 (fdS p s r.pl).2.2.1 (boK r) 0 h.wf om;rw[PJ w (by rw[j];exact qv) hb] at a;have e:=uh p (fdS p s r.pl).1 (sRt (fdS p s r.pl).1 (fdS p s r.pl).2.1 (fdS p s r.pl).2.2.1 (boK r) 0).1 q (sRt (fdS p s r.pl).1 (fdS p s r.pl).2.1 (fdS p s r.pl).2.2.1 (boK r) 0).2.2 d i;rw[n] at b;clear g o u n w h j i;generalize sRt (fdS p s r.pl).1 (fdS p s r.pl).2.1 (fdS p s r.pl).2.2.1 (boK r) 0=W at *;generalize fdS p s r.pl=V at *;obtain⟨C,D,E,F⟩:=V;obtain⟨G,H,I⟩:=W;unfold boK at a hb;obtain⟨T,U,S,⟨K,L,⟨al,ad,J⟩⟩,⟨bk,P,⟨O,M,N⟩⟩,⟨pl,Q,R⟩⟩:=r;obtain⟨sp,⟨⟨sa,sn⟩,st,sr,Y,Z⟩,sf,A,B⟩:=s;simp only at k b f e a hb;rcases k with rfl|rfl
 ·simp only[if_pos,if_neg,reduceIte,show ¬(4:Int)=5 by decide] at a hb;refine eG [8,11,12] func91 λX=>?_;go_simp;repeat'(first|with_reducible first|apply ai|intro)
  refine zh hP ⟨[(2,.l 2,0),(37,u0,0),(41,u0,1),(43,.l 3,13),(7,.l 7,0),(8,.l 8,0)],true⟩ dk ?_;go_simp;repeat'(first|(apply zd b;try go_simp)|with_reducible first|apply ai|intro)
  refine zi [u0] 1 0 (f) ?_;intro y;go_simp;refine zh hP ⟨[(2,.l 2,0),(60,u0,1),(8,.l 8,0),(7,.l 7,0)],true⟩ dk ?_;go_simp;repeat'(first|(apply zd a;try go_simp)|with_reducible first|apply ai|intro)
  refine z5 [.l 8] 8 (SV.ptr rfl rfl rfl rfl sm rfl) ?_;refine ll hP ⟨[(2,.l 2,0),(7,.l 7,0)],true⟩ [8] (LC.mk _ _ _ _ _ _ (ji [u0]) e dk rfl (λ_=>rfl) (λ_=>rfl)) 77 dk ?_;go_simp;intro m;refine s9 rfl ?_ λz=>?_
  ·go_simp
  go_simp;exact⟨[u0],dk,⟨OB,trivial⟩,by decide,rfl⟩
 ·simp only[if_pos,if_neg,reduceIte,show ¬(4:Int)=5 by decide] at a hb;refine eG [8,11,12] func91 λX=>?_;go_simp;repeat'(first|with_reducible first|apply ai|intro)
  refine zh hP ⟨[(2,.l 2,0),(37,u0,0),(41,u0,1),(43,.l 3,13),(7,.l 7,0),(8,.l 8,0)],true⟩ dk ?_;go_simp;repeat'(first|(apply zd b;try go_simp)|with_reducible first|apply ai|intro)
  refine zi [u0] 1 0 (f) ?_;intro y;go_simp;refine zh hP ⟨[(2,.l 2,0),(60,u0,1),(8,.l 8,0),(7,.l 7,0)],true⟩ dk ?_;go_simp;repeat'(first|(apply zd a;try go_simp)|with_reducible first|apply ai|intro)
  refine z5 [.l 8] 8 (SV.ptr rfl rfl rfl rfl sm rfl) ?_;refine ll hP ⟨[(2,.l 2,0),(7,.l 7,0)],true⟩ [8] (LC.mk _ _ _ _ _ _ (ji [u0]) e dk rfl (λ_=>rfl) (λ_=>rfl)) 77 dk ?_;go_simp;intro m;refine s9 rfl ?_ λz=>?_
  ·go_simp
  go_simp;exact⟨[u0],dk,⟨OB,trivial⟩,by decide,rfl⟩
def pc (p:Pr)(s:Sa)(r:Rv)(q n1 m:Int)(d h i:Nat)(j:Env p s)(v:VlP p s r.a)(w:zq r.a=0)(y:opE (tyL p s) r.a=0)(g:VlP p s r.b)(x:zq r.b=0)(z:opE (tyL p s) r.b=0)(zA:(vlS p s r.a).2.2=0)(n:(vlS p s r.a).2.1 = [ce1 n1])(zB:(vlS p (vlS p s r.a).1 r.b).2.2=0)(o:(vlS p (vlS p s r.a).1 r.b).2.1 = [ce1 m]):
  zG 155 3 (λι=>[.ptr (ι 1) h 1 0 0,.ptr (ι 2) i 16 0 0]) (λι=>[wbO p d s q,⟨h,1,1,100,[[.ptr (ι 0) d 12 0 0]],false⟩,⟨i,1,16,87,[r.c],false⟩]) (λ_ _=>.tup [iI n1,iI m,.bool true]) (λι _=>[wbO p d ((vlS p (vlS p s r.a).1 r.b).1) q,⟨h,1,1,100,[[.ptr (ι 0) d 12 0 0]],false⟩,⟨i,1,16,87,[r.c],false⟩]):=by
 have A:=xL p s r.a q n1 d j v w y zA n;have S:=@wm p s r.a;have e:VlP p (vlS p s r.a).1 r.b:=⟨g.k,g.f,by rw[wn S];exact g.t⟩
 have B:=xL p (vlS p s r.a).1 r.b q m d j.vl e x (by rw[wn S];exact z) zB o;clear j v w y g x z zA n zB e S o;generalize vlS p (vlS p s r.a).1 r.b=W at *;generalize vlS p s r.a=V at *;obtain⟨H,I,J⟩:=W;obtain⟨E,F,G⟩:=V;obtain⟨rk,ro,Z,⟨L,M,⟨al,ad,K⟩⟩,⟨bk,Q,⟨P,N,O⟩⟩,⟨pl,R,T⟩⟩:=r;obtain⟨sp,⟨⟨sa,sn⟩,st,sr,s1,s2⟩,sf,C,D⟩:=s;simp only at *;refine eG [] func155 λX=>?_;go_simp;repeat'(first|with_reducible first|apply ai|intro)
 refine zi [u0] 1 0 (A) ?_;intro U;go_simp;refine zi [u0] 1 0 (B) ?_;intro Y;go_simp;exact⟨[u0,u1,.u (.l 2)],dk,⟨OB,OB,OB,trivial⟩,rfl⟩
def bG (p:Pr)(s:Sa)(r:Rv)(q n1 H:Int)(d e f:Nat)(h:Env p s)(g:VlP p s r.a)(i:zq r.a=0)(j:opE (tyL p s) r.a=0)(m:VlP p s r.b)(n:zq r.b=0)(w:opE (tyL p s) r.b=0)(zA:¬(vlS p s r.a).2.2=0):
  zG 155 3 (λι=>[.ptr (ι 1) e 1 0 0,.ptr (ι 2) f 16 0 0]) (λι=>[wbO p d s q,⟨e,1,1,100,[[.ptr (ι 0) d 12 0 0]],false⟩,⟨f,1,16,87,[r.c],false⟩]) (λ_ _=>.tup [iI 0,iI 0,.bool false]) (λι _=>[wbO p d s ((vlS p s r.a).2.2),⟨e,1,1,100,[[.ptr (ι 0) d 12 0 0]],false⟩,⟨f,1,16,87,[r.c],false⟩]):=by
 have k:=sA p s r.a q d h g i j zA;clear h g i j m n w zA;generalize vlS p s r.a=V at *;obtain⟨x,y,z⟩:=V;obtain⟨M,N,L,⟨B,C,⟨al,ad,A⟩⟩,⟨bk,G,⟨F,D,E⟩⟩,⟨pl,I,J⟩⟩:=r;obtain⟨T,⟨⟨Q,S⟩,st,U,O,P⟩,R,o,v⟩:=s;simp only at *;refine eG [] func155 λX=>?_;go_simp;repeat'(first|with_reducible first|apply ai|intro)
 refine zi [u0] 1 0 (k) ?_;intro K;go_simp;exact⟨[u0,u1,.u (.l 2)],dk,⟨OB,OB,OB,trivial⟩,rfl⟩
def bH (p:Pr)(s:Sa)(r:Rv)(q n1 P:Int)(d h i:Nat)(j:Env p s)(n:VlP p s r.a)(o:zq r.a=0)(w:opE (tyL p s) r.a=0)(g:VlP p s r.b)(v:zq r.b=0)(x:opE (tyL p s) r.b=0)(zA:(vlS p s r.a).2.2=0)(m:(vlS p s r.a).2.1 = [ce1 n1])(zB:¬(vlS p (vlS p s r.a).1 r.b).2.2=0):
  zG 155 3 (λι=>[.ptr (ι 1) h 1 0 0,.ptr (ι 2) i 16 0 0]) (λι=>[wbO p d s q,⟨h,1,1,100,[[.ptr (ι 0) d 12 0 0]],false⟩,⟨i,1,16,87,[r.c],false⟩]) (λ_ _=>.tup [iI n1,iI 0,.bool false]) (λι _=>[wbO p d ((vlS p s r.a).1) ((vlS p (vlS p s r.a).1 r.b).2.2),⟨h,1,1,100,[[.ptr (ι 0) d 12 0 0]],false⟩,⟨i,1,16,87,[r.c],false⟩]):=by
 have y:=xL p s r.a q n1 d j n o w zA m;have S:=@wm p s r.a;have e:VlP p (vlS p s r.a).1 r.b:=⟨g.k,g.f,by rw[wn S];exact g.t⟩
 have z:=sA p (vlS p s r.a).1 r.b q d j.vl e v (by rw[wn S];exact x) zB;clear j n o w g v x zA m zB e S;generalize vlS p (vlS p s r.a).1 r.b=W at *;generalize vlS p s r.a=V at *;obtain⟨F,G,H⟩:=W;obtain⟨C,D,E⟩:=V;obtain⟨Z,ro,Y,⟨J,K,⟨al,ad,I⟩⟩,⟨bk,O,⟨N,L,M⟩⟩,⟨pl,Q,R⟩⟩:=r;obtain⟨sp,⟨⟨sa,sn⟩,st,sr,s1,s2⟩,sf,A,B⟩:=s;simp only at *;refine eG [] func155 λX=>?_;go_simp;repeat'(first|with_reducible first|apply ai|intro)
 refine zi [u0] 1 0 (y) ?_;intro T;go_simp;refine zi [u0] 1 0 (z) ?_;intro U;go_simp;exact⟨[u0,u1,.u (.l 2)],dk,⟨OB,OB,OB,trivial⟩,rfl⟩
def UL (p:Pr)(s:Sa)(r:Rv)(q n1 c:Int)(d:Nat)(i:Env p s)(g:VlP p s r.a)(j:zq r.a=0)(n:opE (tyL p s) r.a=0)(h:VlP p s r.b)(m:zq r.b=0)(o:opE (tyL p s) r.b=0)(zA:(vlS p s r.a).2.2=0)(e:(vlS p s r.a).2.1 = [ce1 n1])(zB:(vlS p (vlS p s r.a).1 r.b).2.2=0)(f:(vlS p (vlS p s r.a).1 r.b).2.1 = [ce1 c])(k:r.kind=3):
  zG 91 1 (λι=>[.ptr (ι 0) d 12 0 0,r.a']) (λ_=>[wbO p d s q]) (λ_ _=>.tup [vCe_ ([ce1 n1,ce1 c]:List Ce),.bool true]) (λ_ _=>[wbO p d ((vlS p (vlS p s r.a).1 r.b).1) q]):=by
 have w:=λu v=>pc p s r q n1 c d u v i g j n h m o zA e zB f;clear i g j n h m o zA e zB f;generalize vlS p (vlS p s r.a).1 r.b=W at *;generalize vlS p s r.a=V at *;obtain⟨C,D,E⟩:=W;obtain⟨z,A,B⟩:=V;obtain⟨Q,R,P,⟨G,H,⟨al,ad,F⟩⟩,⟨bk,L,⟨K,I,J⟩⟩,⟨pl,M,N⟩⟩:=r;obtain⟨sp,⟨⟨U,Z⟩,st,sr,S,T⟩,Y,x,y⟩:=s;simp only at *;subst k;refine eG [8,11,12] func91 λX=>?_;go_simp;repeat'(first|with_reducible first|apply ai|intro)
 refine zi [u0,.l 2,.l 3] 3 0 (w _ _) ?_;intro O;go_simp;intro _;exact⟨[u0],dk,⟨OB,trivial⟩,by decide,rfl⟩
def YI (p:Pr)(s:Sa)(r:Rv)(q n1 e:Int)(d:Nat)(m:Env p s)(h:VlP p s r.a)(n:zq r.a=0)(u:opE (tyL p s) r.a=0)(i:VlP p s r.b)(o:zq r.b=0)(v:opE (tyL p s) r.b=0)(zA:(vlS p s r.a).2.2=0)(f:(vlS p s r.a).2.1 = [ce1 n1])(zB:(vlS p (vlS p s r.a).1 r.b).2.2=0)(g:(vlS p (vlS p s r.a).1 r.b).2.1 = [ce1 e])(k:r.kind=2)(z:(doV r.op n1 e).2=0):
  zG 91 1 (λι=>[.ptr (ι 0) d 12 0 0,r.a']) (λ_=>[wbO p d s q]) (λ_ _=>.tup [.vec 5 (([ce1 (doV r.op n1 e).1]:List Ce).map Ce.c),.bool true]) (λ_ _=>[wbO p d ((vlS p (vlS p s r.a).1 r.b).1) q]):=by
 have y:=λw x=>pc p s r q n1 e d w x m h n u i o v zA f zB g;have j:=Vb r.op n1 e;rw[z] at j;clear m h n u i o v zA f zB g z;generalize vlS p (vlS p s r.a).1 r.b=W at *;generalize vlS p s r.a=V at *;obtain⟨I,J,K⟩:=W;obtain⟨F,G,H⟩:=V;generalize doV r.op n1 e=D at *;obtain⟨C,E⟩:=D;obtain⟨Z,ro,Y,⟨M,N,⟨al,ad,L⟩⟩,⟨bk,R,⟨Q,O,P⟩⟩,⟨pl,S,T⟩⟩:=r;obtain⟨sp,⟨⟨sa,sn⟩,st,sr,s1,s2⟩,sf,A,B⟩:=s;simp only at *;subst k;refine eG [8,11,12] func91 λX=>?_;go_simp;repeat'(first|with_reducible first|apply ai|intro)
 refine zi [u0,.l 2,.l 3] 3 0 (y _ _) ?_;intro U;go_simp;repeat'(first|(apply zd j;try go_simp)|with_reducible first|apply ai|intro)
 exact⟨[u0],dk,⟨OB,trivial⟩,by decide,rfl⟩
def Wp (p:Pr)(s:Sa)(r:Rv)(q n1 c:Int)(d:Nat)(i:Env p s)(g:VlP p s r.a)(j:zq r.a=0)(n:opE (tyL p s) r.a=0)(h:VlP p s r.b)(m:zq r.b=0)(o:opE (tyL p s) r.b=0)(zA:(vlS p s r.a).2.2=0)(e:(vlS p s r.a).2.1 = [ce1 n1])(zB:(vlS p (vlS p s r.a).1 r.b).2.2=0)(f:(vlS p (vlS p s r.a).1 r.b).2.1 = [ce1 c])(k:r.kind=2)(z:¬(doV r.op n1 c).2=0):
  zG 91 1 (λι=>[.ptr (ι 0) d 12 0 0,r.a']) (λ_=>[wbO p d s q]) (λ_ _=>.tup [.vec 5 [],.bool false]) (λ_ _=>[wbO p d ((vlS p (vlS p s r.a).1 r.b).1) 4]):=by
 have w:=λu v=>pc p s r q n1 c d u v i g j n h m o zA e zB f;have x:=Vb r.op n1 c;have hb:=z4 z;clear i g j n h m o zA e zB f z;generalize vlS p (vlS p s r.a).1 r.b=W at *;generalize vlS p s r.a=V at *;obtain⟨H,I,J⟩:=W;obtain⟨E,F,G⟩:=V;generalize doV r.op n1 c=D at *;obtain⟨B,C⟩:=D;obtain⟨Y,Z,U,⟨L,M,⟨al,ad,K⟩⟩,⟨bk,Q,⟨P,N,O⟩⟩,⟨pl,R,S⟩⟩:=r;obtain⟨sp,⟨⟨sa,sn⟩,st,sr,s1,s2⟩,sf,y,A⟩:=s;simp only at *;subst k;refine eG [8,11,12] func91 λX=>?_;go_simp;repeat'(first|with_reducible first|apply ai|intro)
 refine zi [u0,.l 2,.l 3] 3 0 (w _ _) ?_;intro T;go_simp;repeat'(first|(apply zd x;try go_simp)|with_reducible first|apply ai|intro)
 exact⟨[u0],dk,⟨OB,trivial⟩,rfl⟩
def YJ (p:Pr)(s:Sa)(r:Rv)(q n1 u:Int)(d:Nat)(g:Env p s)(e:VlP p s r.a)(h:zq r.a=0)(j:opE (tyL p s) r.a=0)(f:VlP p s r.b)(i:zq r.b=0)(m:opE (tyL p s) r.b=0)(zA:¬(vlS p s r.a).2.2=0)(k:r.kind=2\/r.kind=3):
  zG 91 1 (λι=>[.ptr (ι 0) d 12 0 0,r.a']) (λ_=>[wbO p d s q]) (λ_ _=>.tup [.vec 5 [],.bool false]) (λ_ _=>[wbO p d s ((vlS p s r.a).2.2)]):=by
 have c:=λn o=>bG p s r q n1 u d n o g e h j f i m zA;clear g e h j f i m zA;generalize vlS p (vlS p s r.a).1 r.b=W at *;generalize vlS p s r.a=V at *;obtain⟨B,C,D⟩:=W;obtain⟨y,z,A⟩:=V;obtain⟨O,P,N,⟨F,G,⟨al,ad,E⟩⟩,⟨bk,K,⟨J,H,I⟩⟩,⟨pl,L,M⟩⟩:=r;obtain⟨Y,⟨⟨S,U⟩,st,Z,Q,R⟩,T,w,x⟩:=s;simp only at *;rcases k with rfl|rfl
 ·refine eG [8,11,12] func91 λX=>?_;go_simp;repeat'(first|with_reducible first|apply ai|intro)
  refine zi [u0,.l 2,.l 3] 3 0 (c _ _) ?_;intro v;go_simp;exact⟨[u0],dk,⟨OB,trivial⟩,rfl⟩
 ·refine eG [8,11,12] func91 λX=>?_;go_simp;repeat'(first|with_reducible first|apply ai|intro)
  refine zi [u0,.l 2,.l 3] 3 0 (c _ _) ?_;intro v;go_simp;exact⟨[u0],dk,⟨OB,trivial⟩,rfl⟩
def YK (p:Pr)(s:Sa)(r:Rv)(q n1 v:Int)(d:Nat)(h:Env p s)(f:VlP p s r.a)(i:zq r.a=0)(m:opE (tyL p s) r.a=0)(g:VlP p s r.b)(j:zq r.b=0)(n:opE (tyL p s) r.b=0)(zA:(vlS p s r.a).2.2=0)(c:(vlS p s r.a).2.1 = [ce1 n1])(zB:¬(vlS p (vlS p s r.a).1 r.b).2.2=0)(k:r.kind=2\/r.kind=3):
  zG 91 1 (λι=>[.ptr (ι 0) d 12 0 0,r.a']) (λ_=>[wbO p d s q]) (λ_ _=>.tup [.vec 5 [],.bool false]) (λ_ _=>[wbO p d ((vlS p s r.a).1) ((vlS p (vlS p s r.a).1 r.b).2.2)]):=by
 have e:=λo u=>bH p s r q n1 v d o u h f i m g j n zA c zB;clear h f i m g j n zA c zB;generalize vlS p (vlS p s r.a).1 r.b=W at *;generalize vlS p s r.a=V at *;obtain⟨C,D,E⟩:=W;obtain⟨z,A,B⟩:=V;obtain⟨P,Q,O,⟨G,H,⟨al,ad,F⟩⟩,⟨bk,L,⟨K,I,J⟩⟩,⟨pl,M,N⟩⟩:=r;obtain⟨Z,⟨⟨T,Y⟩,st,sr,R,S⟩,U,x,y⟩:=s;simp only at *;rcases k with rfl|rfl
 ·refine eG [8,11,12] func91 λX=>?_;go_simp;repeat'(first|with_reducible first|apply ai|intro)
  refine zi [u0,.l 2,.l 3] 3 0 (e _ _) ?_;intro w;go_simp;exact⟨[u0],dk,⟨OB,trivial⟩,rfl⟩
 ·refine eG [8,11,12] func91 λX=>?_;go_simp;repeat'(first|with_reducible first|apply ai|intro)
  refine zi [u0,.l 2,.l 3] 3 0 (e _ _) ?_;intro w;go_simp;exact⟨[u0],dk,⟨OB,trivial⟩,rfl⟩
end Go.Proofs.YtllodfoldffonaaGreatDoor
