/- A part of the proof. -/
import Derived.Test.YtllodfoldffonaaGreatDoorQ33
namespace Go.Proofs.YtllodfoldffonaaGreatDoor
open Go.Proofs.Tryz AM Go.RowKit
set_option linter.unusedSimpArgs false
set_option linter.unusedVariables false
set_option linter.defProp false
set_option maxRecDepth 100000
set_option maxHeartbeats 16000000
variable {args:List Opd}{f:Fn}{k:Nat}{l:List Ce}{n:Int}{p:Pr}{q:Po}{s:Sa}{x:St}
def Hl{m:Nat}(d:WhV s)(a:s.frames≠[])(hm:m<(zn s).locals.length){al:Al}{j:Nat}(b:atA s.mon.mem ((zn s).locals.getD m po0).al=j)(c:s.mon.mem.allocs[j]?=some al)(hl:al.live=true): rNS s m=((rnS s m).1,(rnS s m).2,0):=by
 unfold rNS;rw[if_neg (by simpa using uA.2 d),if_neg]
 ·rw[Int.toNat_natCast]
 unfold rnB;rw[Int.toNat_natCast,wX b c,hl,b];simp[a,hm]
def PK(a:Env p s){m:Nat}(hm:m<(zn s).locals.length): rNS s m=((rnS s m).1,(rnS s m).2,0):=by
 have b:=a.v.fm _ (vd a.ne);obtain⟨al,c⟩:=b.loc m _ _ (zE hm) (zE (by rw[<-b.len];exact hm));obtain⟨j,e,d⟩:=c.at_;exact Hl a.v.wh a.ne hm (by rw[zD,zE hm,zH];exact e) d c.live
def dZ (p:Pr)(s:Sa)(x:St)(d:Nat)(c:Env p s)(hx:StP p s x)(a:y6 x=true)(i:wo (tyL p s) x=0)(k:x.kind=1)(z:(rvS p s x.r).2.2=0)(o:(asS p (rvS p s x.r).1 x.pl (rvS p s x.r).2.1).2=0):
  zG 39 1 (λι=>[.ptr (ι 0) d 12 0 0,x.a']) (λ_=>[wbO p d s 0]) (λ_ _=>.tup []) (λ_ _=>[wbO p d ((asS p (rvS p s x.r).1 x.pl (rvS p s x.r).2.1).1) 0]):=by
 obtain⟨e,hp,m⟩:=hx.rv k;have g:xG x.r=true:=by
  unfold y6 at a;simp only[Bool.or_eq_true,zB,beq_iff_eq,zL] at a;rcases a with(h|h)|h
  ·exact h.1.1.2
  ·have:=h.1.1.1.1;omega
  ·have:=h.1.1.1.1;omega
 have w:=nd p s x.r 0 d c e g z;have b:xh p (rvS p s x.r).1 (zu (tyL p (rvS p s x.r).1) x.pl) (rvS p s x.r).2.1=true:=by
  rw[wn oX];unfold wo at i;rw[if_pos k,if_neg (by simp[e.t])] at i;rw[(aC i).2];exact fC c.v c.ne e.k e.t z
 have j:=qZ p (rvS p s x.r).1 x.pl (rvS p s x.r).2.1 c.rv (by rw[wn oX];exact hp) m b;have u:=wq p (rvS p s x.r).1 (asS p (rvS p s x.r).1 x.pl (rvS p s x.r).2.1).1 0 d;rw[o] at j;clear c hx a i z o e hp m g b;generalize asS p (rvS p s x.r).1 x.pl (rvS p s x.r).2.1=A at *;generalize rvS p s x.r=V at *;obtain⟨G,H⟩:=A;obtain⟨I,J,K⟩:=V;obtain⟨xk,⟨pl,W,Y⟩,⟨rk,ro,rb,⟨M,N,⟨al,ad,L⟩⟩,⟨bk,S,⟨R,P,Q⟩⟩,⟨D,B,C⟩⟩,⟨ok,on,⟨U,T,y⟩⟩,xl⟩:=x;obtain⟨sp,⟨⟨sa,sn⟩,st,sr,s1,s2⟩,sf,E,F⟩:=s;simp only at *;subst k;refine eG [] func39 λX=>?_;go_simp;intro O;refine ul ?_;refine aO [8,11] ?_;go_simp;refine zi [u0] 1 0 (w) ?_;intro Z;go_simp;refine zh hP ⟨[(29,u0,0),(33,u0,1),(35,.l 3,1),(7,.l 7,0)],true⟩ dk ?_;go_simp;repeat'(first|(apply zd j;try go_simp)|with_reducible first|apply ai|intro)
 refine zi [u0] 1 0 (u) ?_;intro q3;go_simp;exact⟨[u0],dk,⟨OB,trivial⟩,yg,rfl⟩
def bK (p:Pr)(s:Sa)(x:St)(d:Nat)(c:Env p s)(hx:StP p s x)(a:y6 x=true)(i:wo (tyL p s) x=0)(k:x.kind=1)(z:(rvS p s x.r).2.2=0)(m:¬(asS p (rvS p s x.r).1 x.pl (rvS p s x.r).2.1).2=0):
  zG 39 1 (λι=>[.ptr (ι 0) d 12 0 0,x.a']) (λ_=>[wbO p d s 0]) (λ_ _=>.tup []) (λ_ _=>[wbO p d ((rvS p s x.r).1) ((asS p (rvS p s x.r).1 x.pl (rvS p s x.r).2.1).2)]):=by
 obtain⟨e,hp,j⟩:=hx.rv k;have g:xG x.r=true:=by
  unfold y6 at a;simp only[Bool.or_eq_true,zB,beq_iff_eq,zL] at a;rcases a with(h|h)|h
  ·exact h.1.1.2
  ·have:=h.1.1.1.1;omega
  ·have:=h.1.1.1.1;omega
 have w:=nd p s x.r 0 d c e g z;have b:xh p (rvS p s x.r).1 (zu (tyL p (rvS p s x.r).1) x.pl) (rvS p s x.r).2.1=true:=by
  rw[wn oX];unfold wo at i;rw[if_pos k,if_neg (by simp[e.t])] at i;rw[(aC i).2];exact fC c.v c.ne e.k e.t z
 have o:=qZ p (rvS p s x.r).1 x.pl (rvS p s x.r).2.1 c.rv (by rw[wn oX];exact hp) j b;have u:=uh p (rvS p s x.r).1 (asS p (rvS p s x.r).1 x.pl (rvS p s x.r).2.1).1 0 (asS p (rvS p s x.r).1 x.pl (rvS p s x.r).2.1).2 d m;clear c hx a i z m e hp j g b;generalize asS p (rvS p s x.r).1 x.pl (rvS p s x.r).2.1=A at *;generalize rvS p s x.r=V at *;obtain⟨G,H⟩:=A;obtain⟨I,J,K⟩:=V;obtain⟨xk,⟨pl,W,Y⟩,⟨rk,ro,rb,⟨M,N,⟨al,ad,L⟩⟩,⟨bk,S,⟨R,P,Q⟩⟩,⟨D,B,C⟩⟩,⟨ok,on,⟨U,T,y⟩⟩,xl⟩:=x;obtain⟨sp,⟨⟨sa,sn⟩,st,sr,s1,s2⟩,sf,E,F⟩:=s;simp only at *;subst k;refine eG [] func39 λX=>?_;go_simp;intro O;refine ul ?_;refine aO [8,11] ?_;go_simp;refine zi [u0] 1 0 (w) ?_;intro Z;go_simp;refine zh hP ⟨[(29,u0,0),(33,u0,1),(35,.l 3,1),(7,.l 7,0)],true⟩ dk ?_;go_simp;repeat'(first|(apply zd o;try go_simp)|with_reducible first|apply ai|intro)
 refine zi [u0] 1 0 (u) ?_;intro q3;go_simp;exact⟨[u0],dk,⟨OB,trivial⟩,yg,rfl⟩
def bL (p:Pr)(s:Sa)(x:St)(e:Env p s)(hx:StP p s x)(a:y6 x=true)(m:wo (tyL p s) x=0)(k:x.kind=1)(z:¬(rvS p s x.r).2.2=0): ∃t:Sa,∀d,
  zG 39 1 (λι=>[.ptr (ι 0) d 12 0 0,x.a']) (λ_=>[wbO p d s 0]) (λ_ _=>.tup []) (λ_ _=>[wbO p d t ((rvS p s x.r).2.2)]):=by
 obtain⟨g,hp,j⟩:=hx.rv k;have b:xG x.r=true:=by
  unfold y6 at a;simp only[Bool.or_eq_true,zB,beq_iff_eq,zL] at a;rcases a with(h|h)|h
  ·exact h.1.1.2
  ·have:=h.1.1.1.1;omega
  ·have:=h.1.1.1.1;omega
 obtain⟨t,l,c⟩:=dU p s x.r 0 e g b z;refine⟨t,λd=>?_⟩;replace c:=c d;have hb:=z4 z;clear e hx a m g hp j b;generalize (rvS p s x.r).2.2=i at *;obtain⟨Z,⟨pl,L,M⟩,⟨P,Q,O,⟨C,D,⟨al,ad,B⟩⟩,⟨bk,I,⟨H,F,G⟩⟩,⟨w,u,v⟩⟩,⟨ok,on,⟨K,J,o⟩⟩,xl⟩:=x;obtain⟨W,⟨⟨T,V⟩,st,Y,R,S⟩,U,y,A⟩:=s;simp only at *;subst k;refine eG [] func39 λX=>?_;go_simp;intro E;refine kT 0 [(0,.ptr u0 d 12 0 0)] [(u0,⟨d,1,12,102,[[vFn_ p.funcs,.bool t.plain,vAl_ t.mon.mem.allocs,iI t.mon.mem.next,vSs_ t.mon.stacks,vCi_ t.mon.running,iI t.mon.ntag,iI t.mon.ncall,vFm_ t.frames,vCi_ t.prints,vCi_ t.result,iU i]],false⟩)] rfl ?_ ?_
 ·refine aO [8,11] ?_;go_simp;refine zi [u0] 1 0 (c) ?_;intro N;go_simp
 ·refine aO [] ?_;go_simp;exact⟨[u0],dk,⟨OB,trivial⟩,yg,rfl⟩
def cd (p:Pr)(s:Sa)(x:St)(d:Nat)(c:Env p s)(hx:StP p s x)(e:y6 x=true)(h:wo (tyL p s) x=0)(k:x.kind=3)(z:(rnS s x.loc.toNat).2=0):
  zG 39 1 (λι=>[.ptr (ι 0) d 12 0 0,x.a']) (λ_=>[wbO p d s 0]) (λ_ _=>.tup []) (λ_ _=>[wbO p d ((rnS s x.loc.toNat).1) 0]):=by
 obtain⟨m,hm,a⟩:=hx.lo k;rw[hm,Int.toNat_natCast] at z ⊢;have b:=k9 s m c.wf;rw[PK c a] at b;have g:=wq p s (rnS s m).1 0 d;rw[z] at b;clear c hx e h z a;generalize rnS s m=A at *;obtain⟨v,w⟩:=A;obtain⟨Y,⟨pl,K,L⟩,⟨O,P,N,⟨B,C,⟨al,ad,y⟩⟩,⟨bk,H,⟨G,E,F⟩⟩,⟨r,j,o⟩⟩,⟨ok,on,⟨J,I,i⟩⟩,Z⟩:=x;obtain⟨V,⟨⟨S,U⟩,st,W,Q,R⟩,T,t,u⟩:=s;simp only at *;subst k;subst hm;refine eG [] func39 λX=>?_;go_simp;intro D;refine ul ?_;refine aO [8,11] ?_;go_simp;refine zh hP ⟨[(52,u0,1),(54,.l 3,25),(10,.l 10,0)],true⟩ dk ?_;go_simp;repeat'(first|(apply zd b;try go_simp)|with_reducible first|apply ai|intro)
 refine zi [u0] 1 0 (g) ?_;intro M;go_simp;exact⟨[u0],dk,⟨OB,trivial⟩,yg,rfl⟩
def bM (p:Pr)(s:Sa)(x:St)(d:Nat)(b:Env p s)(hx:StP p s x)(c:y6 x=true)(h:wo (tyL p s) x=0)(k:x.kind=3)(z:¬(rnS s x.loc.toNat).2=0):
  zG 39 1 (λι=>[.ptr (ι 0) d 12 0 0,x.a']) (λ_=>[wbO p d s 0]) (λ_ _=>.tup []) (λ_ _=>[wbO p d s ((rnS s x.loc.toNat).2)]):=by
 obtain⟨m,hm,a⟩:=hx.lo k;rw[hm,Int.toNat_natCast] at z ⊢;have e:=k9 s m b.wf;rw[PK b a] at e;have g:=uh p s (rnS s m).1 0 (rnS s m).2 d z;clear b hx c h z a;generalize rnS s m=A at *;obtain⟨v,w⟩:=A;obtain⟨Y,⟨pl,K,L⟩,⟨O,P,N,⟨B,C,⟨al,ad,y⟩⟩,⟨bk,H,⟨G,E,F⟩⟩,⟨r,j,o⟩⟩,⟨ok,on,⟨J,I,i⟩⟩,Z⟩:=x;obtain⟨V,⟨⟨S,U⟩,st,W,Q,R⟩,T,t,u⟩:=s;simp only at *;subst k;subst hm;refine eG [] func39 λX=>?_;go_simp;intro D;refine ul ?_;refine aO [8,11] ?_;go_simp;refine zh hP ⟨[(52,u0,1),(54,.l 3,25),(10,.l 10,0)],true⟩ dk ?_;go_simp;repeat'(first|(apply zd e;try go_simp)|with_reducible first|apply ai|intro)
 refine zi [u0] 1 0 (g) ?_;intro M;go_simp;exact⟨[u0],dk,⟨OB,trivial⟩,yg,rfl⟩
def bN (p:Pr)(s:Sa)(x:St)(d:Nat)(i:Env p s)(hx:StP p s x)(b:y6 x=true)(o:wo (tyL p s) x=0)(k:x.kind=2\/x.kind=4)(z:¬(vlS p s x.a).2.2=0):
  zG 39 1 (λι=>[.ptr (ι 0) d 12 0 0,x.a']) (λ_=>[wbO p d s 0]) (λ_ _=>.tup []) (λ_ _=>[wbO p d s ((vlS p s x.a).2.2)]):=by
 obtain⟨j,t1,t2⟩:=hx.vl k;have c:zq x.a=0:=by
  unfold y6 at b;simp only[Bool.or_eq_true,zB,beq_iff_eq,zL] at b;rcases b with(h|h)|h
  ·have:=h.1.1.1.1;omega
  ·exact h.1.2
  ·have:=h.1.1.1.1;omega
 have g:=sA p s x.a 0 d i j c t1 z;have hb:=z4 z;clear i hx b o j t1 t2 c;generalize (vlS p s x.a).2.2=e at *;obtain⟨N,⟨pl,I,J⟩,⟨L,M,K,⟨A,B,⟨al,ad,y⟩⟩,⟨bk,F,⟨E,C,D⟩⟩,⟨w,u,v⟩⟩,⟨ok,on,⟨H,G,r⟩⟩,O⟩:=x;simp only at *;rcases k with rfl|rfl
 ·refine eG [] func39 λX=>?_;go_simp;intro m;refine kT 0 [(0,.ptr u0 d 12 0 0)] [(u0,⟨d,1,12,102,[[vFn_ p.funcs,.bool s.plain,vAl_ s.mon.mem.allocs,iI s.mon.mem.next,vSs_ s.mon.stacks,vCi_ s.mon.running,iI s.mon.ntag,iI s.mon.ncall,vFm_ s.frames,vCi_ s.prints,vCi_ s.result,iU e]],false⟩)] rfl ?_ ?_
  ·refine aO [8,11] ?_;go_simp;refine zi [u0] 1 0 (g) ?_;intro t;go_simp
  ·refine aO [] ?_;go_simp;exact⟨[u0],dk,⟨OB,trivial⟩,yg,rfl⟩
 ·refine eG [] func39 λX=>?_;go_simp;intro m;refine kT 0 [(0,.ptr u0 d 12 0 0)] [(u0,⟨d,1,12,102,[[vFn_ p.funcs,.bool s.plain,vAl_ s.mon.mem.allocs,iI s.mon.mem.next,vSs_ s.mon.stacks,vCi_ s.mon.running,iI s.mon.ntag,iI s.mon.ncall,vFm_ s.frames,vCi_ s.prints,vCi_ s.result,iU e]],false⟩)] rfl ?_ ?_
  ·refine aO [8,11] ?_;go_simp;refine zi [u0] 1 0 (g) ?_;intro t;go_simp
  ·refine aO [] ?_;go_simp;exact⟨[u0],dk,⟨OB,trivial⟩,yg,rfl⟩
def cf (p:Pr)(s:Sa)(x:St)(d:Nat)(g:Env p s)(hx:StP p s x)(b:y6 x=true)(m:wo (tyL p s) x=0)(n:Int)(o:x.kind=4)(hn:¬n=0)(z:(vlS p s x.a).2.2=0)(e:(vlS p s x.a).2.1 = [ce1 n]):
  zG 39 1 (λι=>[.ptr (ι 0) d 12 0 0,x.a']) (λ_=>[wbO p d s 0]) (λ_ _=>.tup []) (λ_ _=>[wbO p d ((vlS p s x.a).1) 0]):=by
 have k:x.kind=2\/x.kind=4:=om;obtain⟨i,t1,t2⟩:=hx.vl k;have c:zq x.a=0:=by
  unfold y6 at b;simp only[Bool.or_eq_true,zB,beq_iff_eq,zL] at b;rcases b with(h|h)|h
  ·have:=h.1.1.1.1;omega
  ·exact h.1.2
  ·have:=h.1.1.1.1;omega
 have j:=xL p s x.a 0 n d g i c t1 z e;clear g hx b m i t1 t2 c k z e;generalize (vlS p s x.a).1=w at *;have hb:=z4 hn;obtain⟨P,⟨pl,J,K⟩,⟨N,O,M,⟨A,B,⟨al,ad,y⟩⟩,⟨bk,G,⟨F,D,E⟩⟩,⟨v,t,u⟩⟩,⟨ok,on,⟨I,H,r⟩⟩,Q⟩:=x;simp only at *;subst o;refine eG [] func39 λX=>?_;go_simp;intro C;refine ul ?_;refine aO [8,11] ?_;go_simp;refine zi [u0] 1 0 (j) ?_;intro L;go_simp;exact⟨[u0],dk,⟨OB,trivial⟩,yg,rfl⟩
def bO (p:Pr)(s:Sa)(x:St)(d:Nat)(g:Env p s)(hx:StP p s x)(b:y6 x=true)(m:wo (tyL p s) x=0)(n:Int)(o:x.kind=4)(hn:n=0)(z:(vlS p s x.a).2.2=0)(e:(vlS p s x.a).2.1 = [ce1 n]):
  zG 39 1 (λι=>[.ptr (ι 0) d 12 0 0,x.a']) (λ_=>[wbO p d s 0]) (λ_ _=>.tup []) (λ_ _=>[wbO p d ((vlS p s x.a).1) 4]):=by
 have k:x.kind=2\/x.kind=4:=om;obtain⟨i,t1,t2⟩:=hx.vl k;have c:zq x.a=0:=by
  unfold y6 at b;simp only[Bool.or_eq_true,zB,beq_iff_eq,zL] at b;rcases b with(h|h)|h
  ·have:=h.1.1.1.1;omega
  ·exact h.1.2
  ·have:=h.1.1.1.1;omega
 have j:=xL p s x.a 0 n d g i c t1 z e;clear g hx b m i t1 t2 c k z e;generalize (vlS p s x.a).1=w at *;subst hn;obtain⟨P,⟨pl,J,K⟩,⟨N,O,M,⟨A,B,⟨al,ad,y⟩⟩,⟨bk,G,⟨F,D,E⟩⟩,⟨v,t,u⟩⟩,⟨ok,on,⟨I,H,r⟩⟩,Q⟩:=x;simp only at *;subst o;refine eG [] func39 λX=>?_;go_simp;intro C;refine ul ?_;refine aO [8,11] ?_;go_simp;refine zi [u0] 1 0 (j) ?_;intro L;go_simp;exact⟨[u0],dk,⟨OB,trivial⟩,yg,rfl⟩
def cj (p:Pr)(s:Sa)(x:St)(d:Nat)(g:Env p s)(hx:StP p s x)(b:y6 x=true)(r:wo (tyL p s) x=0)(n:Int)(t:x.kind=2)(hn:200<=(vlS p s x.a).1.prints.length)(z:(vlS p s x.a).2.2=0)(e:(vlS p s x.a).2.1 = [ce1 n]):
  zG 39 1 (λι=>[.ptr (ι 0) d 12 0 0,x.a']) (λ_=>[wbO p d s 0]) (λ_ _=>.tup []) (λ_ _=>[wbO p d ((vlS p s x.a).1) 3]):=by
 have k:x.kind=2\/x.kind=4:=om;obtain⟨i,t1,t2⟩:=hx.vl k;have c:zq x.a=0:=by
  unfold y6 at b;simp only[Bool.or_eq_true,zB,beq_iff_eq,zL] at b;rcases b with(h|h)|h
  ·have:=h.1.1.1.1;omega
  ·exact h.1.2
  ·have:=h.1.1.1.1;omega
 have m:=xL p s x.a 0 n d g i c t1 z e;clear g hx b r i t1 t2 c k z e;generalize (vlS p s x.a).1=j at *;have o:(200:Int)<=j.prints.length:=om;obtain⟨Q,⟨pl,K,L⟩,⟨O,P,N,⟨B,C,⟨al,ad,A⟩⟩,⟨bk,H,⟨G,E,F⟩⟩,⟨y,v,w⟩⟩,⟨ok,on,⟨J,I,u⟩⟩,R⟩:=x;simp only at *;subst t;refine eG [] func39 λX=>?_;go_simp;intro D;refine ul ?_;refine aO [8,11] ?_;go_simp;refine zi [u0] 1 0 (m) ?_;intro M;go_simp;exact⟨[u0],dk,⟨OB,trivial⟩,yg,rfl⟩
def cm (p:Pr)(s:Sa)(x:St)(d:Nat)(i:Env p s)(hx:StP p s x)(b:y6 x=true)(w:wo (tyL p s) x=0)(n:Int)(y:x.kind=2)(hn:¬200<=(vlS p s x.a).1.prints.length)(z:(vlS p s x.a).2.2=0)(e:(vlS p s x.a).2.1 = [ce1 n]):
  zG 39 1 (λι=>[.ptr (ι 0) d 12 0 0,x.a']) (λ_=>[wbO p d s 0]) (λ_ _=>.tup []) (λ_ _=>[wbO p d ((prS (vlS p s x.a).1 n)) 0]):=by
 have k:x.kind=2\/x.kind=4:=om;obtain⟨t,t1,t2⟩:=hx.vl k;have c:zq x.a=0:=by
  unfold y6 at b;simp only[Bool.or_eq_true,zB,beq_iff_eq,zL] at b;rcases b with(h|h)|h
  ·have:=h.1.1.1.1;omega
  ·exact h.1.2
  ·have:=h.1.1.1.1;omega
 have u:=xL p s x.a 0 n d i t c t1 z e;have j:=i.vl.wf.pr (s:=(vlS p s x.a).1);clear i hx b w t t1 t2 c k z e;generalize (vlS p s x.a).1=m at *;have v:¬(200:Int)<=m.prints.length:=om;have g:=tY (yb tE m.prints) (by simpa using j);obtain⟨U,⟨pl,O,P⟩,⟨S,T,R,⟨F,G,⟨al,ad,E⟩⟩,⟨bk,L,⟨K,I,J⟩⟩,⟨D,B,C⟩⟩,⟨ok,on,⟨N,M,A⟩⟩,V⟩:=x;simp only at *;subst y;refine eG [] func39 λX=>?_;go_simp;intro H;refine ul ?_;refine aO [8,11] ?_;go_simp;refine zi [u0] 1 0 (u) ?_;intro Q;go_simp;repeat'(first|(refine xu (.l 111) g ?_;intro o r;try go_simp)|with_reducible first|apply ai|intro)
 ·omega
 refine⟨[u0],dk,⟨⟨_,rfl,rfl,rfl,rfl,rfl,rfl,gz ?_⟩,trivial⟩,yg,rfl⟩;repeat'(first|exact uC _ _ _|refine mi (qz _ _ _) ?_|refine mi (dR (by decide) rfl rfl rfl rfl sm (zT sm)) ?_)
def caW (p:Pr)(s:Sa)(k:Nat)(f:Fn)(args:List Opd): Sa×Int :=
 if ¬(y5 p s args []).2.2=0 then((y5 p s args []).1,(y5 p s args []).2.2) else if ¬(puS (y5 p s args []).1 k f (y5 p s args []).2.1).2=0 then((y5 p s args []).1,(puS (y5 p s args []).1 k f (y5 p s args []).2.1).2) else puS (y5 p s args []).1 k f (y5 p s args []).2.1
def LX(h:(caS p s k f args).2=0): caW p s k f args=caS p s k f args:=by
 unfold caS caW at *;split at h
 ·rename_i c;exact absurd h c
 ·rename_i c;rw[if_neg c,if_neg c,if_neg (by simpa using h)]
def aG: (caW p s k f args).2=(caS p s k f args).2:=by
 unfold caS caW;split
 ·rfl
 split<;>rfl
def SG (p:Pr)(s:Sa)(n m k:Nat)(x:Fm)(fx f:Fn)(j:Ju)(d:Nat)(he:Env p s)(K:xR p s n m x fx)(hj:CaP p s k f j.args)(C:CaF p fx f j)(hk:j.fn=k)(h9:∀o∈j.args,zq o=0)(hg:yW fx.blocks x.at_ k=true):
  zG 43 1 (λι=>[.ptr (ι 0) d 12 0 0,j.a']) (λ_=>[wbO p d s 0]) (λ_ _=>.tup []) (λ_ _=>[wbO p d ((caW p s k f j.args).1) ((caW p s k f j.args).2)]):=by
 suffices HH:∀R,Hd (∀r,caW p s k f j.args=r->R=r)->zG 43 1 (λι=>[.ptr (ι 0) d 12 0 0,j.a']) (λ_=>[wbO p d s 0]) (λ_ _=>.tup []) (λ_ _=>[wbO p d (R.1) (R.2)]) from HH _ ⟨λr h=>h⟩
 intro R h4;have b:=λz=>LP he K C z;have h7:=hj.ff;have h8:=hj.len;have Q:=hj.op;have hn:=Hd.mk C.n;have ha:=he.ty;have hc:=he.wp;have hm:yu p (zn s).fn=fx:=by rw[K.top];exact K.ge
 have hp:=K.top;have hf:=s8 hc (vW ha) f (zF h7);have ht:=hf.l16;clear hj C K;obtain⟨jk,⟨ak,an,⟨al,ad,af⟩⟩,jf,jn,je,args,⟨dl,dd,df⟩⟩:=j;simp only at *;subst hk;have P:Hd (∀r,(if ¬(y5 p s args []).2.2=0 then((y5 p s args []).1,(y5 p s args []).2.2) else if ¬(puS (y5 p s args []).1 k f (y5 p s args []).2.1).2=0 then((y5 p s args []).1,(puS (y5 p s args []).1 k f (y5 p s args []).2.1).2) else puS (y5 p s args []).1 k f (y5 p s args []).2.1)=r->R=r):=⟨λr hr=>h4.out r hr⟩
 clear h4;generalize Y:y5 p s args []=G at P b;replace Y:=Hd.mk Y;replace b:=Hd.mk b;refine eG [9] func43 λX=>?_;go_simp;repeat'(first|with_reducible first|apply ai|intro)
 rename_i b3;refine sS 4 (.l 201) 1 134 (by go_simp) (by go_simp) ?_;refine zf hP (B:=[9]) (G:=Nat×Sa×List (List Ce)×(Nat×Nat)) (λv=>[(0,.ptr u0 d 12 0 0),(3,.ptr (.l 3) b3 13 0 0),(4,.sl (.l 201) v.2.2.2.1 1 v.2.2.1.length v.2.2.2.2),(13,vOpd_ args),(14,iI args.length),(15,iI v.1)])
  (λv=>[(u0,wbO p d (v.2.1) 0),(.l 3,⟨b3,1,13,108,[Ju.c ⟨jk,⟨ak,an,⟨al,ad,af⟩⟩,k,jn,je,args,⟨dl,dd,df⟩⟩],false⟩),(.l 201,⟨v.2.2.2.1,v.2.2.2.2,1,134,v.2.2.1.map ck,false⟩)])
  (λv=>v.1<=args.length/\v.2.2.1.length=v.1/\Env p v.2.1/\yB s v.2.1/\(∀l∈v.2.2.1,0<l.length/\l.length<1000000)/\y5 p v.2.1 (args.drop v.1) v.2.2.1=G) (λv=>args.length-v.1) (0,s,[],(0,0)) dk ⟨Nat.zero_le _,rfl,he,.rfl',sm,Y.out⟩ ?_ ?_ ?_
 ·go_simp
 ·clear Y P b;go_simp
 clear Y;rintro⟨i,y,e,⟨e1,e2⟩⟩ ⟨hi,M,L,I,D,g⟩;simp only at hi M L I D g;by_cases J:i<args.length
 ·have hu:¬args.length<=i:=om;have hx:args[i]?=some args[i]:=zE J;have hd:args.drop i=args[i]::args.drop (i+1):=List.drop_eq_getElem_cons J;obtain⟨o1,o2,W⟩:=Q _ (zM J);have o4:=h9 _ (zM J);rw[<-wn I] at W;rw[hd] at g;clear hd Q h9;generalize hw:args[i]=o at *;have A:=oH p y o 0 d L (rC o1 o2 W) o4 W;have w:=nF p y o 0 d L (rC o1 o2 W) o4 W;have F:=Vt L W;have T:=L.vl (o:=o);have U:=I.tr (@wm p y o);have H:=λh=>(rV (p:=p) (s:=y) (o:=o) (l:=args.drop (i+1)) (a:=e) h).symm.trans g;have E:=λh=>(pO (p:=p) (s:=y) (o:=o) (l:=args.drop (i+1)) (a:=e) h).symm.trans g;clear o1 o2 W o4 g L I;obtain⟨V,h5⟩:∃V,V=vlS p y o:=⟨_,rfl⟩
  rw[<-h5] at A w F T U H E;clear h5;obtain⟨V1,V2,V3⟩:=V;simp only at A w F T U H E;obtain⟨ok,on,⟨ol,od,hz⟩⟩:=o;by_cases z:V3=0
  ·subst z;have hV:=A rfl;have hq:=H rfl;have ho:=F rfl;have h6:∀l∈e++[V2],0<l.length/\l.length<1000000:=λl hl=>by
    rcases zJ.1 hl with hl|hl
    ·exact D l hl
    ·simp at hl;subst hl;exact ho
   clear H E F D P A w b;go_simp;intro b6;refine zi [u0] 1 0 hV ?_;intro q2;go_simp;exact⟨om,λbb cc=>⟨i+1,V1,e++[V2],⟨om,by simp;omega,T,U,h6,hq⟩,om,_,_,⟨⟨rfl,by simp;omega,rfl⟩,wrS om⟩,⟨rfl,rfl,rfl,rfl,rfl,rfl,rfl,rfl,rfl,rfl⟩,rfl,rfl,by rw[zT (by simp;omega),zV];rfl⟩⟩
  ·have hV:=w z;have hb:=z4 z;obtain rfl:G=(y,e,V3):=(E z).symm;obtain rfl:=P.out (y,V3) (if_pos z);clear P H E F z A w b;go_simp;intro b6;refine zi [u0] 1 0 hV ?_;intro q2;go_simp;exact⟨[u0],dk,⟨OB,trivial⟩,yg,rfl⟩
 ·obtain rfl:i=args.length:=om;have hv:¬args.length<args.length:=om;rw[List.drop_length] at g;obtain rfl:G=(y,e,0):=g.symm;obtain⟨f1,f2⟩:=b.out rfl;have N:zn y=zn s:=f9 I;have h3:=Wg p y k f e L.wf hc ha L.v L.ne h7 (by rw[N,hm,hp];exact hg) (by have:=hn.out;simp only at f1;omega) (λl hl=>(D l hl).2) (λi t l h1 h2=>f2 i t l h1 h2);have u:=P.out;simp only[not_true,if_false] at u;have Z:=wq p y (puS y k f e).1 0 d;have O:=uh p y (puS y k f e).1 0 (puS y k f e).2 d;clear P g h8 D Q M b f1 f2 N;generalize puS y k f e=S at *;obtain⟨S1,S2⟩:=S;by_cases z:S2=0
  ·subst z;obtain rfl:=u (S1,0) (if_neg sm);clear u O;go_simp;refine z5 [.l 201] 4 (v:=.vec 1 (e.map ck)) (SV.own rfl rfl rfl rfl sm (by decide) (zT sm)) ?_;refine zh hP ⟨[(35,u0,0),(39,u0,1),(41,.l 3,6),(9,.l 9,0)],true⟩ dk ?_;go_simp;repeat'(first|(apply zd h3;try go_simp)|with_reducible first|apply ai|intro)
   refine zi [u0] 1 0 Z ?_;intro q2;go_simp;exact⟨[u0],dk,⟨OB,trivial⟩,yg,rfl⟩
  ·obtain rfl:=u (y,S2) (if_pos z);have hO:=O z;clear u Z O;go_simp;refine z5 [.l 201] 4 (v:=.vec 1 (e.map ck)) (SV.own rfl rfl rfl rfl sm (by decide) (zT sm)) ?_;refine zh hP ⟨[(35,u0,0),(39,u0,1),(41,.l 3,6),(9,.l 9,0)],true⟩ dk ?_;go_simp;repeat'(first|(apply zd h3;try go_simp)|with_reducible first|apply ai|intro)
   refine zi [u0] 1 0 hO ?_;intro q2;go_simp;exact⟨[u0],dk,⟨OB,trivial⟩,yg,rfl⟩
def eH{b i:Nat}{bk:Bk}(hs:fnS f)(hb:f.blocks[b]?=some bk)(hi:i<bk.stmts.length+1): ptE f ⟨b,i⟩=0:=by
 unfold ptE thB;rw[if_neg (by simp[hs.er])];have hl:=(zS.1 hb).1;have a:stN f.blocks b=bk.stmts.length+1:=by unfold stN;rw[hb]
 rw[Int.toNat_natCast,a];simp;omega
def SH (p:Pr)(s t:Sa)(q:Int)(d b c:Nat):
  zG 93 2 (λι=>[.ptr (ι 0) d 12 0 0,.agg [.bool t.plain,vAl_ t.mon.mem.allocs,iI t.mon.mem.next,vSs_ t.mon.stacks,vCi_ t.mon.running,iI t.mon.ntag,iI t.mon.ncall,vFm_ t.frames,vCi_ t.prints,.sl (ι 1) b 1 t.result.length c],iU 0,iI 0]) (λ_=>[wbO p d s q,⟨b,c,1,2,t.result.map ci,false⟩]) (λ_ _=>.bool true)
   (λι _=>[⟨d,1,12,102,[[vFn_ p.funcs,.bool t.plain,vAl_ t.mon.mem.allocs,iI t.mon.mem.next,vSs_ t.mon.stacks,vCi_ t.mon.running,iI t.mon.ntag,iI t.mon.ncall,vFm_ t.frames,vCi_ t.prints,.sl (ι 1) b 1 t.result.length c,iU q]],false⟩,⟨b,c,1,2,t.result.map ci,false⟩]):=by
 obtain⟨u,⟨⟨m,r⟩,st,v,i,j⟩,o,a,e⟩:=s;obtain⟨A,⟨⟨w,z⟩,B,tr,t1,t2⟩,y,g,h⟩:=t;refine eG [] func93 λX=>?_;go_simp;repeat'(first|with_reducible first|apply ai|intro)
 exact⟨[u0,u1],dk,⟨OB,OB,trivial⟩,rfl⟩
def reN (s:Sa)(l:List Ce): Sa:=⟨s.plain,s.mon,s.frames,s.prints,s.result++l.map Ce.n⟩
def bP (p:Pr)(s:Sa)(d:Nat)(g:Env p s)(z:(zk p s).2.2=0)(e:(zk p s).1.frames = []):
  zG 44 1 (λι=>[.ptr (ι 0) d 12 0 0]) (λ_=>[wbO p d s 0]) (λ_ _=>.tup []) (λ_ _=>[wbO p d (reN (zk p s).1 (zk p s).2.1) 1]):=by
 have h:=kB p s g.wf g.wp g.ty g.v g.ne z;have A:=λb c=>SH p s (zk p s).1 0 d b c;have hl:=mf (p:=p) g.v.wh;have C:(zk p s).1.result.length<1000000:=by rw[rW.2.2,j9 g.v g.ne];decide
 clear g z;unfold reN;generalize zk p s=V at *;obtain⟨⟨vp,⟨⟨J,K⟩,M,L,H,I⟩,vf,r,m⟩,a,N⟩:=V;obtain⟨sp,⟨⟨sa,sn⟩,st,sr,Y,Z⟩,sf,E,F⟩:=s;simp only at *;subst e;refine eG [0,6,10] func44 λX=>?_;go_simp;repeat'(first|with_reducible first|apply ai|intro)
 refine uq hP ⟨[(12,u0,0),(16,u0,1),(2,.l 2,0)],true⟩ [18] dk ?_;go_simp;repeat'(first|(refine j8 h ?_;intro q;try go_simp)|with_reducible first|apply ai|intro)
 refine zi [u0,.s 0 (.l 18)] 2 0 (A (q 0).1 (q 0).2) ?_;intro W;go_simp;rename_i O;refine lG [6] (G:=Nat×(Nat×Nat)) (λv=>[(0,.ptr u0 d 12 0 0),(36,vCe_ a),(37,iI a.length),(38,iI v.1)]) (λv=>[(u0,⟨d,1,12,102,[[vFn_ p.funcs,.bool vp,vAl_ J,iI K,vSs_ M,vCi_ L,iI H,iI I,.vec 4 [],vCi_ r,.sl (.s 0 (.l 18)) v.2.1 1 (m++(a.take v.1).map Ce.n).length v.2.2,iU 0]],false⟩),(.s 0 (.l 18),⟨v.2.1,v.2.2,1,2,(m++(a.take v.1).map Ce.n).map ci,false⟩)]) (λv=>v.1<=a.length) (λv=>a.length-v.1) (0,(q 0)) ?_ (h0:=(Nat.zero_le _))
 rintro⟨i,⟨Q,R⟩⟩ hi;simp only at hi;by_cases o:i<a.length
 ·have t:¬a.length<=i:=om;have j:a[i]?=some a[i]:=zE o;have D:a.take (i+1)=a.take i++[a[i]]:=by rw[List.take_add_one,j];rfl
  generalize B:a[i]=x at *;obtain⟨w,y,⟨S,T,U⟩⟩:=x;go_simp;intro P;refine lm hP ⟨[(46,u0,10),(54,u0,10),(47,.s 0 (.l 18),0),(48,.l 7,1),(50,.l 50,0)],true⟩ dk ?_;go_simp;exact⟨om,λ_ _=>⟨i+1,om,om,wrS om,_,_,⟨rfl,om,rfl⟩,rfl,rfl,by rw[zT (by simp;omega),List.append_assoc,List.take_add_one,List.getElem?_map,j];rfl⟩⟩
 ·obtain rfl:i=a.length:=om;have u:¬a.length<a.length:=om;rw[List.take_length];go_simp;refine⟨[u0],dk,⟨⟨_,rfl,rfl,rfl,rfl,rfl,rfl,gz ?_⟩,trivial⟩,yg,rfl⟩;repeat'(first|exact uC _ _ _|refine mi (qz _ _ _) ?_|refine mi (dR (by decide) rfl rfl rfl rfl sm (zT sm)) ?_)
def oK (p:Pr)(s:Sa)(b:Env p s)(z:(zk p s).2.2=0): zK 98 [p.a,s.a] (.tup [(zk p s).1.a,.vec 5 ((zk p s).2.1.map Ce.c),iU 0,iI 0]) :=
 (kB p s b.wf b.wp b.ty b.v b.ne z).k1 λq=>by go_simp
def YR (p:Pr)(s:Sa)(d:Nat)(a:Env p s)(z:¬(zk p s).2.2=0):
  zG 44 1 (λι=>[.ptr (ι 0) d 12 0 0]) (λ_=>[wbO p d s 0]) (λ_ _=>.tup []) (λ_ _=>[wbO p d s ((zk p s).2.2)]):=by
 have b:=lC p s a.wf a.wp a.ty a.v a.ne z;have c:=uh p s s 0 (zk p s).2.2 d z;have hb:=z4 z;clear a z;generalize (zk p s).2.2=h at *;obtain⟨u,⟨⟨o,t⟩,st,w,j,m⟩,r,e,g⟩:=s;simp only at *;refine eG [0,6,10] func44 λX=>?_;go_simp;repeat'(first|with_reducible first|apply ai|intro)
 refine zh hP ⟨[(12,u0,0),(16,u0,1),(2,.l 2,0)],true⟩ dk ?_;go_simp;repeat'(first|(apply zd b;try go_simp)|with_reducible first|apply ai|intro)
 refine zi [u0] 1 0 c ?_;intro i;go_simp;exact⟨[u0],dk,⟨OB,trivial⟩,yg,rfl⟩
def SJ{h:Fn}{c:Ju}(g:Env p s)(z:(zk p s).2.2=0)(e:(zk p s).1.frames≠[])(R:ReF p s h c)(j:rgP p)(d:xh p (zk p s).1 (zu (tyL p (zk p s).1) c.dest) (zk p s).2.1=true):
  zK 92 [p.a,(zk p s).1.a,c.dest.a,.vec 5 ((zk p s).2.1.map Ce.c)] (.tup [(asS p (zk p s).1 c.dest (zk p s).2.1).1.a,iU (asS p (zk p s).1 c.dest (zk p s).2.1).2,iI 0]):=by
 have P:=R.P g j (mf g.v.wh);obtain⟨a,b,c1,i,_⟩:=P.go z e;exact qZ p _ _ _ a c1 i d
def bQ (p:Pr)(s:Sa)(h:Fn)(c:Ju)(d:Nat)(o:Env p s)(z:(zk p s).2.2=0)(e:(zk p s).1.frames≠[])(R:ReF p s h c)(w:rgP p)(a:xh p (zk p s).1 (zu (tyL p (zk p s).1) c.dest) (zk p s).2.1=true)(F:(asS p (zk p s).1 c.dest (zk p s).2.1).2=0):
  zG 44 1 (λι=>[.ptr (ι 0) d 12 0 0]) (λ_=>[wbO p d s 0]) (λ_ _=>.tup []) (λ_ _=>[wbO p d (atS (asS p (zk p s).1 c.dest (zk p s).2.1).1 (z6 h.blocks c.next.toNat)) 0]):=by
 have j:=oK p s o z;have D:=SJ o z e R w a;have P:=R.P o w (mf o.v.wh);obtain⟨_,_,_,_,⟨i,hi,I⟩⟩:=P.go z e;have H:=wq p s (zk p s).1 0 d;obtain⟨n,m,x,b,bk,K,A,C,g,B⟩:=R.top;have E:=be p (zk p s).1 0 d n m b bk.stmts.length x h bk R.env.wf K A om C;rw[g] at E;have r:=wq p (zk p s).1 (asS p (zk p s).1 c.dest (zk p s).2.1).1 0 d;rw[F] at D;have u:i<h.blocks.length:=by
  have hk:=R.kd;have:=B.ld c.next (by rw[g];unfold xx;rw[if_neg om,if_neg om];simp)
  omega
 obtain⟨y,t⟩:∃y,h.blocks[i]?=some y:=⟨_,zE u⟩
 have G:=qE p (asS p (zk p s).1 c.dest (zk p s).2.1).1 0 d n m (z6 h.blocks i) x h ⟨i,0⟩ (lf.wf R.env.wf (UH R.env.v.wh)) (K.same lf) (eH K.fs t (Nat.succ_pos _)) (by unfold ptN;simp);rw[hi,Int.toNat_natCast];clear o z R w a P K A C B g F;generalize z6 h.blocks i=pn at *;generalize asS p (zk p s).1 c.dest (zk p s).2.1=W at *;generalize zk p s=V at *;obtain⟨M,N,O⟩:=V;obtain⟨Q,S⟩:=W;obtain⟨jk,⟨U,Y,⟨al,ad,T⟩⟩,jf,jn,je,args,⟨dl,dd,df⟩⟩:=c;obtain⟨sp,⟨⟨sa,sn⟩,st,sr,s1,s2⟩,sf,J,L⟩:=s;simp only at *;subst hi;refine eG [0,6,10] func44 λX=>?_;go_simp;repeat'(first|with_reducible first|apply ai|intro)
 refine zh hP ⟨[(12,u0,0),(16,u0,1),(2,.l 2,0)],true⟩ dk ?_;go_simp;repeat'(first|(apply zd j;try go_simp)|with_reducible first|apply ai|intro)
 refine zi [u0] 1 0 H ?_;intro q2;go_simp;refine zi [u0] 1 0 E ?_;intro q3;go_simp;intro Z;refine zh hP ⟨[(64,u0,0),(68,u0,1),(70,.l 8,10),(2,.l 2,0)],true⟩ dk ?_;go_simp;repeat'(first|(apply zd D;try go_simp)|with_reducible first|apply ai|intro)
 refine zi [u0] 1 0 r ?_;intro q4;go_simp;refine zi [u0] 1 0 G ?_;intro q5;go_simp;exact⟨[u0],dk,⟨OB,trivial⟩,yg,rfl⟩
def YS (p:Pr)(s:Sa)(h:Fn)(c:Ju)(d:Nat)(o:Env p s)(z:(zk p s).2.2=0)(e:(zk p s).1.frames≠[])(R:ReF p s h c)(t:rgP p)(a:xh p (zk p s).1 (zu (tyL p (zk p s).1) c.dest) (zk p s).2.1=true)(A:¬(asS p (zk p s).1 c.dest (zk p s).2.1).2=0):
  zG 44 1 (λι=>[.ptr (ι 0) d 12 0 0]) (λ_=>[wbO p d s 0]) (λ_ _=>.tup []) (λ_ _=>[wbO p d ((zk p s).1) ((asS p (zk p s).1 c.dest (zk p s).2.1).2)]):=by
 have g:=oK p s o z;have C:=SJ o z e R t a;have P:=R.P o t (mf o.v.wh);obtain⟨_,_,_,_,⟨i,hi,E⟩⟩:=P.go z e;have D:=wq p s (zk p s).1 0 d;obtain⟨n,m,x,b,bk,K,u,w,j,B⟩:=R.top;have y:=be p (zk p s).1 0 d n m b bk.stmts.length x h bk R.env.wf K u om w;rw[j] at y;have r:=uh p (zk p s).1 (asS p (zk p s).1 c.dest (zk p s).2.1).1 0 (asS p (zk p s).1 c.dest (zk p s).2.1).2 d A;clear o z R t a P K u w B j A;generalize asS p (zk p s).1 c.dest (zk p s).2.1=W at *;generalize zk p s=V at *;obtain⟨H,I,J⟩:=V;obtain⟨L,M⟩:=W;obtain⟨jk,⟨O,Q,⟨al,ad,N⟩⟩,Z,jn,Y,args,⟨U,T,df⟩⟩:=c;obtain⟨sp,⟨⟨sa,sn⟩,st,sr,s1,s2⟩,sf,F,G⟩:=s;simp only at *;refine eG [0,6,10] func44 λX=>?_;go_simp;repeat'(first|with_reducible first|apply ai|intro)
 refine zh hP ⟨[(12,u0,0),(16,u0,1),(2,.l 2,0)],true⟩ dk ?_;go_simp;repeat'(first|(apply zd g;try go_simp)|with_reducible first|apply ai|intro)
 refine zi [u0] 1 0 D ?_;intro q2;go_simp;refine zi [u0] 1 0 y ?_;intro q3;go_simp;intro S;refine zh hP ⟨[(64,u0,0),(68,u0,1),(70,.l 8,10),(2,.l 2,0)],true⟩ dk ?_;go_simp;repeat'(first|(apply zd C;try go_simp)|with_reducible first|apply ai|intro)
 refine zi [u0] 1 0 r ?_;intro q4;go_simp;exact⟨[u0],dk,⟨OB,trivial⟩,yg,rfl⟩
def kP(a:z9 s)(b:s.frames≠[]){v:Int}: z9 (atS s v):=by
 refine⟨a.mo,by unfold atS;simpa using a.fr,λx hx=>?_,a.pr,a.re⟩;rcases List.mem_or_eq_of_mem_set hx with h|rfl
 ·exact a.lo x h
 ·exact a.lo (zn s) (vd b)
def NR(a:z9 s){n k:Nat}{x:Fm}(hx:x.locals.length<1000000): z9 (n9 s n k x q):=by
 refine⟨a.mo,by unfold n9;simpa using a.fr,λy b=>?_,a.pr,a.re⟩;rcases List.mem_or_eq_of_mem_set b with h|rfl
 ·exact a.lo y h
 ·simpa using hx
def LY(a:z9 s)(c:WhV s)(b:s.frames≠[]): z9 (rnS s k).1:=by
 unfold rnS;split
 ·exact a
 split
 ·exact a
 ·exact NR (LB (Sq a c) (fL c)) (a.lo _ (vd b))
def SK(b:Env p s): z9 (stS p s x).1:=by
 unfold stS;split
 ·split
  ·exact b.wf
  ·exact lf.wf b.rv.wf (UH b.rv.v.wh)
 split
 ·exact LY b.wf b.v.wh b.ne
 split
 ·exact b.wf
 split
 ·split
  ·exact b.wf
  ·exact b.vl.wf
 split
 ·exact b.wf
 ·have h:=b.vl (o:=x.a);exact⟨h.wf.mo,h.wf.fr,h.wf.lo,by unfold prS;have:=h.v.np;simp;omega,h.wf.re⟩
def LZ(a:Env p s): (stS p s x).1.frames≠[]:=λe=>by
 have h:=(Vu (p:=p) (x:=x) a.ne).1;rw[e] at h;exact a.ne (List.eq_nil_of_length_eq_zero h.symm)
def PM {call:Int}: ∀ {ls:List (List Ce)} {qs:List Po} {ts:List Ty} {s:Sa},yB s (rtF call s qs ts ls).1
 |[],qs,ts,s=>by rw[md];exact .rfl'
 |l::ls,[],ts,s=>.rfl'
 |l::ls,q::qs,[],s=>.rfl'
 |l::ls,q::qs,t::ts,s=>by
  by_cases z:(rt1 call s q t l).2=0
  ·rw[mc z];exact Px.tr PM
  ·rw[fP z];exact .rfl'
def PN {call:Int}: ∀ {ls:List (List Ce)} {qs:List Po} {ts:List Ty} {s:Sa},WhV s->WhV (rtF call s qs ts ls).1
 |[],qs,ts,s,h=>by rw[md];exact h
 |l::ls,[],ts,s,h=>h
 |l::ls,q::qs,[],s,h=>h
 |l::ls,q::qs,t::ts,s,h=>by
  by_cases z:(rt1 call s q t l).2=0
  ·rw[mc z];exact PN (Py h)
  ·rw[fP z];exact h
def Ka(a:Env p s){k:Int}{args:List (List Ce)}(m:f.locals.length<1000000): z9 (puS s k f args).1:=by
 unfold puS;split
 ·exact a.wf
 rename_i d;split
 ·exact a.wf
 rename_i c;split
 ·exact a.wf
 rename_i e;split
 ·exact a.wf
 split
 ·exact a.wf
 have i:yB s (puA s f).1:=a9.tr Pz;have j:yB s (puB s f args).1:=i.tr P0;have b:yB s (puC s f args).1:=j.tr PM;have r:=fN a.v.wh (by simpa using c);have o:WhV (puC s f args).1:=PN (P1 (UD r));have w:=b.wf a.wf o;have hl:=Vp (s:=sEn s) (ts:=f.locals) (ls:=[]) (by simpa[puA] using e);refine⟨w.mo,?_,λx hx=>?_,w.pr,w.re⟩
 ·have:=w.fr;have g:=b.fr;simp only[List.length_append,List.length_singleton];rw[g];omega
 ·rcases zJ.1 hx with h|h
  ·exact w.lo x h
  ·rw[zX.1 h];show(alF (sEn s) f.locals []).2.1.length<_;rw[hl];simpa using m
def Kb(b:Env p s)(c:f.locals.length<1000000): z9 (caW p s k f args).1:=by
 have h:=b.same S5 (S4 b.v (l:=args) (a:=[]));unfold caW;split
 ·exact h.wf
 split
 ·exact h.wf
 ·exact Ka h c
def Kc(d:Env p s)(z:(zk p s).2.2=0)(e:(zk p s).1.frames = []): z9 (reN (zk p s).1 (zk p s).2.1):=by
 obtain⟨a,b,c⟩:=Yb d.v d.ne z;refine⟨a.wfm,by unfold reN;rw[e];simp,λx hx=>by unfold reN at hx;rw[e] at hx;simp at hx,by unfold reN;rw[rW.2.1];have:=d.v.np;omega,?_⟩;have hl:(zk p s).2.1.length<=2:=by
  unfold zk;split
  ·simp
  split
  ·simp
  ·by_cases g:(sLd s (vY (zn s)) (wK p (zn s))).2.2=0
   ·obtain⟨_,_,h,_,_,f4⟩:=uD d.v.wh g;have:=h.n1
    simp only;omega
   ·rw[dQ g];simp
 have i:=j9 d.v d.ne;unfold reN;simp only[List.length_append,zU,rW.2.2];omega
def NS{n:Nat}(hn:n+1=s.frames.length): s.frames[n]?=some (zn s):=by
 unfold zn;rw[zD,show s.frames.length-1=n by omega,zE om];rfl
def SM {s T:Sa}{x:Fm}(c:T.frames.length=s.frames.length)(a:s.frames≠[]): zn (n9 T (s.frames.length-1) k x q)=⟨x.fn,x.at_,x.call,x.locals.set k q⟩:=by
 have b:0<s.frames.length:=List.length_pos_iff.2 a;unfold zn n9;simp only[List.length_set,zD,c];rw[List.getElem?_set_self om];rfl
def Kd(a:s.frames≠[]): (zn (rnS s k).1).fn=(zn s).fn/\(zn (rnS s k).1).locals.length=(zn s).locals.length:=by
 have b:∀n,yB s (sAl (sEd s ((zn s).locals.getD k po0).al).1 n).1:=λn=>aA.tr az;unfold rnS;split
 ·exact⟨rfl,rfl⟩
 split
 ·exact⟨rfl,rfl⟩
 ·rw[SM (by rw[(b _).fr]) a];exact⟨rfl,sm⟩
def Ke(b:s.frames≠[]): (zn (stS p s x).1).fn=(zn s).fn/\(zn (stS p s x).1).locals.length=(zn s).locals.length:=by
 have same:∀ {t:Sa},yB s t->(zn t).fn=(zn s).fn/\(zn t).locals.length=(zn s).locals.length:=λh=>by rw[f9 h];exact⟨rfl,rfl⟩
 unfold stS;split
 ·split
  ·exact⟨rfl,rfl⟩
  ·exact same (oX.tr lf)
 split
 ·exact Kd b
 split
 ·exact⟨rfl,rfl⟩
 split
 ·split
  ·exact⟨rfl,rfl⟩
  ·exact same wm
 split
 ·exact⟨rfl,rfl⟩
 ·have h:=same (@wm p s x.a);exact h
def Hm{n m:Nat}{y:Fm}(e:Env p s)(K:xR p s n m y f)(j:(stS p s x).2=0): ∃h g i d,xR p (stS p s x).1 h g i d/\d=f:=by
 have c:=(Vu (p:=p) (x:=x) e.ne)
 have a:=Ke (p:=p) (x:=x) e.ne;have b:=K.top;have hn:=K.n1;refine⟨n,m,zn (stS p s x).1,f,⟨rfl,by rw[c.1];exact hn,NS (by rw[c.1];exact hn),by rw[a.1,b];exact K.fn,K.ff,K.fs,by rw[a.2,b];exact K.len,by rw[c.2,b];exact K.at_,by rw[a.1,b];exact K.ge,?_⟩,rfl⟩;have:=K.tyl
 unfold tyL at *;rw[a.1];exact this
def oL(a:Env p s): aSE p s=0:=by
 unfold aSE;rw[if_neg (by simp[a.v.ck a.ty]),if_neg a.ne];try exact a.v.ck a.ty
def UQ (p:Pr)(s:Sa)(f:Fn)(k:Nat)(g h:Fn)(c:Ju)(bk:Bk)(i n m b:Nat)(x:Fm)(e:Env p s)(Q:SdQ p s f k g h c bk i n m b x)(u:i<bk.stmts.length)(t:Sa)(o:Int)(J:¬o=0)(D:¬o=1)(E:∀d,zG 39 1 (λι=>[.ptr (ι 0) d 12 0 0,(bk.stmts.getD i yY).a']) (λ_=>[wbO p d s 0]) (λ_ _=>.tup []) (λ_ _=>[wbO p d t o])):
  zK 14 [p.a,s.a] (.tup [s.a,iU o,iI 0]):=by
 have v:=w9 p s e.wf e.wp;rw[oL e] at v;have w:=yO s e.wf;have j:=λd=>wc p s 0 d n m b i x f bk e.wf Q.K Q.hb Q.hi Q.at_;have F:=z4 J;have G:(o != 1)=true:=by simpa using D
 have y:(i:Int)<bk.stmts.length:=om;have r:bk.stmts[i]?=some (bk.stmts.getD i yY):=by rw[zD,zE u];rfl
 clear e Q;generalize bk.stmts.getD i yY=z at *;obtain⟨bs,⟨W,⟨O,P,⟨al,ad,N⟩⟩,V,Y,U,args,⟨T,S,df⟩⟩⟩:=bk;obtain⟨H,I⟩:=zS.1 r;obtain⟨sp,⟨⟨sa,sn⟩,st,sr,s1,s2⟩,sf,L,M⟩:=s;simp only at *;refine eK [4,26,27] func14 λX=>?_;go_simp;repeat'(first|(apply zd v;try go_simp)|with_reducible first|apply ai|intro)
 refine zh hP ⟨[(2,.l 2,0),(3,.l 3,0)],true⟩ dk ?_;go_simp;repeat'(first|(apply zd w;try go_simp)|with_reducible first|apply ai|intro)
 rename_i C;refine zi [.l 26] 1 0 (j _) ?_;intro Z;go_simp;intro R A B;refine zi [.l 26] 1 0 (E _) ?_;intro q3;go_simp;refine zh hP ⟨[(3,.l 3,0),(127,.l 26,11),(4,.l 4,0)],true⟩ dk ?_;go_simp;repeat'(first|(apply zd w;try go_simp)|with_reducible first|apply ai|intro)
def Wu (p:Pr)(s:Sa)(f:Fn)(k:Nat)(g h:Fn)(c:Ju)(bk:Bk)(i n m b:Nat)(x:Fm)(e:Env p s)(Q:SdQ p s f k g h c bk i n m b x)(u:i<bk.stmts.length)(C:(stS p s (bk.stmts.getD i yY)).2=0)(H:∀d,zG 39 1 (λι=>[.ptr (ι 0) d 12 0 0,(bk.stmts.getD i yY).a']) (λ_=>[wbO p d s 0]) (λ_ _=>.tup []) (λ_ _=>[wbO p d ((stS p s (bk.stmts.getD i yY)).1) 0])):
  zK 14 [p.a,s.a] (.tup [(atS (stS p s (bk.stmts.getD i yY)).1 (x.at_+1)).a,iU 0,iI 0]):=by
 have y:=w9 p s e.wf e.wp;rw[oL e] at y;have G:=yO s e.wf;have r:=λd=>wc p s 0 d n m b i x f bk e.wf Q.K Q.hb Q.hi Q.at_;have B:(i:Int)<bk.stmts.length:=om;have t:bk.stmts[i]?=some (bk.stmts.getD i yY):=by rw[zD,zE u];rfl
 have o:=yO (atS (stS p s (bk.stmts.getD i yY)).1 (x.at_+1)) (kP (SK e) (LZ e));obtain⟨N,M,R,j,w,v⟩:=Hm (p:=p) (x:=bk.stmts.getD i yY) e Q.K C;obtain rfl:j=f:=v;have A:=λd=>qE p (stS p s (bk.stmts.getD i yY)).1 0 d N M (z6 j.blocks b+(i+1)) R j ⟨b,(i:Int)+1⟩ (SK e) w (eH (i:=i+1) Q.K.fs Q.hb om) (by unfold ptN;simp);rw[show((z6 j.blocks b+(i+1):Nat):Int)=x.at_+1 by rw[Q.at_];omega] at A;have L:IntKind.i64.wrap ((i:Int)+1)=(i:Int)+1:=AM.Tf (by have:=Q.K.fs.st bk (zF Q.hb);omega);clear e Q w C;generalize atS (stS p s (bk.stmts.getD i yY)).1 (x.at_+1)=T at *;generalize (stS p s (bk.stmts.getD i yY)).1=U at *;generalize bk.stmts.getD i yY=z at *;obtain⟨bs,⟨jk,⟨V,W,⟨al,ad,S⟩⟩,jf,jn,je,args,⟨dl,Z,df⟩⟩⟩:=bk;obtain⟨I,J⟩:=zS.1 t;obtain⟨sp,⟨⟨sa,sn⟩,st,sr,s1,s2⟩,sf,O,P⟩:=s;simp only at *;refine eK [4,26,27] func14 λX=>?_;go_simp;repeat'(first|(apply zd y;try go_simp)|with_reducible first|apply ai|intro)
 refine zh hP ⟨[(2,.l 2,0),(3,.l 3,0)],true⟩ dk ?_;go_simp;repeat'(first|(apply zd G;try go_simp)|with_reducible first|apply ai|intro)
 rename_i F;refine zi [.l 26] 1 0 (r _) ?_;intro q2;go_simp;intro Y D E;refine zi [.l 26] 1 0 (H _) ?_;intro q3;go_simp;refine zi [.l 26] 1 0 (A _) ?_;intro q4;go_simp;refine zh hP ⟨[(131,.l 26,1),(136,.l 26,11),(4,.l 4,0)],true⟩ dk ?_;go_simp;repeat'(first|(apply zd o;try go_simp)|with_reducible first|apply ai|intro)
def UR (p:Pr)(s:Sa)(f:Fn)(k:Nat)(g h:Fn)(c:Ju)(bk:Bk)(i n m b:Nat)(x:Fm)(e:Env p s)(Q:SdQ p s f k g h c bk i n m b x)(t:Sa)(o:Int)(F:¬o=0)(A:¬o=1)(E:¬i<bk.stmts.length)(G:bk.jump.kind=4)(B:∀d,zG 43 1 (λι=>[.ptr (ι 0) d 12 0 0,bk.jump.a']) (λ_=>[wbO p d s 0]) (λ_ _=>.tup []) (λ_ _=>[wbO p d t o])):
  zK 14 [p.a,s.a] (.tup [s.a,iU o,iI 0]):=by
 have r:=w9 p s e.wf e.wp;rw[oL e] at r;have u:=yO s e.wf;have j:=λd=>wc p s 0 d n m b i x f bk e.wf Q.K Q.hb Q.hi Q.at_;have v:¬(i:Int)<bk.stmts.length:=om;have C:=z4 F;have D:(o != 1)=true:=by simpa using A
 clear e Q;obtain⟨bs,⟨T,⟨L,M,⟨al,ad,J⟩⟩,S,U,R,args,⟨P,O,df⟩⟩⟩:=bk;obtain⟨sp,⟨⟨sa,sn⟩,st,sr,Y,Z⟩,sf,H,I⟩:=s;simp only at *;subst G;refine eK [4,26,27] func14 λX=>?_;go_simp;repeat'(first|(apply zd r;try go_simp)|with_reducible first|apply ai|intro)
 refine zh hP ⟨[(2,.l 2,0),(3,.l 3,0)],true⟩ dk ?_;go_simp;repeat'(first|(apply zd u;try go_simp)|with_reducible first|apply ai|intro)
 rename_i z;refine zi [.l 26] 1 0 (j _) ?_;intro V;go_simp;intro N w y;refine zi [.l 26] 1 0 (B _) ?_;intro W;go_simp;refine zh hP ⟨[(3,.l 3,0),(127,.l 26,11),(4,.l 4,0)],true⟩ dk ?_;go_simp;repeat'(first|(apply zd u;try go_simp)|with_reducible first|apply ai|intro)
def Wv (p:Pr)(s:Sa)(f:Fn)(k:Nat)(g h:Fn)(c:Ju)(bk:Bk)(i n m b:Nat)(x:Fm)(e:Env p s)(Q:SdQ p s f k g h c bk i n m b x)(t:Sa)(o:Int)(F:o=0\/o=1)(z:z9 t)(E:¬i<bk.stmts.length)(G:bk.jump.kind=4)(B:∀d,zG 43 1 (λι=>[.ptr (ι 0) d 12 0 0,bk.jump.a']) (λ_=>[wbO p d s 0]) (λ_ _=>.tup []) (λ_ _=>[wbO p d t o])):
  zK 14 [p.a,s.a] (.tup [t.a,iU o,iI 0]):=by
 have y:=w9 p s e.wf e.wp;rw[oL e] at y;have A:=yO s e.wf;have r:=λd=>wc p s 0 d n m b i x f bk e.wf Q.K Q.hb Q.hi Q.at_;have C:¬(i:Int)<bk.stmts.length:=om;have j:=yO t z;clear e Q;obtain⟨bs,⟨U,⟨N,O,⟨al,ad,M⟩⟩,T,V,S,args,⟨R,P,df⟩⟩⟩:=bk;obtain⟨sp,⟨⟨Z,sn⟩,st,sr,W,Y⟩,sf,J,L⟩:=s;simp only at *;subst G;rcases F with rfl|rfl
 ·refine eK [4,26,27] func14 λX=>?_;go_simp;repeat'(first|(apply zd y;try go_simp)|with_reducible first|apply ai|intro)
  refine zh hP ⟨[(2,.l 2,0),(3,.l 3,0)],true⟩ dk ?_;go_simp;repeat'(first|(apply zd A;try go_simp)|with_reducible first|apply ai|intro)
  rename_i w;refine zi [.l 26] 1 0 (r _) ?_;intro H;go_simp;intro D u v;refine zi [.l 26] 1 0 (B _) ?_;intro I;go_simp;refine zh hP ⟨[(131,.l 26,1),(136,.l 26,11),(4,.l 4,0)],true⟩ dk ?_;go_simp;repeat'(first|(apply zd j;try go_simp)|with_reducible first|apply ai|intro)
 ·refine eK [4,26,27] func14 λX=>?_;go_simp;repeat'(first|(apply zd y;try go_simp)|with_reducible first|apply ai|intro)
  refine zh hP ⟨[(2,.l 2,0),(3,.l 3,0)],true⟩ dk ?_;go_simp;repeat'(first|(apply zd A;try go_simp)|with_reducible first|apply ai|intro)
  rename_i w;refine zi [.l 26] 1 0 (r _) ?_;intro H;go_simp;intro D u v;refine zi [.l 26] 1 0 (B _) ?_;intro I;go_simp;refine zh hP ⟨[(131,.l 26,1),(136,.l 26,11),(4,.l 4,0)],true⟩ dk ?_;go_simp;repeat'(first|(apply zd j;try go_simp)|with_reducible first|apply ai|intro)
def eI (p:Pr)(s:Sa)(f:Fn)(k:Nat)(g h:Fn)(c:Ju)(bk:Bk)(i n m b:Nat)(x:Fm)(e:Env p s)(Q:SdQ p s f k g h c bk i n m b x)(t:Sa)(o:Int)(F:¬o=0)(A:¬o=1)(E:¬i<bk.stmts.length)(G:bk.jump.kind=3)(B:∀d,zG 44 1 (λι=>[.ptr (ι 0) d 12 0 0]) (λ_=>[wbO p d s 0]) (λ_ _=>.tup []) (λ_ _=>[wbO p d t o])):
  zK 14 [p.a,s.a] (.tup [s.a,iU o,iI 0]):=by
 have r:=w9 p s e.wf e.wp;rw[oL e] at r;have u:=yO s e.wf;have j:=λd=>wc p s 0 d n m b i x f bk e.wf Q.K Q.hb Q.hi Q.at_;have v:¬(i:Int)<bk.stmts.length:=om;have C:=z4 F;have D:(o != 1)=true:=by simpa using A
 clear e Q;obtain⟨bs,⟨T,⟨L,M,⟨al,ad,J⟩⟩,S,U,R,args,⟨P,O,df⟩⟩⟩:=bk;obtain⟨sp,⟨⟨sa,sn⟩,st,sr,Y,Z⟩,sf,H,I⟩:=s;simp only at *;subst G;refine eK [4,26,27] func14 λX=>?_;go_simp;repeat'(first|(apply zd r;try go_simp)|with_reducible first|apply ai|intro)
 refine zh hP ⟨[(2,.l 2,0),(3,.l 3,0)],true⟩ dk ?_;go_simp;repeat'(first|(apply zd u;try go_simp)|with_reducible first|apply ai|intro)
 rename_i z;refine zi [.l 26] 1 0 (j _) ?_;intro V;go_simp;intro N w y;refine zi [.l 26] 1 0 (B _) ?_;intro W;go_simp;refine zh hP ⟨[(3,.l 3,0),(127,.l 26,11),(4,.l 4,0)],true⟩ dk ?_;go_simp;repeat'(first|(apply zd u;try go_simp)|with_reducible first|apply ai|intro)
def jX (p:Pr)(s:Sa)(f:Fn)(k:Nat)(g h:Fn)(c:Ju)(bk:Bk)(i n m b:Nat)(x:Fm)(e:Env p s)(Q:SdQ p s f k g h c bk i n m b x)(t:Sa)(o:Int)(F:o=0\/o=1)(z:z9 t)(E:¬i<bk.stmts.length)(G:bk.jump.kind=3)(B:∀d,zG 44 1 (λι=>[.ptr (ι 0) d 12 0 0]) (λ_=>[wbO p d s 0]) (λ_ _=>.tup []) (λ_ _=>[wbO p d t o])):
  zK 14 [p.a,s.a] (.tup [t.a,iU o,iI 0]):=by
 have y:=w9 p s e.wf e.wp;rw[oL e] at y;have A:=yO s e.wf;have r:=λd=>wc p s 0 d n m b i x f bk e.wf Q.K Q.hb Q.hi Q.at_;have C:¬(i:Int)<bk.stmts.length:=om;have j:=yO t z;clear e Q;obtain⟨bs,⟨U,⟨N,O,⟨al,ad,M⟩⟩,T,V,S,args,⟨R,P,df⟩⟩⟩:=bk;obtain⟨sp,⟨⟨Z,sn⟩,st,sr,W,Y⟩,sf,J,L⟩:=s;simp only at *;subst G;rcases F with rfl|rfl
 ·refine eK [4,26,27] func14 λX=>?_;go_simp;repeat'(first|(apply zd y;try go_simp)|with_reducible first|apply ai|intro)
  refine zh hP ⟨[(2,.l 2,0),(3,.l 3,0)],true⟩ dk ?_;go_simp;repeat'(first|(apply zd A;try go_simp)|with_reducible first|apply ai|intro)
  rename_i w;refine zi [.l 26] 1 0 (r _) ?_;intro H;go_simp;intro D u v;refine zi [.l 26] 1 0 (B _) ?_;intro I;go_simp;refine zh hP ⟨[(131,.l 26,1),(136,.l 26,11),(4,.l 4,0)],true⟩ dk ?_;go_simp;repeat'(first|(apply zd j;try go_simp)|with_reducible first|apply ai|intro)
 ·refine eK [4,26,27] func14 λX=>?_;go_simp;repeat'(first|(apply zd y;try go_simp)|with_reducible first|apply ai|intro)
  refine zh hP ⟨[(2,.l 2,0),(3,.l 3,0)],true⟩ dk ?_;go_simp;repeat'(first|(apply zd A;try go_simp)|with_reducible first|apply ai|intro)
  rename_i w;refine zi [.l 26] 1 0 (r _) ?_;intro H;go_simp;intro D u v;refine zi [.l 26] 1 0 (B _) ?_;intro I;go_simp;refine zh hP ⟨[(131,.l 26,1),(136,.l 26,11),(4,.l 4,0)],true⟩ dk ?_;go_simp;repeat'(first|(apply zd j;try go_simp)|with_reducible first|apply ai|intro)
def NT (p:Pr)(s:Sa)(f:Fn)(k:Nat)(g h:Fn)(c:Ju)(bk:Bk)(i n m b:Nat)(x:Fm)(e:Env p s)(Q:SdQ p s f k g h c bk i n m b x)(y:¬i<bk.stmts.length)(z:bk.jump.kind=5):
  zK 14 [p.a,s.a] (.tup [s.a,iU 4,iI 0]):=by
 have o:=w9 p s e.wf e.wp;rw[oL e] at o;have r:=yO s e.wf;have j:=λd=>wc p s 0 d n m b i x f bk e.wf Q.K Q.hb Q.hi Q.at_;have t:¬(i:Int)<bk.stmts.length:=om;clear e Q;obtain⟨bs,⟨L,⟨D,E,⟨al,ad,C⟩⟩,J,M,I,args,⟨H,G,df⟩⟩⟩:=bk;obtain⟨U,⟨⟨R,T⟩,st,V,O,P⟩,S,A,B⟩:=s;simp only at *;subst z;refine eK [4,26,27] func14 λX=>?_;go_simp;repeat'(first|(apply zd o;try go_simp)|with_reducible first|apply ai|intro)
 refine zh hP ⟨[(2,.l 2,0),(3,.l 3,0)],true⟩ dk ?_;go_simp;repeat'(first|(apply zd r;try go_simp)|with_reducible first|apply ai|intro)
 rename_i w;refine zi [.l 26] 1 0 (j _) ?_;intro N;go_simp;intro F u v;refine zh hP ⟨[(3,.l 3,0),(127,.l 26,11),(4,.l 4,0)],true⟩ dk ?_;go_simp;repeat'(first|(apply zd r;try go_simp)|with_reducible first|apply ai|intro)
def NU (p:Pr)(s:Sa)(f:Fn)(k:Nat)(g h:Fn)(c:Ju)(bk:Bk)(i n m b:Nat)(x:Fm)(e:Env p s)(Q:SdQ p s f k g h c bk i n m b x)(u:Nat)(G:bk.jump.next=u)(v:u<f.blocks.length)(F:¬i<bk.stmts.length)(H:bk.jump.kind=1):
  zK 14 [p.a,s.a] (.tup [(atS s (z6 f.blocks u)).a,iU 0,iI 0]):=by
 have w:=w9 p s e.wf e.wp;rw[oL e] at w;have E:=yO s e.wf;have t:=λd=>wc p s 0 d n m b i x f bk e.wf Q.K Q.hb Q.hi Q.at_;have y:¬(i:Int)<bk.stmts.length:=om;obtain⟨D,j⟩:∃C,f.blocks[u]?=some C:=⟨_,zE v⟩
 have r:=λd=>qE p s 0 d n m (z6 f.blocks u) x f ⟨u,0⟩ e.wf Q.K (eH Q.K.fs j (Nat.succ_pos _)) (by unfold ptN;simp);have o:=yO (atS s (z6 f.blocks u)) (kP e.wf e.ne);clear e Q;generalize atS s (z6 f.blocks u)=T at *;obtain⟨bs,⟨V,⟨M,N,⟨al,ad,L⟩⟩,U,W,S,args,⟨R,P,df⟩⟩⟩:=bk;obtain⟨sp,⟨⟨sa,sn⟩,st,sr,s1,s2⟩,sf,I,J⟩:=s;simp only at *;subst H G;refine eK [4,26,27] func14 λX=>?_;go_simp;repeat'(first|(apply zd w;try go_simp)|with_reducible first|apply ai|intro)
 refine zh hP ⟨[(2,.l 2,0),(3,.l 3,0)],true⟩ dk ?_;go_simp;repeat'(first|(apply zd E;try go_simp)|with_reducible first|apply ai|intro)
 rename_i B;refine zi [.l 26] 1 0 (t _) ?_;intro Y;go_simp;intro O z A;refine zi [.l 26] 1 0 (r _) ?_;intro Z;go_simp;refine zh hP ⟨[(131,.l 26,1),(136,.l 26,11),(4,.l 4,0)],true⟩ dk ?_;go_simp;repeat'(first|(apply zd o;try go_simp)|with_reducible first|apply ai|intro)
def US (p:Pr)(s:Sa)(f:Fn)(k:Nat)(g h:Fn)(c:Ju)(bk:Bk)(i n m b:Nat)(x:Fm)(e:Env p s)(Q:SdQ p s f k g h c bk i n m b x)(G:¬i<bk.stmts.length)(u:bk.jump.kind=2)(t:¬(vlS p s bk.jump.a).2.2=0)(v:¬(vlS p s bk.jump.a).2.2=1):
  zK 14 [p.a,s.a] (.tup [s.a,iU (vlS p s bk.jump.a).2.2,iI 0]):=by
 have w:=w9 p s e.wf e.wp;rw[oL e] at w;have y:=yO s e.wf;have j:=λd=>wc p s 0 d n m b i x f bk e.wf Q.K Q.hb Q.hi Q.at_;have z:¬(i:Int)<bk.stmts.length:=om;have r:=Q.ju.P.vl u;have D:=λd=>sA p s bk.jump.a 0 d e r.1 (Q.ju.oe u) r.2.1 t;have E:=z4 t;have F:((vlS p s bk.jump.a).2.2 != 1)=true:=by simpa using v
 clear e Q r t v;generalize (vlS p s bk.jump.a).2.2=o at *;obtain⟨bs,⟨U,⟨L,M,⟨al,ad,J⟩⟩,T,V,S,args,⟨R,O,df⟩⟩⟩:=bk;obtain⟨sp,⟨⟨sa,sn⟩,st,sr,Z,s2⟩,sf,H,I⟩:=s;simp only at *;subst u;refine eK [4,26,27] func14 λX=>?_;go_simp;repeat'(first|(apply zd w;try go_simp)|with_reducible first|apply ai|intro)
 refine zh hP ⟨[(2,.l 2,0),(3,.l 3,0)],true⟩ dk ?_;go_simp;repeat'(first|(apply zd y;try go_simp)|with_reducible first|apply ai|intro)
 rename_i C;refine zi [.l 26] 1 0 (j _) ?_;intro W;go_simp;intro N A B;refine zi [.l 26] 1 0 (D _) ?_;intro Y;go_simp;refine zh hP ⟨[(3,.l 3,0),(127,.l 26,11),(4,.l 4,0)],true⟩ dk ?_;go_simp;repeat'(first|(apply zd y;try go_simp)|with_reducible first|apply ai|intro)
def SN (p:Pr)(s:Sa)(f:Fn)(k:Nat)(g h:Fn)(c:Ju)(bk:Bk)(i n m b:Nat)(x:Fm)(j:Env p s)(Q:SdQ p s f k g h c bk i n m b x)(u:Nat)(S:bk.jump.els=u)(B:u<f.blocks.length)(v:Int)(R:¬i<bk.stmts.length)(D:bk.jump.kind=2)(G:(vlS p s bk.jump.a).2.2=0)(e:(vlS p s bk.jump.a).2.1 = [ce1 v])(hn:v=0):
  zK 14 [p.a,s.a] (.tup [(atS (vlS p s bk.jump.a).1 (z6 f.blocks u)).a,iU 0,iI 0]):=by
 have E:=w9 p s j.wf j.wp;rw[oL j] at E;have N:=yO s j.wf;have A:=λd=>wc p s 0 d n m b i x f bk j.wf Q.K Q.hb Q.hi Q.at_;have F:¬(i:Int)<bk.stmts.length:=om;have C:=Q.ju.P.vl D;have O:=λd=>xL p s bk.jump.a 0 v d j C.1 (Q.ju.oe D) C.2.1 G e;have r:=fD v;have w:=j.vl (o:=bk.jump.a);obtain⟨M,t⟩:∃L,f.blocks[u]?=some L:=⟨_,zE B⟩
 have z:=λd=>qE p (vlS p s bk.jump.a).1 0 d n m (z6 f.blocks u) x f ⟨u,0⟩ w.wf (Q.K.same wm) (eH Q.K.fs t (Nat.succ_pos _)) (by unfold ptN;simp);have y:=yO (atS (vlS p s bk.jump.a).1 (z6 f.blocks u)) (kP w.wf w.ne);have hb:(v != 0)=false:=by simp[hn]
 rw[hb] at r;clear j Q C G e w hn hb;generalize atS (vlS p s bk.jump.a).1 (z6 f.blocks u)=T at *;generalize vlS p s bk.jump.a=V at *;obtain⟨Y,Z,V3⟩:=V;obtain⟨bs,⟨jk,⟨ak,an,⟨al,ad,af⟩⟩,jf,jn,je,args,⟨dl,dd,df⟩⟩⟩:=bk;obtain⟨sp,⟨⟨sa,sn⟩,st,sr,s1,s2⟩,sf,U,W⟩:=s;simp only at *;subst D S;refine eK [4,26,27] func14 λX=>?_;go_simp;repeat'(first|(apply zd E;try go_simp)|with_reducible first|apply ai|intro)
 refine zh hP ⟨[(2,.l 2,0),(3,.l 3,0)],true⟩ dk ?_;go_simp;repeat'(first|(apply zd N;try go_simp)|with_reducible first|apply ai|intro)
 rename_i J;refine zi [.l 26] 1 0 (A _) ?_;intro q2;go_simp;intro b9 H I;refine zi [.l 26] 1 0 (O _) ?_;intro q3;go_simp;repeat'(first|(apply zd r;try go_simp)|with_reducible first|apply ai|intro)
 refine zi [.l 26] 1 0 (z _) ?_;intro q4;go_simp;refine zh hP ⟨[(131,.l 26,1),(136,.l 26,11),(4,.l 4,0)],true⟩ dk ?_;go_simp;repeat'(first|(apply zd y;try go_simp)|with_reducible first|apply ai|intro)
def SO (p:Pr)(s:Sa)(f:Fn)(k:Nat)(g h:Fn)(c:Ju)(bk:Bk)(i n m b:Nat)(x:Fm)(j:Env p s)(Q:SdQ p s f k g h c bk i n m b x)(u:Nat)(S:bk.jump.next=u)(B:u<f.blocks.length)(v:Int)(R:¬i<bk.stmts.length)(D:bk.jump.kind=2)(G:(vlS p s bk.jump.a).2.2=0)(e:(vlS p s bk.jump.a).2.1 = [ce1 v])(hn:¬v=0):
  zK 14 [p.a,s.a] (.tup [(atS (vlS p s bk.jump.a).1 (z6 f.blocks u)).a,iU 0,iI 0]):=by
 have E:=w9 p s j.wf j.wp;rw[oL j] at E;have N:=yO s j.wf;have A:=λd=>wc p s 0 d n m b i x f bk j.wf Q.K Q.hb Q.hi Q.at_;have F:¬(i:Int)<bk.stmts.length:=om;have C:=Q.ju.P.vl D;have O:=λd=>xL p s bk.jump.a 0 v d j C.1 (Q.ju.oe D) C.2.1 G e;have r:=fD v;have w:=j.vl (o:=bk.jump.a);obtain⟨M,t⟩:∃L,f.blocks[u]?=some L:=⟨_,zE B⟩
 have z:=λd=>qE p (vlS p s bk.jump.a).1 0 d n m (z6 f.blocks u) x f ⟨u,0⟩ w.wf (Q.K.same wm) (eH Q.K.fs t (Nat.succ_pos _)) (by unfold ptN;simp);have y:=yO (atS (vlS p s bk.jump.a).1 (z6 f.blocks u)) (kP w.wf w.ne);have hb:=z4 hn;rw[hb] at r;clear j Q C G e w hn hb;generalize atS (vlS p s bk.jump.a).1 (z6 f.blocks u)=T at *;generalize vlS p s bk.jump.a=V at *;obtain⟨Y,Z,V3⟩:=V;obtain⟨bs,⟨jk,⟨ak,an,⟨al,ad,af⟩⟩,jf,jn,je,args,⟨dl,dd,df⟩⟩⟩:=bk;obtain⟨sp,⟨⟨sa,sn⟩,st,sr,s1,s2⟩,sf,U,W⟩:=s;simp only at *;subst D S;refine eK [4,26,27] func14 λX=>?_;go_simp;repeat'(first|(apply zd E;try go_simp)|with_reducible first|apply ai|intro)
 refine zh hP ⟨[(2,.l 2,0),(3,.l 3,0)],true⟩ dk ?_;go_simp;repeat'(first|(apply zd N;try go_simp)|with_reducible first|apply ai|intro)
 rename_i J;refine zi [.l 26] 1 0 (A _) ?_;intro q2;go_simp;intro b9 H I;refine zi [.l 26] 1 0 (O _) ?_;intro q3;go_simp;repeat'(first|(apply zd r;try go_simp)|with_reducible first|apply ai|intro)
 refine zi [.l 26] 1 0 (z _) ?_;intro q4;go_simp;refine zh hP ⟨[(131,.l 26,1),(136,.l 26,11),(4,.l 4,0)],true⟩ dk ?_;go_simp;repeat'(first|(apply zd y;try go_simp)|with_reducible first|apply ai|intro)
def pP {a e:Int}: ¬yw a e=1:=by unfold yw;(repeat' split)<;>omega
def YT: ¬(sLd s q n).2.2=1:=by unfold sLd;split<;>simp[pP]
def eJ: ¬(sSt s q l).2=1:=by unfold sSt;split<;>simp[pP]
def SP{n k c:Int}: ¬(sRt s q n k c).2.2=1:=by unfold sRt;split<;>simp[pP]
def SQ: ¬(sAl s n).2.2=1:=by unfold sAl;split<;>simp[pP]
def SR: ¬(sEd s n).2=1:=by unfold sEd;split<;>simp[pP]
def YU{x:Pl}: ¬(fdS p s x).2.2.2=1:=by
 unfold fdS;split
 ·simp
 split
 ·exact YT
 split<;>simp
def oM{o:Opd}: ¬(vlS p s o).2.2=1:=by
 unfold vlS;split
 ·simp
 split
 ·exact YU
 split
 ·exact YT
 split
 ·simp
 split
 ·simp
 split
 ·exact eJ
 ·simp
def SS{x:Pl}{k:Int}: ¬(brS p s x k).2.2=1:=by
 unfold brS;split
 ·exact YU
 split
 ·exact SP
 ·simp
def Kg{r:Rv}: ¬(rvS p s r).2.2=1:=by
 unfold rvS;split
 ·exact oM
 split
 ·exact SS
 split
 ·exact SS
 split
 ·exact oM
 split
 ·exact oM
 split
 ·simp
 split<;>simp
def YV{x:Pl}: ¬(asS p s x l).2=1:=by
 unfold asS;split
 ·exact YU
 split
 ·exact eJ
 ·simp
def Kh: ¬(rnS s k).2=1:=by
 unfold rnS;split
 ·exact SR
 split
 ·exact SQ
 ·simp
def Ki: ¬(stS p s x).2=1:=by
 unfold stS;split
 ·split
  ·exact Kg
  ·exact YV
 split
 ·exact Kh
 split
 ·exact oM
 split
 ·split<;>simp
 split<;>simp
def VC {p:Pr}: ∀ {l:List Opd} {s:Sa} {a:List (List Ce)},¬(y5 p s l a).2.2=1
 |[],_,_=>by simp[y5]
 |o::l,s,a=>by
  by_cases z:(vlS p s o).2.2=0
  ·rw[rV z];exact VC
  ·rw[pO z];exact oM
def ST:∀ {ts:List Ty} {s:Sa} {ls:List Po},¬(alF s ts ls).2.2=1
 |[],_,_=>by simp[alF]
 |t::ts,s,ls=>by
  by_cases z:(sAl s (zg t)).2.2=0
  ·rw[pN z];exact ST
  ·rw[ma z];exact SQ
def SU:∀ {ls:List (List Ce)} {qs:List Po} {s:Sa},¬(stF s qs ls).2=1
 |[],qs,s=>by rw[dM];simp
 |l::ls,[],s=>by simp[stF]
 |l::ls,q::qs,s=>by
  by_cases z:(sSt s q l).2=0
  ·rw[mb z];exact SU
  ·rw[fO z];exact eJ
def Kj {call:Int}{t:Ty}: ¬(rt1 call s q t l).2=1:=by
 unfold rt1;split
 ·split
  ·exact SP
  ·exact eJ
 ·simp
def SW {call:Int}: ∀ {ls:List (List Ce)} {qs:List Po} {ts:List Ty} {s:Sa},¬(rtF call s qs ts ls).2=1
 |[],qs,ts,s=>by rw[md];simp
 |l::ls,[],ts,s=>by simp[rtF]
 |l::ls,q::qs,[],s=>by simp[rtF]
 |l::ls,q::qs,t::ts,s=>by
  by_cases z:(rt1 call s q t l).2=0
  ·rw[mc z];exact SW
  ·rw[fP z];exact Kj
def Kk{k:Int}{args:List (List Ce)}: ¬(puS s k f args).2=1:=by
 unfold puS;split
 ·simp
 split
 ·exact pP
 split
 ·exact ST
 split
 ·exact SU
 split
 ·exact SW
 ·simp
def SX: ¬(caS p s k f args).2=1:=by
 unfold caS;split
 ·exact VC
 ·exact Kk
def YW:∀ {l:List Po} {s:Sa},¬(wJ s l).2=1
 |[],s=>by simp[wJ]
 |q::l,s=>by
  by_cases z:(sEd s q.al).2=0
  ·rw[iM z];exact YW
  ·rw[dN z];exact SR
def VD: ¬(zk p s).2.2=1:=by
 unfold zk;split
 ·exact YT
 split
 ·exact YW
 ·simp
end Go.Proofs.YtllodfoldffonaaGreatDoor
