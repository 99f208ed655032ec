/- A part of the proof. -/
import Derived.Test.YtllodfoldffonaaGreatDoorQ31
namespace Go.Proofs.YtllodfoldffonaaGreatDoor
open Go.Proofs.Tryz AM Go.RowKit
set_option linter.unusedSimpArgs false
set_option linter.unusedVariables false
set_option linter.defProp false
set_option maxRecDepth 100000
set_option maxHeartbeats 16000000
variable {s:Sa}
def Hh {p:Pr}(h:SaV p s)(b:s.frames≠[]){x:Pl}(B:zZ (tyL p s) x=0)(j:x.deref=true)(w:(sLd s (xB s x) 1).2.2=0): ((sLd s (xB s x) 1).2.1.getD 0 ceZ).kind=2:=by
 obtain⟨k,l,t,D,hl,q,n,_,o,m,C⟩:=kq h b B;have i:=vd b;have z:3<=t.kind:=by
  rcases n6 o m with⟨d,f,e⟩|⟨d,f,g,e⟩|⟨d,g,y,f,e⟩|⟨d,g,y,f,e⟩
  ·rw[d] at j;cases j
  ·rw[d] at j;cases j
  ·exact g
  ·exact g
 obtain⟨K,X,r,_,u,f4⟩:=uD h.wh w;have v:(sLd s (xB s x) 1).2.1.getD 0 ceZ∈(sLd s (xB s x) 1).2.1:=by
  rw[zD,zE om,zH];exact zM _
 generalize (sLd s (xB s x) 1).2.1.getD 0 ceZ=c at *;have A:yZ s.mon.mem l.al=X:=by have:=r.at_;rw[n] at this;exact wX this r.hx
 have a:=h.typ _ i k l t hl q c (by rw[A];exact(u c v).1);have hn:=(u c v).2.1;unfold ceT at a;simp only[Bool.or_eq_true,zB,beq_iff_eq,zL] at a;rcases a with a|⟨a,_⟩
 ·exact absurd a hn
 ·rw[decide_eq_true z] at a;simpa using a.symm
inductive FdC (p:Pr) (s:Sa) (x:Pl) (l:Po):Prop
 |here (d:x.deref=false) (e:fdS p s x=(s,tv l (wH x),zg (zu (tyL p s) x),0))
 |there (c:Ce) (d:x.deref=true) (z:(sLd s l 1).2.2=0) (l1:(sLd s l 1).2.1 = [c]) (k2:c.kind=2) (lo:0<=c.p.off/\c.p.off<=2) (e:fdS p s x=((sLd s l 1).1,tv c.p (wH x),zg (zu (tyL p s) x),0))
 |gone (d:x.deref=true) (z:¬(sLd s l 1).2.2=0) (e:fdS p s x=(s,po0,0,(sLd s l 1).2.2))
def Vz {p:Pr}{x:Pl}(h:Env p s)(m:zZ (tyL p s) x=0): ∃(k:Nat)(l:Po),x.loc=k/\(zn s).locals[k]?=some l/\l.off=0/\xB s x=l/\FdC p s x l:=by
 obtain⟨k,l,t,n,hl,j,b,o,r,u,q⟩:=kq h.v h.ne m;have i:l.off=0:=by
  obtain⟨a,w⟩:=(h.v.fm _ (vd h.ne)).loc k _ _ hl j;exact w.off
 refine⟨k,l,n,hl,i,b,?_⟩;cases d:x.deref with
 |false=>exact .here d (by unfold fdS;rw[if_pos d,b])
 |true =>
  by_cases z:(sLd s l 1).2.2=0
  ·obtain⟨c,g,e⟩:=Vs h.v.wh z;have f:=Hh h.v h.ne m d (by rw[b];exact z);rw[b,g,List.getD_cons_zero] at f;refine .there c d z g f (by unfold xg at e;simp[f] at e;omega) ?_;unfold fdS;rw[if_neg (by rw[d];simp),b,if_neg (by simpa using z),g,List.getD_cons_zero,if_neg (by simpa using f)]
  ·exact .gone d z (by unfold fdS;rw[if_neg (by rw[d];simp),b,if_pos z])
def vF {s:Sa}{x:Pl}: (trF s x).length<=1:=by unfold trF;split<;>simp
def ti {p:Pr}{s:Sa}{o:Opd}: (trV p s o).length<=3:=by
 have:=@vF s o.pl
 unfold trV;split
 ·simp
 split
 ·simp;omega
 split
 ·simp;omega
 split<;>simp<;>omega
def V0 {p:Pr}{s:Sa}{x:Pl}{n:Nat}: (trA p s x n).length<=2:=by
 have:=@vF s x
 unfold trA;split<;>simp<;>omega
def V5 {p:Pr}{s:Sa}{x:Pl}{k:Int}: (trB p s x k).length<=2:=by
 have:=@vF s x
 unfold trB;split<;>simp<;>omega
def NF {p:Pr}{s:Sa}{r:Rv}: (trR p s r).length<=6:=by
 unfold trR;split
 ·have:=@ti p s r.a;omega
 split
 ·have:=@V5 p s r.pl r.bo;omega
 split
 ·have:=@V5 p s r.pl 4;omega
 ·have c:=@ti p s r.a;have d:=@ti p (vlS p s r.a).1 r.b;split<;>simp<;>omega
inductive VlC (p:Pr) (s:Sa) (o:Opd):Prop
 |const (k:o.kind=1) (e:vlS p s o=(s,[ce1 o.n],0)) (t:trV p s o = [])
 |find (k:¬o.kind=1) (z:¬(fdS p s o.pl).2.2.2=0) (e:(vlS p s o).2.2=(fdS p s o.pl).2.2.2) (t:trV p s o=trF s o.pl)
 |read (k:¬o.kind=1) (z:(fdS p s o.pl).2.2.2=0) (w:¬(sLd (fdS p s o.pl).1 (fdS p s o.pl).2.1 (fdS p s o.pl).2.2.1).2.2=0) (e:(vlS p s o).2.2=(sLd (fdS p s o.pl).1 (fdS p s o.pl).2.1 (fdS p s o.pl).2.2.1).2.2) (t:trV p s o=trF s o.pl++[Acc.mk 1 0 (fdS p s o.pl).2.1 (fdS p s o.pl).2.2.1])
 |copy (k:o.kind=2) (z:(fdS p s o.pl).2.2.2=0) (w:(sLd (fdS p s o.pl).1 (fdS p s o.pl).2.1 (fdS p s o.pl).2.2.1).2.2=0) (e:vlS p s o=((sLd (fdS p s o.pl).1 (fdS p s o.pl).2.1 (fdS p s o.pl).2.2.1).1,(sLd (fdS p s o.pl).1 (fdS p s o.pl).2.1 (fdS p s o.pl).2.2.1).2.1,0)) (t:trV p s o=trF s o.pl++[Acc.mk 1 0 (fdS p s o.pl).2.1 (fdS p s o.pl).2.2.1])
 |bad (k:o.kind=3) (n1:(fdS p s o.pl).2.2.1=1) (z:(fdS p s o.pl).2.2.2=0) (w:(sLd (fdS p s o.pl).1 (fdS p s o.pl).2.1 1).2.2=0) (u:¬(sSt (sLd (fdS p s o.pl).1 (fdS p s o.pl).2.1 1).1 (fdS p s o.pl).2.1 [ceZ]).2=0) (e:(vlS p s o).2.2=(sSt (sLd (fdS p s o.pl).1 (fdS p s o.pl).2.1 1).1 (fdS p s o.pl).2.1 [ceZ]).2) (t:trV p s o=trF s o.pl++[Acc.mk 1 0 (fdS p s o.pl).2.1 1]++[Acc.mk 2 0 (fdS p s o.pl).2.1 1])
 |move (k:o.kind=3) (n1:(fdS p s o.pl).2.2.1=1) (z:(fdS p s o.pl).2.2.2=0) (w:(sLd (fdS p s o.pl).1 (fdS p s o.pl).2.1 1).2.2=0) (u:(sSt (sLd (fdS p s o.pl).1 (fdS p s o.pl).2.1 1).1 (fdS p s o.pl).2.1 [ceZ]).2=0) (e:vlS p s o=((sSt (sLd (fdS p s o.pl).1 (fdS p s o.pl).2.1 1).1 (fdS p s o.pl).2.1 [ceZ]).1,(sLd (fdS p s o.pl).1 (fdS p s o.pl).2.1 1).2.1,0)) (t:trV p s o=trF s o.pl++[Acc.mk 1 0 (fdS p s o.pl).2.1 1]++[Acc.mk 2 0 (fdS p s o.pl).2.1 1])
def V6 {p:Pr}{o:Opd}(h:Env p s)(i:VlP p s o)(g:opE (tyL p s) o=0): VlC p s o:=by
 by_cases k1:o.kind=1
 ·exact .const k1 (by unfold vlS;rw[if_pos k1]) (by unfold trV;rw[if_pos k1])
 have j:=i.t k1;by_cases z:(fdS p s o.pl).2.2.2=0
 case neg=>exact .find k1 z (by unfold vlS;rw[if_neg k1,if_pos z]) (by unfold trV;rw[if_neg k1,if_pos z,List.append_nil])
 by_cases w:(sLd (fdS p s o.pl).1 (fdS p s o.pl).2.1 (fdS p s o.pl).2.2.1).2.2=0
 case neg=>exact .read k1 z w (by unfold vlS;rw[if_neg k1,if_neg (by simpa using z),if_pos w]) (by unfold trV;rw[if_neg k1,if_neg (by simpa using z),if_pos w])
 have f:=EE h.v h.ne j z w;have d:vlS p s o=if ¬o.kind=3 then((sLd (fdS p s o.pl).1 (fdS p s o.pl).2.1 (fdS p s o.pl).2.2.1).1,(sLd (fdS p s o.pl).1 (fdS p s o.pl).2.1 (fdS p s o.pl).2.2.1).2.1,0) else
   if ¬(sSt (sLd (fdS p s o.pl).1 (fdS p s o.pl).2.1 (fdS p s o.pl).2.2.1).1 (fdS p s o.pl).2.1 [ceZ]).2=0 then(s,[],(sSt (sLd (fdS p s o.pl).1 (fdS p s o.pl).2.1 (fdS p s o.pl).2.2.1).1 (fdS p s o.pl).2.1 [ceZ]).2) else
   ((sSt (sLd (fdS p s o.pl).1 (fdS p s o.pl).2.1 (fdS p s o.pl).2.2.1).1 (fdS p s o.pl).2.1 [ceZ]).1,(sLd (fdS p s o.pl).1 (fdS p s o.pl).2.1 (fdS p s o.pl).2.2.1).2.1,0):=by
  unfold vlS;rw[if_neg k1,if_neg (by simpa using z),if_neg (by simpa using w),if_neg (by rw[f];simp)]
 have e:trV p s o=trF s o.pl++Acc.mk 1 0 (fdS p s o.pl).2.1 (fdS p s o.pl).2.2.1::(if o.kind=3 then [Acc.mk 2 0 (fdS p s o.pl).2.1 1] else []):=by
  unfold trV;rw[if_neg k1,if_neg (by simpa using z),if_neg (by simpa using w)]
 by_cases b:o.kind=3
 ·have l:=(rj h.v h.ne j z).sz;have n:(zu (tyL p s) o.pl).kind=4:=by
   rcases ou g with⟨a,_⟩|⟨_,_,_,a⟩
   ·exact absurd a k1
   ·exact a.1 b
  have n1:(fdS p s o.pl).2.2.1=1:=by rw[l];unfold zg;rw[if_neg om]
  rw[if_neg (by simpa using b),n1] at d;rw[if_pos b,n1] at e;rw[n1] at w;have c:trV p s o=trF s o.pl++[Acc.mk 1 0 (fdS p s o.pl).2.1 1]++[Acc.mk 2 0 (fdS p s o.pl).2.1 1]:=by rw[e];simp
  by_cases u:(sSt (sLd (fdS p s o.pl).1 (fdS p s o.pl).2.1 1).1 (fdS p s o.pl).2.1 [ceZ]).2=0
  ·exact .move b n1 z w u (by rw[d,if_neg (by simpa using u)]) c
  ·exact .bad b n1 z w u (by rw[d,if_pos u]) c
 ·have m:o.kind=2:=by have:=i.k;omega
  exact .copy m z w (by rw[d,if_pos b]) (by rw[e,if_neg b])
def UM{n:Int}(h:s.plain=false): xEd s n=if(mEd s.mon n).2.1=0 then(yh s (mEd s.mon n).1,0) else(s,5):=by unfold xEd;rw[h];rfl
def NK {m:Mo}{n:Int}: (mEd m n).2.1=0\/(mEd m n).2.1=2:=by
 unfold mEd;split
 ·exact Or.inl rfl
 split
 ·exact Or.inr rfl
 ·exact Or.inl rfl
def si (p:Pr)(s:Sa)(L:List Acc)(a:Acc)(t:Sa)(e:Int)(w:L.length<1000000): ∀d b c,
  zG 109 2 (λι=>[.ptr (ι 0) d 13 0 0,a.a,t.a,iU 0,iI 0]) (λι=>(xbO p ι d s e L b c)) (λ_ _=>.bool true) (λι q=>(xbO p ι d t e (L++[a]) ((q 1).1) ((q 1).2))):=by
 intro d b c;obtain⟨r,o,⟨n,v,at_⟩,u⟩:=a;obtain⟨C,⟨⟨z,B⟩,st,D,x,y⟩,A,i,j⟩:=s;obtain⟨H,⟨⟨E,G⟩,I,tr,t1,t2⟩,F,k,m⟩:=t;refine eG [1] func109 λX=>?_;go_simp;repeat'(first|with_reducible first|apply ai|intro)
 refine lm hP ⟨[(14,u0,12),(20,u0,12),(15,u1,0),(6,.l 6,0),(17,.l 17,0)],true⟩ dk ?_;go_simp;intro f;refine⟨om,λg h=>?_⟩;exact⟨[u0,u1],dk,⟨λ_=>(g,h),OB,OB,trivial⟩,rfl⟩
def pA (p:Pr)(s:Sa)(L:List Acc)(a:Acc)(t:Sa)(v:Int)(i:¬v=0)(e:Int)(y:L.length<1000000): ∀d b c,
  zG 109 2 (λι=>[.ptr (ι 0) d 13 0 0,a.a,t.a,iU v,iI 0]) (λι=>(xbO p ι d s e L b c)) (λ_ _=>.bool false) (λι q=>(xbO p ι d s e (L++[a]) ((q 1).1) ((q 1).2))):=by
 intro d b c;have hb:=z4 i;obtain⟨u,r,⟨o,x,at_⟩,w⟩:=a;obtain⟨E,⟨⟨B,D⟩,st,F,z,A⟩,C,j,k⟩:=s;obtain⟨J,⟨⟨G,I⟩,K,tr,t1,t2⟩,H,m,n⟩:=t;refine eG [1] func109 λX=>?_;go_simp;repeat'(first|with_reducible first|apply ai|intro)
 refine lm hP ⟨[(14,u0,12),(20,u0,12),(15,u1,0),(6,.l 6,0),(17,.l 17,0)],true⟩ dk ?_;go_simp;intro f;refine⟨om,λg h=>?_⟩;exact⟨[u0,u1],dk,⟨λ_=>(g,h),OB,OB,trivial⟩,rfl⟩
def uY (p:Pr)(s:Sa)(L:List Acc)(r:Po)(n:Int)(i:z9 s)(h:WhV s)(hn:n=1\/n=2)(g:(sLd s r n).2.2=0)(f:Int)(k:L.length<1000000): ∀d b c,
  zG 111 2 (λι=>[.ptr (ι 0) d 13 0 0,r.a,iI n]) (λι=>(xbO p ι d s f L b c)) (λ_ _=>.tup [.vec 5 ((sLd s r n).2.1.map Ce.c),.bool true]) (λι q=>(xbO p ι d ((sLd s r n).1) f (L++[Acc.mk 1 0 r n]) ((q 1).1) ((q 1).2))):=by
 intro d b c;have e:=qr s r n i;rw[show lDS s r n=((sLd s r n).1,(sLd s r n).2.1,(sLd s r n).2.2,0) by unfold lDS;rw[if_neg (by simpa using uA.2 h),if_neg om]] at e;have j:=si p s L (Acc.mk 1 0 r n) (sLd s r n).1 f k d b c;rw[g] at e;clear i h g hn;generalize sLd s r n=V at *;obtain⟨u,v,w⟩:=V;obtain⟨x,y,z⟩:=r;obtain⟨F,⟨⟨C,E⟩,st,G,A,B⟩,D,o,t⟩:=s;simp only at *;refine eG [1] func111 λX=>?_;go_simp;repeat'(first|with_reducible first|apply ai|intro)
 refine zh hP ⟨[(15,u0,1),(4,.l 4,0),(8,.l 8,0)],true⟩ dk ?_;go_simp;repeat'(first|(apply zd e;try go_simp)|with_reducible first|apply ai|intro)
 refine zi [u0,u1] 2 0 (j) ?_;intro m;go_simp;exact⟨[u0,u1],dk,⟨m,OB,OB,trivial⟩,rfl⟩
def oI (p:Pr)(s:Sa)(L:List Acc)(r:Po)(n:Int)(i:z9 s)(h:WhV s)(hn:n=1\/n=2)(f:¬(sLd s r n).2.2=0)(g:Int)(k:L.length<1000000): ∀d b c,
  zG 111 2 (λι=>[.ptr (ι 0) d 13 0 0,r.a,iI n]) (λι=>(xbO p ι d s g L b c)) (λ_ _=>.tup [.vec 5 [],.bool false]) (λι q=>(xbO p ι d s g (L++[Acc.mk 1 0 r n]) ((q 1).1) ((q 1).2))):=by
 intro d b c;have e:=qr s r n i;rw[show lDS s r n=((sLd s r n).1,(sLd s r n).2.1,(sLd s r n).2.2,0) by unfold lDS;rw[if_neg (by simpa using uA.2 h),if_neg om]] at e;have j:=pA p s L (Acc.mk 1 0 r n) (sLd s r n).1 (sLd s r n).2.2 f g k d b c;rw[dQ f] at e;clear i h f hn;generalize sLd s r n=V at *;obtain⟨u,v,w⟩:=V;obtain⟨x,y,z⟩:=r;obtain⟨F,⟨⟨C,E⟩,st,G,A,B⟩,D,o,t⟩:=s;simp only at *;refine eG [1] func111 λX=>?_;go_simp;repeat'(first|with_reducible first|apply ai|intro)
 refine zh hP ⟨[(15,u0,1),(4,.l 4,0),(8,.l 8,0)],true⟩ dk ?_;go_simp;repeat'(first|(apply zd e;try go_simp)|with_reducible first|apply ai|intro)
 refine zi [u0,u1] 2 0 (j) ?_;intro m;go_simp;exact⟨[u0,u1],dk,⟨m,OB,OB,trivial⟩,rfl⟩
def mj (p:Pr)(s:Sa)(L:List Acc)(r:Po)(l:List Ce)(j:z9 s)(i:WhV s)(hl:l.length<1000000)(e:(rz l&&!l.any uB)=true)(h:(sSt s r l).2=0)(g:Int)(m:L.length<1000000): ∀d b c,
  zG 106 2 (λι=>[.ptr (ι 0) d 13 0 0,r.a,vCe_ l]) (λι=>(xbO p ι d s g L b c)) (λ_ _=>.bool true) (λι q=>(xbO p ι d ((sSt s r l).1) g (L++[Acc.mk 2 0 r l.length]) ((q 1).1) ((q 1).2))):=by
 intro d b c;have f:=rA s r l j hl;rw[show sTS s r l=((sSt s r l).1,(sSt s r l).2,0) by unfold sTS;rw[if_neg (by simpa using uA.2 i),if_neg (by rw[e];decide)]] at f;have k:=si p s L (Acc.mk 2 0 r l.length) (sSt s r l).1 g m d b c;rw[h] at f;clear j i h e;generalize sSt s r l=V at *;obtain⟨u,v⟩:=V;obtain⟨w,x,y⟩:=r;obtain⟨E,⟨⟨B,D⟩,st,F,z,A⟩,C,o,t⟩:=s;simp only at *;refine eG [1] func106 λX=>?_;go_simp;repeat'(first|with_reducible first|apply ai|intro)
 refine zh hP ⟨[(15,u0,1),(4,.l 4,0),(7,.l 7,0)],true⟩ dk ?_;go_simp;repeat'(first|(apply zd f;try go_simp)|with_reducible first|apply ai|intro)
 refine zi [u0,u1] 2 0 (k) ?_;intro n;go_simp;exact⟨[u0,u1],dk,⟨n,OB,OB,trivial⟩,rfl⟩
def pg (p:Pr)(s:Sa)(L:List Acc)(r:Po)(l:List Ce)(j:z9 s)(i:WhV s)(hl:l.length<1000000)(e:(rz l&&!l.any uB)=true)(h:¬(sSt s r l).2=0)(f:Int)(m:L.length<1000000): ∀d b c,
  zG 106 2 (λι=>[.ptr (ι 0) d 13 0 0,r.a,vCe_ l]) (λι=>(xbO p ι d s f L b c)) (λ_ _=>.bool false) (λι q=>(xbO p ι d s f (L++[Acc.mk 2 0 r l.length]) ((q 1).1) ((q 1).2))):=by
 intro d b c;have g:=rA s r l j hl;rw[show sTS s r l=((sSt s r l).1,(sSt s r l).2,0) by unfold sTS;rw[if_neg (by simpa using uA.2 i),if_neg (by rw[e];decide)]] at g;have k:=pA p s L (Acc.mk 2 0 r l.length) (sSt s r l).1 (sSt s r l).2 h f m d b c;clear j i h e;generalize sSt s r l=V at *;obtain⟨u,v⟩:=V;obtain⟨w,x,y⟩:=r;obtain⟨E,⟨⟨B,D⟩,st,F,z,A⟩,C,o,t⟩:=s;simp only at *;refine eG [1] func106 λX=>?_;go_simp;repeat'(first|with_reducible first|apply ai|intro)
 refine zh hP ⟨[(15,u0,1),(4,.l 4,0),(7,.l 7,0)],true⟩ dk ?_;go_simp;repeat'(first|(apply zd g;try go_simp)|with_reducible first|apply ai|intro)
 refine zi [u0,u1] 2 0 (k) ?_;intro n;go_simp;exact⟨[u0,u1],dk,⟨n,OB,OB,trivial⟩,rfl⟩
def S7{q:Po}{n kind call:Int}(h:WhV s)(hn:n=1\/n=2)(e:1<=kind/\kind<=4)(d:call=0\/(s.plain=false/\s.mon.running.any (eqI call)=true)): rTS s q n kind call=((sRt s q n kind call).1,(sRt s q n kind call).2.1,(sRt s q n kind call).2.2,0):=by
 unfold rTS;rw[if_neg (by simpa using uA.2 h),if_neg];unfold grE;rw[if_pos e];rintro(⟨a,b⟩|a|⟨a,b⟩)
 ·omega
 ·exact a rfl
 ·rcases d with c|⟨c1,c2⟩
  ·exact a c
  ·rw[c1,c2] at b;simp at b
def ml (p:Pr)(s:Sa)(L:List Acc)(r:Po)(n kind call:Int)(k:z9 s)(j:WhV s)(hn:n=1\/n=2)(h:1<=kind/\kind<=4)(g:call=0\/(s.plain=false/\s.mon.running.any (eqI call)=true))(i:(sRt s r n kind call).2.2=0)(f:Int)(o:L.length<1000000): ∀d b c,
  zG 105 2 (λι=>[.ptr (ι 0) d 13 0 0,r.a,iI n,iU kind,iI call]) (λι=>(xbO p ι d s f L b c)) (λ_ _=>.tup [(sRt s r n kind call).2.1.a,.bool true]) (λι q=>(xbO p ι d ((sRt s r n kind call).1) f (L++[Acc.mk 3 kind r n]) ((q 1).1) ((q 1).2))):=by
 intro d b c;have e:=rB s r n kind call k om;rw[S7 j hn h g] at e;have m:=si p s L (Acc.mk 3 kind r n) (sRt s r n kind call).1 f o d b c;rw[i] at e;clear k j i hn h g;generalize sRt s r n kind call=V at *;obtain⟨w,x,y⟩:=V;obtain⟨z,A,B⟩:=r;obtain⟨H,⟨⟨E,G⟩,st,I,C,D⟩,F,u,v⟩:=s;simp only at *;refine eG [1,2] func105 λX=>?_;go_simp;repeat'(first|with_reducible first|apply ai|intro)
 refine zh hP ⟨[(19,u0,1),(6,.l 6,0),(12,.l 12,0),(13,.l 13,0)],true⟩ dk ?_;go_simp;repeat'(first|(apply zd e;try go_simp)|with_reducible first|apply ai|intro)
 refine z5 [.l 13] 13 (SV.ptr rfl rfl rfl rfl sm rfl) ?_;refine lk hP ⟨[(6,.l 6,0),(12,.l 12,0),(10,.l 10,0)],true⟩ [13] [] [39] dk ?_;go_simp;refine zi [u0,u1] 2 0 (m) ?_;intro t;go_simp;exact⟨[u0,u1],dk,⟨t,OB,OB,trivial⟩,rfl⟩
def lD (p:Pr)(s:Sa)(L:List Acc)(r:Po)(n kind call:Int)(k:z9 s)(j:WhV s)(hn:n=1\/n=2)(h:1<=kind/\kind<=4)(g:call=0\/(s.plain=false/\s.mon.running.any (eqI call)=true))(i:¬(sRt s r n kind call).2.2=0)(e:Int)(o:L.length<1000000): ∀d b c,
  zG 105 2 (λι=>[.ptr (ι 0) d 13 0 0,r.a,iI n,iU kind,iI call]) (λι=>(xbO p ι d s e L b c)) (λ_ _=>.tup [(sRt s r n kind call).2.1.a,.bool false]) (λι q=>(xbO p ι d s e (L++[Acc.mk 3 kind r n]) ((q 1).1) ((q 1).2))):=by
 intro d b c;have f:=rB s r n kind call k om;rw[S7 j hn h g] at f;have m:=pA p s L (Acc.mk 3 kind r n) (sRt s r n kind call).1 (sRt s r n kind call).2.2 i e o d b c;clear k j i hn h g;generalize sRt s r n kind call=V at *;obtain⟨w,x,y⟩:=V;obtain⟨z,A,B⟩:=r;obtain⟨H,⟨⟨E,G⟩,st,I,C,D⟩,F,u,v⟩:=s;simp only at *;refine eG [1,2] func105 λX=>?_;go_simp;repeat'(first|with_reducible first|apply ai|intro)
 refine zh hP ⟨[(19,u0,1),(6,.l 6,0),(12,.l 12,0),(13,.l 13,0)],true⟩ dk ?_;go_simp;repeat'(first|(apply zd f;try go_simp)|with_reducible first|apply ai|intro)
 refine z5 [.l 13] 13 (SV.ptr rfl rfl rfl rfl sm rfl) ?_;refine lk hP ⟨[(6,.l 6,0),(12,.l 12,0),(10,.l 10,0)],true⟩ [13] [] [39] dk ?_;go_simp;refine zi [u0,u1] 2 0 (m) ?_;intro t;go_simp;exact⟨[u0,u1],dk,⟨t,OB,OB,trivial⟩,rfl⟩
def kM (p:Pr)(s:Sa)(L:List Acc)(r:Po)(n:Int)(l:z9 s)(k:WhV s)(e:yV s.mon.mem r.al=0)(h:(xEd s r.al).2=0)(i:Int)(u:L.length<1000000): ∀d b c,
  zG 54 2 (λι=>[.ptr (ι 0) d 13 0 0,r.a,iI n]) (λι=>(xbO p ι d s i L b c)) (λ_ _=>.bool true) (λι q=>(xbO p ι d ((xEd s r.al).1) i (L++[Acc.mk 4 0 r n]) ((q 1).1) ((q 1).2))):=by
 intro d b c;cases hp:s.plain with
 |true =>
  have f:=mB s.mon.mem r.al l.mo.1;rw[e] at f;have v:(xEd s r.al).1=⟨s.plain,⟨xP s.mon.mem r.al,s.mon.stacks,s.mon.running,s.mon.ntag,s.mon.ncall⟩,s.frames,s.prints,s.result⟩:=by unfold xEd;rw[if_pos hp];rfl
  rw[v];have j:=si p s L (Acc.mk 4 0 r n) ⟨s.plain,⟨xP s.mon.mem r.al,s.mon.stacks,s.mon.running,s.mon.ntag,s.mon.ncall⟩,s.frames,s.prints,s.result⟩ i u d b c;clear v l k h e;generalize xP s.mon.mem r.al=M at *;obtain⟨y,A,B⟩:=r;obtain⟨H,⟨⟨E,G⟩,st,I,C,D⟩,F,o,t⟩:=s;obtain⟨w,x⟩:=M;simp only at *;subst hp;refine eG [] func54 λX=>?_;go_simp;repeat'(first|(apply zd f;try go_simp)|with_reducible first|apply ai|intro)
  refine zi [u0,u1] 2 0 (j) ?_;intro m;go_simp;exact⟨[u0,u1],dk,⟨m,OB,OB,trivial⟩,rfl⟩
 |false =>
  have f:=n5 s.mon r.al (k.mo hp);have g:(mEd s.mon r.al).2.2=0:=by
   unfold mEd;rw[if_neg (by simpa using e)];split<;>rfl
  rw[g] at f;rw[UM hp] at h ⊢;have z:(mEd s.mon r.al).2.1=0:=zC λq=>by rw[if_neg q] at h;simp at h
  rw[if_pos z];have j:=si p s L (Acc.mk 4 0 r n) (yh s (mEd s.mon r.al).1) i u d b c;rw[z] at f;unfold yh at *;clear l k h z g e;generalize (mEd s.mon r.al).1=M at *;obtain⟨y,A,B⟩:=r;obtain⟨H,⟨⟨E,G⟩,st,I,C,D⟩,F,o,t⟩:=s;obtain⟨⟨w,x⟩,J,K,N,O⟩:=M;simp only at *;subst hp;refine eG [] func54 λX=>?_;go_simp;repeat'(first|(apply zd f;try go_simp)|with_reducible first|apply ai|intro)
  refine zi [u0,u1] 2 0 (j) ?_;intro m;go_simp;exact⟨[u0,u1],dk,⟨m,OB,OB,trivial⟩,rfl⟩
def Wq (p:Pr)(s:Sa)(L:List Acc)(r:Po)(n:Int)(o:z9 s)(j:WhV s)(e:yV s.mon.mem r.al=0)(g:¬(xEd s r.al).2=0)(i:Int)(m:L.length<1000000): ∀d b c,
  zG 54 2 (λι=>[.ptr (ι 0) d 13 0 0,r.a,iI n]) (λι=>(xbO p ι d s i L b c)) (λ_ _=>.bool false) (λι q=>(xbO p ι d s i (L++[Acc.mk 4 0 r n]) ((q 1).1) ((q 1).2))):=by
 intro d b c;cases hp:s.plain with
 |true=>exact absurd (by unfold xEd;rw[if_pos hp]) g
 |false =>
  have h:=n5 s.mon r.al (j.mo hp);have f:(mEd s.mon r.al).2.2=0:=by
   unfold mEd;rw[if_neg (by simpa using e)];split<;>rfl
  rw[f] at h;rw[UM hp] at g;have z:¬(mEd s.mon r.al).2.1=0:=λq=>by rw[if_pos q] at g;exact g rfl
  have l:=pA p s L (Acc.mk 4 0 r n) s 5 (by decide) i m d b c;have k:(mEd s.mon r.al).2.1=2:=by rcases @NK s.mon r.al with q|q;exact absurd q z;exact q
  rw[k] at h;unfold yh at *;clear o j g z f e k;generalize (mEd s.mon r.al).1=M at *;obtain⟨D,E,F⟩:=r;obtain⟨N,⟨⟨I,K⟩,st,O,G,H⟩,J,u,v⟩:=s;obtain⟨⟨w,x⟩,y,A,B,C⟩:=M;simp only at *;subst hp;refine eG [] func54 λX=>?_;go_simp;repeat'(first|(apply zd h;try go_simp)|with_reducible first|apply ai|intro)
  refine zi [u0,u1] 2 0 (l) ?_;intro t;go_simp;exact⟨[u0,u1],dk,⟨t,OB,OB,trivial⟩,rfl⟩
def wP (p:Pr)(s:Sa)(L:List Acc)(i:Int)(n m:Nat)(x:Fm)(f:Fn)(h:z9 s)(K:xR p s n m x f): ∀d b c,
  zG 50 2 (λι=>[.ptr (ι 0) d 13 0 0]) (λι=>(xbO p ι d s i L b c)) (λ_ _=>.tup [x.a,f.a]) (λι q=>(xbO p ι d s i L b c)):=by
 intro d b c;have j:=h.fr;have e:=K.n1;have v:=K.nx;have o:=K.ff;have hm:=K.fn;obtain⟨u,k⟩:=zS.1 K.nx;obtain⟨r,t⟩:=zS.1 K.ff;have g:IntKind.i64.wrap ((s.frames.length:Int)-1)=(n:Int):=(AM.Tf om).trans om;clear K h;obtain⟨C,A,B,D⟩:=x;simp only at hm;subst hm;obtain⟨fp,z,y,fb⟩:=f;obtain⟨pl,mo,fr,pr,re⟩:=s;simp only at *;clear e;refine eG [1,2] func50 λX=>?_;go_simp;repeat'(first|with_reducible first|apply ai|intro)
 refine vo hP ⟨[(8,u0,8),(13,u0,8),(4,.l 4,0)],true⟩ [17] dk ?_;go_simp;intro w;refine vo hP ⟨[(4,.l 4,0),(23,u0,0),(25,.l 4,0),(2,.l 2,0),(3,.l 3,0)],true⟩ [27] dk ?_;go_simp;exact⟨[u0,u1],dk,⟨OB,OB,trivial⟩,rfl⟩
def wF (p:Pr)(s:Sa)(L:List Acc)(x:Pl)(h:Env p s)(r:zZ (tyL p s) x=0)(A:(fdS p s x).2.2.2=0)(B:Int)(T:L.length<1000000): ∀d b c,
  zG 104 2 (λι=>[.ptr (ι 0) d 13 0 0,x.a]) (λι=>(xbO p ι d s B L b c)) (λ_ _=>.tup [(fdS p s x).2.1.a,iI (fdS p s x).2.2.1,.bool true]) (λι q=>(xbO p ι d ((fdS p s x).1) B (L++trF s x) ((q 1).1) ((q 1).2))):=by
 intro d b c;obtain⟨k,l,O,hl,w,j,i⟩:=Vz h r;obtain⟨n,m,y,f,K⟩:=h.top;have t:=qX (tyL p s) x (by rw[K.tyl];exact K.fs.wf.1);rw[show ov (tyL p s) x=wH x by unfold ov;rw[if_pos r];rfl,show ox (tyL p s) x=zg (zu (tyL p s) x) by unfold ox;rw[if_pos r],r] at t;have u:=wP p s L B n m y f h.wf K;rw[K.top] at hl;obtain⟨F,U⟩:=zS.1 hl;have N:=dP x;have P:k<y.locals.length:=F;have Q:y.locals[k]?=some l:=hl;have g:=K.tyl;rcases i with⟨o,e⟩|⟨cl,o,z,l1,V,lo,e⟩|⟨o,z,e⟩
 case gone=>rw[e] at A;exact absurd A z
 case here =>
  rw[e,show trF s x = [] by unfold trF;rw[if_neg (by rw[o];simp)],List.append_nil];clear e A j r;generalize wH x=D at *;generalize zg (zu (tyL p s) x)=Z at *;rw[g] at t;clear K h g;obtain⟨xl,xd,xf⟩:=x;obtain⟨yf,ya,yc,J⟩:=y;obtain⟨H,lo,lt⟩:=l;obtain⟨pl,mo,I,pr,re⟩:=s;simp only at *;subst O w;have C:¬(k:Int)<0:=om;have E:¬J.length<=k:=om;try subst o
  have G:IntKind.i64.wrap D=D:=AM.Tf om;clear N;refine eG [] func104 λX=>?_;go_simp;repeat'(first|with_reducible first|apply ai|intro)
  refine zi [u0,u1] 2 0 (u d b c) ?_;intro W;go_simp;intro R S;repeat'(first|(apply zd t;try go_simp)|with_reducible first|apply ai|intro)
  exact⟨[u0,u1],dk,⟨λ_=>(b,c),OB,OB,trivial⟩,rfl⟩
 case there =>
  have M:=uY p s L l 1 h.wf h.v.wh (Or.inl rfl) z B T;rw[l1] at M;have G:IntKind.i64.wrap (cl.p.off+wH x)=cl.p.off+wH x:=AM.Tf om;rw[e,show trF s x = [Acc.mk 1 0 l 1] by unfold trF;rw[if_pos o,j]];clear e A j r z l1 lo N V;generalize wH x=D at *;generalize zg (zu (tyL p s) x)=Z at *;rw[g] at t;clear K h g;generalize (sLd s l 1).1=V1 at *;obtain⟨ck,cn,⟨ca,co,ct⟩⟩:=cl;obtain⟨xl,xd,xf⟩:=x;obtain⟨yf,ya,yc,J⟩:=y;obtain⟨H,lo,lt⟩:=l;obtain⟨pl,mo,I,pr,re⟩:=s;simp only at *;subst O w;have C:¬(k:Int)<0:=om;have E:¬J.length<=k:=om;try subst o
  refine eG [] func104 λX=>?_;go_simp;repeat'(first|with_reducible first|apply ai|intro)
  refine zi [u0,u1] 2 0 (u d b c) ?_;intro W;go_simp;intro R S;repeat'(first|(apply zd t;try go_simp)|with_reducible first|apply ai|intro)
  refine zi [u0,u1] 2 0 (M d b c) ?_;intro Y;go_simp;exact⟨[u0,u1],dk,⟨Y,OB,OB,trivial⟩,rfl⟩
def oJ (p:Pr)(s:Sa)(L:List Acc)(x:Pl)(h:Env p s)(o:zZ (tyL p s) x=0)(j:¬(fdS p s x).2.2.2=0)(w:Int)(H:L.length<1000000): ∃r:Po,∀d b c,
  zG 104 2 (λι=>[.ptr (ι 0) d 13 0 0,x.a]) (λι=>(xbO p ι d s w L b c)) (λ_ _=>.tup [r.a,iI 0,.bool false]) (λι q=>(xbO p ι d s w (L++trF s x) ((q 1).1) ((q 1).2))):=by
 obtain⟨k,l,M,hl,E,i,g⟩:=Vz h o;obtain⟨n,m,y,f,K⟩:=h.top;have A:=qX (tyL p s) x (by rw[K.tyl];exact K.fs.wf.1);rw[show ov (tyL p s) x=wH x by unfold ov;rw[if_pos o];rfl,show ox (tyL p s) x=zg (zu (tyL p s) x) by unfold ox;rw[if_pos o],o] at A;have B:=wP p s L w n m y f h.wf K;rw[K.top] at hl;obtain⟨C,P⟩:=zS.1 hl;have J:=dP x;have F:k<y.locals.length:=C;have G:y.locals[k]?=some l:=hl;have t:=K.tyl;rcases g with⟨u,e⟩|⟨cl,u,z,l1,W,lo,e⟩|⟨u,z,e⟩
 case here=>rw[e] at j;exact absurd rfl j
 case there=>rw[e] at j;exact absurd rfl j
 case gone =>
  refine⟨l,λd b c=>?_⟩;have I:=oI p s L l 1 h.wf h.v.wh (Or.inl rfl) z w H;rw[show trF s x = [Acc.mk 1 0 l 1] by unfold trF;rw[if_pos u,i]];clear e j i o z J;generalize wH x=D at *;generalize zg (zu (tyL p s) x)=Z at *;rw[t] at A;clear K h t;obtain⟨xl,xd,xf⟩:=x;obtain⟨yf,ya,yc,T⟩:=y;obtain⟨Q,lo,lt⟩:=l;obtain⟨pl,mo,S,pr,re⟩:=s;simp only at *;subst M E;have N:¬(k:Int)<0:=om;have O:¬T.length<=k:=om;try subst u
  refine eG [] func104 λX=>?_;go_simp;repeat'(first|with_reducible first|apply ai|intro)
  refine zi [u0,u1] 2 0 (B d b c) ?_;intro Y;go_simp;intro U V;repeat'(first|(apply zd A;try go_simp)|with_reducible first|apply ai|intro)
  refine zi [u0,u1] 2 0 (I d b c) ?_;intro R;go_simp;exact⟨[u0,u1],dk,⟨R,OB,OB,trivial⟩,rfl⟩
def wk (p:Pr)(s:Sa)(L:List Acc)(f:Opd)(h:Env p s)(m:VlP p s f)(j:opE (tyL p s) f=0)(y:(vlS p s f).2.2=0)(r:Int)(hL:L.length<999990): ∀d b c,
  zG 56 2 (λι=>[.ptr (ι 0) d 13 0 0,f.a]) (λι=>(xbO p ι d s r L b c)) (λ_ _=>.tup [.vec 5 ((vlS p s f).2.1.map Ce.c),.bool true]) (λι q=>(xbO p ι d ((vlS p s f).1) r (L++trV p s f) ((q 1).1) ((q 1).2))):=by
 rcases V6 h m j with⟨k,e,t⟩|⟨k,z,e,t⟩|⟨k,z,w,e,t⟩|⟨k,z,w,e,t⟩|⟨k,n1,z,w,u,e,t⟩|⟨k,n1,z,w,u,e,t⟩
 case find=>exact absurd (by rw[<-e];exact y) z
 case read=>exact absurd (by rw[<-e];exact y) w
 case bad=>exact absurd (by rw[<-e];exact y) u
 case const =>
  intro d b c;rw[e,t,List.append_nil];clear h m j y e t;obtain⟨ok,on,⟨J,I,B⟩⟩:=f;simp only at k;subst k;refine eG [9] func56 λX=>?_;go_simp;repeat'(first|with_reducible first|apply ai|intro)
  exact⟨[u0,u1],dk,⟨λ_=>(b,c),OB,OB,trivial⟩,by decide,rfl⟩
 case copy =>
  have H:=k;replace k:¬f.kind=1:=om;have E:=wF p s L f.pl h (m.t k) z r om;have g:=h.same vA (uv h.v (x:=f.pl));have i:=(rj h.v h.ne (m.t k) z).sz;have G:=uY p (fdS p s f.pl).1 (L++trF s f.pl) (fdS p s f.pl).2.1 (fdS p s f.pl).2.2.1 g.wf g.v.wh (by rw[i];exact qv) w r (by have:=@vF s f.pl;simp;omega);intro d b c;rw[e,t,<-List.append_assoc];clear h m j y e t g i w z k;generalize trF s f.pl=K at *;generalize tyL p s=ts at *;generalize sLd (fdS p s f.pl).1 (fdS p s f.pl).2.1 (fdS p s f.pl).2.2.1=V at *;generalize (fdS p s f.pl)=U at *;obtain⟨M,D,N,O⟩:=U;obtain⟨P,Q,R⟩:=V;obtain⟨ok,on,⟨J,I,B⟩⟩:=f;simp only at *;subst H;refine eG [9] func56 λX=>?_;go_simp;repeat'(first|with_reducible first|apply ai|intro)
  refine zi [u0,u1] 2 0 (E d b c) ?_;intro C;go_simp;intro T;refine zi [u0,u1] 2 0 (G d (C 1).1 (C 1).2) ?_;intro F;go_simp;exact⟨[u0,u1],dk,⟨F,OB,OB,trivial⟩,rfl⟩
 case move =>
  have H:=k;replace k:¬f.kind=1:=om;have E:=wF p s L f.pl h (m.t k) z r om;have g:=h.same vA (uv h.v (x:=f.pl));have i:=(rj h.v h.ne (m.t k) z).sz;have o:=qn g.v.wh (q:=(fdS p s f.pl).2.1) (n:=1);have A:=(@sy (fdS p s f.pl).1 (fdS p s f.pl).2.1 1).wf g.wf o;have G:=uY p (fdS p s f.pl).1 (L++trF s f.pl) (fdS p s f.pl).2.1 1 g.wf g.v.wh (Or.inl rfl) w r (by have:=@vF s f.pl;simp;omega);have W:=mj p (sLd (fdS p s f.pl).1 (fdS p s f.pl).2.1 1).1 (L++trF s f.pl++[Acc.mk 1 0 (fdS p s f.pl).2.1 1]) (fdS p s f.pl).2.1 [ceZ] A o sm (by decide) u r (by have:=@vF s f.pl;simp;omega);intro d b c;rw[e,t,<-List.append_assoc,<-List.append_assoc];rw[n1] at E;clear h m j y e t g i w z k o A u n1;generalize trF s f.pl=K at *;generalize tyL p s=ts at *;generalize sSt (sLd (fdS p s f.pl).1 (fdS p s f.pl).2.1 1).1 (fdS p s f.pl).2.1 [ceZ]=Z at *;generalize (sLd (fdS p s f.pl).1 (fdS p s f.pl).2.1 1)=V at *;generalize (fdS p s f.pl)=U at *;obtain⟨M,D,N,O⟩:=U;obtain⟨P,Q,R⟩:=V;obtain⟨Z1,Z2⟩:=Z;obtain⟨ok,on,⟨J,I,B⟩⟩:=f;simp only at *;subst H;refine eG [9] func56 λX=>?_;go_simp;repeat'(first|with_reducible first|apply ai|intro)
  refine zi [u0,u1] 2 0 (E d b c) ?_;intro C;go_simp;intro T;refine zi [u0,u1] 2 0 (G d (C 1).1 (C 1).2) ?_;intro F;go_simp;refine lk hP ⟨[(6,.l 6,0)],true⟩ [] [] [48] dk ?_;go_simp;intro S;refine mX (l':=[.ptr u0 d 13 0 0,.agg [iI D.al,iI D.off,iI D.tag],.vec 5 [[iU 0,iI 0,iI 0,iI 0,iI 0]]]) [.l 47] (by(focus ((repeat'(first|with_reducible exact SVL.nil|with_reducible refine SVL.cons ?_ ?_|with_reducible exact SV.refl _ _ _|with_reducible refine SV.agg ?_|exact SV.own rfl rfl rfl rfl (by first|exact Nat.le_refl _|(simp;done)) (by decide) (zT sm)));done))) ?_;refine zi [u0,u1] 2 0 (W d (F 1).1 (F 1).2) ?_;intro Y;go_simp;exact⟨[u0,u1],dk,⟨Y,OB,OB,trivial⟩,rfl⟩
def sB (p:Pr)(s:Sa)(L:List Acc)(f:Opd)(h:Env p s)(i:VlP p s f)(m:opE (tyL p s) f=0)(C:¬(vlS p s f).2.2=0)(o:Int)(hL:L.length<999990): ∃(t:Sa)(l:List Ce),∀d b c,
  zG 56 2 (λι=>[.ptr (ι 0) d 13 0 0,f.a]) (λι=>(xbO p ι d s o L b c)) (λ_ _=>.tup [vCe_ l,.bool false]) (λι q=>(xbO p ι d t o (L++trV p s f) ((q 1).1) ((q 1).2))):=by
 rcases V6 h i m with⟨k,e,t⟩|⟨k,z,e,t⟩|⟨k,z,w,e,t⟩|⟨k,z,w,e,t⟩|⟨k,n1,z,w,u,e,t⟩|⟨k,n1,z,w,u,e,t⟩
 case const=>exact absurd (by rw[e]) C
 case copy=>exact absurd (by rw[e]) C
 case move=>exact absurd (by rw[e]) C
 case find =>
  obtain⟨r,B⟩:=oJ p s L f.pl h (i.t k) z o om;refine⟨s,[],λd b c=>?_⟩;rw[t];clear h i m C e t z;generalize trF s f.pl=I at *;generalize tyL p s=ts at *;obtain⟨ok,on,⟨M,K,E⟩⟩:=f;simp only at *;refine eG [9] func56 λX=>?_;go_simp;repeat'(first|with_reducible first|apply ai|intro)
  refine zi [u0,u1] 2 0 (B d b c) ?_;intro A;go_simp;intro J;exact⟨[u0,u1],dk,⟨A,OB,OB,trivial⟩,rfl⟩
 case read =>
  have B:=wF p s L f.pl h (i.t k) z o om;have g:=h.same vA (uv h.v (x:=f.pl));have j:=(rj h.v h.ne (i.t k) z).sz;have H:=oI p (fdS p s f.pl).1 (L++trF s f.pl) (fdS p s f.pl).2.1 (fdS p s f.pl).2.2.1 g.wf g.v.wh (by rw[j];exact qv) w o (by have:=@vF s f.pl;simp;omega);refine⟨(fdS p s f.pl).1,[],λd b c=>?_⟩;rw[t,<-List.append_assoc];clear h i m C e t g j w z;generalize trF s f.pl=I at *;generalize tyL p s=ts at *;generalize (sLd (fdS p s f.pl).1 (fdS p s f.pl).2.1 (fdS p s f.pl).2.2.1)=V at *;generalize (fdS p s f.pl)=U at *;obtain⟨N,F,O,P⟩:=U;obtain⟨Q,R,S⟩:=V;obtain⟨ok,on,⟨M,K,E⟩⟩:=f;simp only at *;refine eG [9] func56 λX=>?_;go_simp;repeat'(first|with_reducible first|apply ai|intro)
  refine zi [u0,u1] 2 0 (B d b c) ?_;intro A;go_simp;intro J;refine zi [u0,u1] 2 0 (H d (A 1).1 (A 1).2) ?_;intro G;go_simp;exact⟨[u0,u1],dk,⟨G,OB,OB,trivial⟩,rfl⟩
 case bad =>
  have Y:=k;replace k:¬f.kind=1:=om;have B:=wF p s L f.pl h (i.t k) z o om;have g:=h.same vA (uv h.v (x:=f.pl));have j:=(rj h.v h.ne (i.t k) z).sz;have y:=qn g.v.wh (q:=(fdS p s f.pl).2.1) (n:=1);have D:=(@sy (fdS p s f.pl).1 (fdS p s f.pl).2.1 1).wf g.wf y;have H:=uY p (fdS p s f.pl).1 (L++trF s f.pl) (fdS p s f.pl).2.1 1 g.wf g.v.wh (Or.inl rfl) w o (by have:=@vF s f.pl;simp;omega);have W:=pg p (sLd (fdS p s f.pl).1 (fdS p s f.pl).2.1 1).1 (L++trF s f.pl++[Acc.mk 1 0 (fdS p s f.pl).2.1 1]) (fdS p s f.pl).2.1 [ceZ] D y sm (by decide) u o (by have:=@vF s f.pl;simp;omega);refine⟨(sLd (fdS p s f.pl).1 (fdS p s f.pl).2.1 1).1,(sLd (fdS p s f.pl).1 (fdS p s f.pl).2.1 1).2.1,λd b c=>?_⟩;rw[t,<-List.append_assoc,<-List.append_assoc];rw[n1] at B;clear h i m C e t g j w z k y D u n1;generalize trF s f.pl=I at *;generalize tyL p s=ts at *;generalize (sSt (sLd (fdS p s f.pl).1 (fdS p s f.pl).2.1 1).1 (fdS p s f.pl).2.1 [ceZ])=Z at *;generalize (sLd (fdS p s f.pl).1 (fdS p s f.pl).2.1 1)=V at *;generalize (fdS p s f.pl)=U at *;obtain⟨N,F,O,P⟩:=U;obtain⟨Q,R,S⟩:=V;obtain⟨Z1,Z2⟩:=Z;obtain⟨ok,on,⟨M,K,E⟩⟩:=f;simp only at *;subst Y;refine eG [9] func56 λX=>?_;go_simp;repeat'(first|with_reducible first|apply ai|intro)
  refine zi [u0,u1] 2 0 (B d b c) ?_;intro A;go_simp;intro J;refine zi [u0,u1] 2 0 (H d (A 1).1 (A 1).2) ?_;intro G;go_simp;refine lk hP ⟨[(6,.l 6,0)],true⟩ [] [] [48] dk ?_;go_simp;intro T;refine mX (l':=[.ptr u0 d 13 0 0,.agg [iI F.al,iI F.off,iI F.tag],.vec 5 [[iU 0,iI 0,iI 0,iI 0,iI 0]]]) [.l 47] (by(focus ((repeat'(first|with_reducible exact SVL.nil|with_reducible refine SVL.cons ?_ ?_|with_reducible exact SV.refl _ _ _|with_reducible refine SV.agg ?_|exact SV.own rfl rfl rfl rfl (by first|exact Nat.le_refl _|(simp;done)) (by decide) (zT sm)));done))) ?_;refine zi [u0,u1] 2 0 (W d (G 1).1 (G 1).2) ?_;intro q3;go_simp;exact⟨[u0,u1],dk,⟨q3,OB,OB,trivial⟩,rfl⟩
end Go.Proofs.YtllodfoldffonaaGreatDoor
