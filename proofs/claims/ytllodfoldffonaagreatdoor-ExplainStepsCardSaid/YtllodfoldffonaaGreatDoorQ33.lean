/- A part of the proof. -/
import Derived.Test.YtllodfoldffonaaGreatDoorQ32
namespace Go.Proofs.YtllodfoldffonaaGreatDoor
open Go.Proofs.Tryz AM Go.RowKit
set_option linter.unusedSimpArgs false
set_option linter.unusedVariables false
set_option linter.defProp false
set_option maxRecDepth 100000
set_option maxHeartbeats 16000000
variable {L:List Po}{call:Int}{l:List Ce}{ls:List (List Ce)}{n:Int}{p:Pr}{q:Po}{r:Rv}{s:Sa}{t:Ty}{ts:List Ty}
def eD(c:RvP p s r)(e:xG r=true)(k:r.kind=2\/r.kind=3): (VlP p s r.a/\zq r.a=0/\opE (tyL p s) r.a=0/\opT (tyL p s) r.a=⟨1,0⟩)/\VlP p s r.b/\zq r.b=0/\opE (tyL p s) r.b=0/\opT (tyL p s) r.b=⟨1,0⟩:=by
 have d:=c.t;unfold rvE at d;rw[if_neg om,if_pos k] at d;obtain⟨f,h⟩:=fB d r.a sm;obtain⟨g,i⟩:=fB d r.b sm;have q:=kE e;exact⟨⟨rC (c.ka om) c.fa f,q.2.2.2.2.2.1 om,f,h⟩,rC (c.kb k) c.fb g,q.2.2.2.2.2.2.1 k,g,i⟩
def V7(d:Env p s){a o:Opd}(b:opE (tyL p s) o=0)(c:opT (tyL p s) o=⟨1,0⟩)(e:(vlS p (vlS p s a).1 o).2.2=0): ∃n,(vlS p (vlS p s a).1 o).2.1 = [ce1 n] :=
 kC d.vl (by rw[wn wm];exact b) (by rw[wn wm];exact c) e
def nd (p:Pr)(s:Sa)(r:Rv)(q:Int)(d:Nat)(u:Env p s)(w:RvP p s r)(v:xG r=true)(e:(rvS p s r).2.2=0):
  zG 91 1 (λι=>[.ptr (ι 0) d 12 0 0,r.a']) (λ_=>[wbO p d s q]) (λ_ _=>.tup [.vec 5 ((rvS p s r).2.1.map Ce.c),.bool true]) (λ_ _=>[wbO p d ((rvS p s r).1) q]):=by
 obtain⟨P,Q,R,S,T,N,U,O⟩:=kE v;have g:=w.t;by_cases k1:r.kind=1
 ·have o:rvS p s r=vlS p s r.a:=by unfold rvS;rw[if_pos k1]
  rw[o] at e ⊢;unfold rvE at g;rw[if_pos k1] at g;exact YF p s r q d u (rC (w.ka om) w.fa g) (N om) g k1 e
 by_cases h:r.kind=4\/r.kind=5
 ·have o:rvS p s r=brS p s r.pl (boK r):=by
   unfold rvS boK;rw[if_neg k1];rcases h with k|k
   ·rw[if_pos k,if_neg om]
   ·rw[if_neg om,if_pos k,if_pos k]
  have B:1<=boK r/\boK r<=4:=by
   unfold boK;rcases h with k|k
   ·rw[if_neg om];have:=O k;omega
   ·rw[if_pos k];omega
  unfold rvE at g;rw[if_neg k1,if_neg om] at g;have M:=(fA g).1;rw[o] at e ⊢;unfold brS at e ⊢;have j:(fdS p s r.pl).2.2.2=0:=zC λc=>by rw[if_pos c] at e;exact c e
  rw[if_neg (by simpa using j)] at e ⊢;have m:(sRt (fdS p s r.pl).1 (fdS p s r.pl).2.1 (fdS p s r.pl).2.2.1 (boK r) 0).2.2=0:=zC λc=>by rw[if_pos c] at e;exact c e
  rw[if_neg (by simpa using m)];exact YH p s r q d u M w.f h B j m
 have C:r.kind=2\/r.kind=3:=om;obtain⟨⟨E,F,x,J⟩,G,H,y,K⟩:=eD w v C;have o:rvS p s r=if ¬(vlS p s r.a).2.2=0 then(s,[],(vlS p s r.a).2.2) else if ¬(vlS p (vlS p s r.a).1 r.b).2.2=0 then(s,[],(vlS p (vlS p s r.a).1 r.b).2.2) else
   if r.kind=3 then((vlS p (vlS p s r.a).1 r.b).1,[ce0 (vlS p s r.a).2.1,ce0 (vlS p (vlS p s r.a).1 r.b).2.1],0) else
   if ¬(doV r.op (ce0 (vlS p s r.a).2.1).n (ce0 (vlS p (vlS p s r.a).1 r.b).2.1).n).2=0 then(s,[],4) else
   ((vlS p (vlS p s r.a).1 r.b).1,[ce1 (doV r.op (ce0 (vlS p s r.a).2.1).n (ce0 (vlS p (vlS p s r.a).1 r.b).2.1).n).1],0):=by
  unfold rvS;rw[if_neg k1,if_neg om,if_neg om]
 rw[o] at e ⊢;clear o;have j:(vlS p s r.a).2.2=0:=zC λc=>by rw[if_pos c] at e;exact c e
 rw[if_neg (by simpa using j)] at e ⊢;have m:(vlS p (vlS p s r.a).1 r.b).2.2=0:=zC λc=>by rw[if_pos c] at e;exact c e
 rw[if_neg (by simpa using m)] at e ⊢;obtain⟨n1,z⟩:=kC u x J j;obtain⟨i,A⟩:=V7 u y K m;rw[z,A] at e ⊢;rw[show ce0 [ce1 n1]=ce1 n1 from rfl,show ce0 [ce1 i]=ce1 i from rfl,show(ce1 n1).n=n1 from rfl,show(ce1 i).n=i from rfl] at e ⊢;by_cases D:r.kind=3
 ·rw[if_pos D];exact UL p s r q n1 i d u E F x G H y j z m A D
 ·rw[if_neg D] at e ⊢;have I:(doV r.op n1 i).2=0:=zC λc=>by rw[if_pos c] at e;simp at e
  rw[if_neg (by simpa using I)];exact YI p s r q n1 i d u E F x G H y j z m A om I
def dU (p:Pr)(s:Sa)(r:Rv)(q:Int)(i:Env p s)(v:RvP p s r)(x:xG r=true)(e:¬(rvS p s r).2.2=0): ∃(t:Sa)(l:List Ce),∀d,
  zG 91 1 (λι=>[.ptr (ι 0) d 12 0 0,r.a']) (λ_=>[wbO p d s q]) (λ_ _=>.tup [vCe_ l,.bool false]) (λ_ _=>[wbO p d t ((rvS p s r).2.2)]):=by
 obtain⟨P,Q,R,S,T,N,U,O⟩:=kE x;have m:=v.t;by_cases k1:r.kind=1
 ·have u:rvS p s r=vlS p s r.a:=by unfold rvS;rw[if_pos k1]
  rw[u] at e ⊢;unfold rvE at m;rw[if_pos k1] at m;exact⟨s,[],λd=>Wn p s r q d i (rC (v.ka om) v.fa m) (N om) m k1 e⟩
 by_cases h:r.kind=4\/r.kind=5
 ·have u:rvS p s r=brS p s r.pl (boK r):=by
   unfold rvS boK;rw[if_neg k1];rcases h with k|k
   ·rw[if_pos k,if_neg om]
   ·rw[if_neg om,if_pos k,if_pos k]
  have F:1<=boK r/\boK r<=4:=by
   unfold boK;rcases h with k|k
   ·rw[if_neg om];have:=O k;omega
   ·rw[if_pos k];omega
  unfold rvE at m;rw[if_neg k1,if_neg om] at m;have H:=(fA m).1;rw[u] at e ⊢;unfold brS at e ⊢;by_cases g:(fdS p s r.pl).2.2.2=0
  ·rw[if_neg (by simpa using g)] at e ⊢;have j:¬(sRt (fdS p s r.pl).1 (fdS p s r.pl).2.1 (fdS p s r.pl).2.2.1 (boK r) 0).2.2=0:=λc=>by rw[if_neg (by simpa using c)] at e;exact e rfl
   rw[if_pos j];exact⟨_,_,λd=>Wo p s r q d i H v.f h F g j⟩
  ·rw[if_pos g];exact⟨_,[],λd=>YG p s r q d i H v.f h g⟩
 have o:r.kind=2\/r.kind=3:=om;obtain⟨⟨A,B,y,J⟩,C,D,z,K⟩:=eD v x o;have u:rvS p s r=if ¬(vlS p s r.a).2.2=0 then(s,[],(vlS p s r.a).2.2) else if ¬(vlS p (vlS p s r.a).1 r.b).2.2=0 then(s,[],(vlS p (vlS p s r.a).1 r.b).2.2) else
   if r.kind=3 then((vlS p (vlS p s r.a).1 r.b).1,[ce0 (vlS p s r.a).2.1,ce0 (vlS p (vlS p s r.a).1 r.b).2.1],0) else
   if ¬(doV r.op (ce0 (vlS p s r.a).2.1).n (ce0 (vlS p (vlS p s r.a).1 r.b).2.1).n).2=0 then(s,[],4) else
   ((vlS p (vlS p s r.a).1 r.b).1,[ce1 (doV r.op (ce0 (vlS p s r.a).2.1).n (ce0 (vlS p (vlS p s r.a).1 r.b).2.1).n).1],0):=by
  unfold rvS;rw[if_neg k1,if_neg om,if_neg om]
 rw[u] at e ⊢;clear u;by_cases g:(vlS p s r.a).2.2=0
 case neg =>
  rw[if_pos g];exact⟨_,[],λd=>YJ p s r q 0 0 d i A B y C D z g o⟩
 rw[if_neg (by simpa using g)] at e ⊢;obtain⟨n1,E⟩:=kC i y J g;by_cases j:(vlS p (vlS p s r.a).1 r.b).2.2=0
 case neg =>
  rw[if_pos j];exact⟨_,[],λd=>YK p s r q n1 0 d i A B y C D z g E j o⟩
 rw[if_neg (by simpa using j)] at e ⊢;obtain⟨w,G⟩:=V7 i z K j;rw[E,G] at e ⊢;rw[show ce0 [ce1 n1]=ce1 n1 from rfl,show ce0 [ce1 w]=ce1 w from rfl,show(ce1 n1).n=n1 from rfl,show(ce1 w).n=w from rfl] at e ⊢;have M:¬r.kind=3:=λc=>by rw[if_pos c] at e;exact e rfl
 rw[if_neg M] at e ⊢;have I:¬(doV r.op n1 w).2=0:=λc=>by rw[if_neg (by simpa using c)] at e;exact e rfl
 rw[if_pos I];exact⟨_,[],λd=>Wp p s r q n1 w d i A B y C D z g E j G om I⟩
def S8{x:Pl}{k:Int}(z:¬(fdS p s x).2.2.2=0): trB p s x k=trF s x:=by unfold trB;rw[if_pos z,List.append_nil]
def dV{x:Pl}{k:Int}(z:(fdS p s x).2.2.2=0): trB p s x k=trF s x++[Acc.mk 3 k (fdS p s x).2.1 (fdS p s x).2.2.1]:=by unfold trB;rw[if_neg (by simpa using z)]
def S9{x:Pl}{n:Nat}(z:¬(fdS p s x).2.2.2=0): trA p s x n=trF s x:=by unfold trA;rw[if_pos z,List.append_nil]
def dW{x:Pl}{n:Nat}(z:(fdS p s x).2.2.2=0): trA p s x n=trF s x++[Acc.mk 2 0 (fdS p s x).2.1 n]:=by unfold trA;rw[if_neg (by simpa using z)]
def aF(k:r.kind=4\/r.kind=5): trR p s r=trB p s r.pl (boK r):=by
 unfold trR boK;rcases k with k|k
 ·rw[if_neg om,if_pos k,if_neg om]
 ·rw[if_neg om,if_neg om,if_pos k,if_pos k]
def eE(k:r.kind=2\/r.kind=3): trR p s r=trV p s r.a++(if ¬(vlS p s r.a).2.2=0 then [] else trV p (vlS p s r.a).1 r.b):=by
 unfold trR;rw[if_neg om,if_neg om,if_neg om]
def ceN:Ce:=⟨1,0,⟨0,0,0⟩⟩
def Wr (p:Pr)(s:Sa)(L:List Acc)(x:Pl)(l:List Ce)(h:Env p s)(k:zZ (tyL p s) x=0)(hl:l.length<1000000)(f:(rz l&&!l.any uB)=true)(i:Int)(J:L.length<999990): ∃t:Sa,∀d b c,
  zG 53 2 (λι=>[.ptr (ι 0) d 13 0 0,x.a,vCe_ l]) (λι=>(xbO p ι d s i L b c)) (λ_ _=>.tup []) (λι q=>(xbO p ι d t i (L++trA p s x l.length) ((q 1).1) ((q 1).2))):=by
 by_cases z:(fdS p s x).2.2.2=0
 ·rw[dW z,<-List.append_assoc];have m:=wF p s L x h k z i om;have e:=h.same vA (uv h.v (x:=x));have j:=@vF s x;by_cases u:(sSt (fdS p s x).1 (fdS p s x).2.1 l).2=0
  ·have n:=mj p (fdS p s x).1 (L++trF s x) (fdS p s x).2.1 l e.wf e.v.wh hl f u i (by simp;omega);refine⟨(sSt (fdS p s x).1 (fdS p s x).2.1 l).1,λd b c=>?_⟩;clear h k e z u j f hl;generalize trF s x=w at *;generalize (sSt (fdS p s x).1 (fdS p s x).2.1 l)=Z at *;generalize (fdS p s x)=U at *;obtain⟨D,E,F,G⟩:=U;obtain⟨H,I⟩:=Z;obtain⟨C,A,B⟩:=x;try simp only at *
   refine eG [] func53 λX=>?_;go_simp;repeat'(first|with_reducible first|apply ai|intro)
   refine zi [u0,u1] 2 0 (m d b c) ?_;intro g;go_simp;intro y;refine zi [u0,u1] 2 0 (n d (g 1).1 (g 1).2) ?_;intro o;go_simp;exact⟨[u0,u1],dk,⟨o,OB,OB,trivial⟩,yg,rfl⟩
  ·have n:=pg p (fdS p s x).1 (L++trF s x) (fdS p s x).2.1 l e.wf e.v.wh hl f u i (by simp;omega);refine⟨(fdS p s x).1,λd b c=>?_⟩;clear h k e z u j f hl;generalize trF s x=w at *;generalize (sSt (fdS p s x).1 (fdS p s x).2.1 l)=Z at *;generalize (fdS p s x)=U at *;obtain⟨D,E,F,G⟩:=U;obtain⟨H,I⟩:=Z;obtain⟨C,A,B⟩:=x;try simp only at *
   refine eG [] func53 λX=>?_;go_simp;repeat'(first|with_reducible first|apply ai|intro)
   refine zi [u0,u1] 2 0 (m d b c) ?_;intro g;go_simp;intro y;refine zi [u0,u1] 2 0 (n d (g 1).1 (g 1).2) ?_;intro o;go_simp;exact⟨[u0,u1],dk,⟨o,OB,OB,trivial⟩,yg,rfl⟩
 ·rw[S9 z];obtain⟨K,m⟩:=oJ p s L x h k z i om;refine⟨s,λd b c=>?_⟩;clear h k z f hl;generalize trF s x=w at *;obtain⟨C,A,B⟩:=x;try simp only at *
  refine eG [] func53 λX=>?_;go_simp;repeat'(first|with_reducible first|apply ai|intro)
  refine zi [u0,u1] 2 0 (m d b c) ?_;intro g;go_simp;intro y;exact⟨[u0,u1],dk,⟨g,OB,OB,trivial⟩,yg,rfl⟩
def kN (p:Pr)(s:Sa)(L:List Acc)(r:Rv)(h:Env p s)(g:VlP p s r.a)(e:opE (tyL p s) r.a=0)(k:r.kind=1)(i:(vlS p s r.a).2.2=0)(f:Int)(j:L.length<999990): ∀d b c,
  zG 52 2 (λι=>[.ptr (ι 0) d 13 0 0,r.a']) (λι=>(xbO p ι d s f L b c)) (λ_ _=>.tup [.vec 5 (((vlS p s r.a).2.1:List Ce).map Ce.c),.bool true]) (λι q=>(xbO p ι d ((vlS p s r.a).1) f (L++trV p s r.a) ((q 1).1) ((q 1).2))):=by
 have m:=wk p s L r.a h g e i f j;intro d b c;clear h g e i;generalize trV p s r.a=o at *;generalize (vlS p s r.a)=V at *;obtain⟨u,v,w⟩:=V;obtain⟨H,I,G,⟨y,z,⟨al,ad,x⟩⟩,⟨bk,D,⟨C,A,B⟩⟩,⟨pl,E,F⟩⟩:=r;simp only at *;subst k;refine eG [23] func52 λX=>?_;go_simp;repeat'(first|with_reducible first|apply ai|intro)
 refine zi [u0,u1] 2 0 (m d b c) ?_;intro n;go_simp;exact⟨[u0,u1],dk,⟨n,OB,OB,trivial⟩,rfl⟩
def Ws (p:Pr)(s:Sa)(L:List Acc)(r:Rv)(h:Env p s)(g:VlP p s r.a)(e:opE (tyL p s) r.a=0)(k:r.kind=1)(i:¬(vlS p s r.a).2.2=0)(f:Int)(j:L.length<999990): ∃(t:Sa)(l:List Ce),∀d b c,
  zG 52 2 (λι=>[.ptr (ι 0) d 13 0 0,r.a']) (λι=>(xbO p ι d s f L b c)) (λ_ _=>.tup [vCe_ l,.bool false]) (λι q=>(xbO p ι d t f (L++trV p s r.a) ((q 1).1) ((q 1).2))):=by
 obtain⟨t,l,m⟩:=sB p s L r.a h g e i f j;refine⟨t,l,λd b c=>?_⟩;clear h g e i;generalize trV p s r.a=o at *;obtain⟨E,F,D,⟨v,w,⟨al,ad,u⟩⟩,⟨bk,A,⟨z,x,y⟩⟩,⟨pl,B,C⟩⟩:=r;simp only at *;subst k;refine eG [23] func52 λX=>?_;go_simp;repeat'(first|with_reducible first|apply ai|intro)
 refine zi [u0,u1] 2 0 (m d b c) ?_;intro n;go_simp;exact⟨[u0,u1],dk,⟨n,OB,OB,trivial⟩,rfl⟩
def YL (p:Pr)(s:Sa)(L:List Acc)(r:Rv)(h:Env p s)(i:zZ (tyL p s) r.pl=0)(k:r.kind=4\/r.kind=5)(hb:1<=boK r/\boK r<=4)(z:¬(fdS p s r.pl).2.2.2=0)(e:Int)(A:L.length<999990): ∀d b c,
  zG 52 2 (λι=>[.ptr (ι 0) d 13 0 0,r.a']) (λι=>(xbO p ι d s e L b c)) (λ_ _=>.tup [.vec 5 [],.bool false]) (λι q=>(xbO p ι d s e (L++trB p s r.pl (boK r)) ((q 1).1) ((q 1).2))):=by
 rw[S8 z];obtain⟨G,g⟩:=oJ p s L r.pl h i z e om;intro d b c;have a:r.kind=4->¬r.bo<1:=λq=>by unfold boK at hb;rw[if_neg om] at hb;omega
 clear h i z hb;generalize trF s r.pl=m at *;obtain⟨E,F,D,⟨o,u,⟨al,ad,n⟩⟩,⟨bk,y,⟨x,v,w⟩⟩,⟨pl,B,C⟩⟩:=r;simp only at *;rcases k with rfl|rfl
 ·replace a:=a rfl;refine eG [23] func52 λX=>?_;go_simp;repeat'(first|with_reducible first|apply ai|intro)
  refine zi [u0,u1] 2 0 (g d b c) ?_;intro f;go_simp;intro j;exact⟨[u0,u1],dk,⟨f,OB,OB,trivial⟩,rfl⟩
 ·clear a;refine eG [23] func52 λX=>?_;go_simp;repeat'(first|with_reducible first|apply ai|intro)
  refine zi [u0,u1] 2 0 (g d b c) ?_;intro f;go_simp;intro j;exact⟨[u0,u1],dk,⟨f,OB,OB,trivial⟩,rfl⟩
def YM (p:Pr)(s:Sa)(L:List Acc)(r:Rv)(h:Env p s)(n:zZ (tyL p s) r.pl=0)(k:r.kind=4\/r.kind=5)(hb:1<=boK r/\boK r<=4)(z:(fdS p s r.pl).2.2.2=0)(w:(sRt (fdS p s r.pl).1 (fdS p s r.pl).2.1 (fdS p s r.pl).2.2.1 (boK r) 0).2.2=0)(i:Int)(R:L.length<999990): ∀d b c,
  zG 52 2 (λι=>[.ptr (ι 0) d 13 0 0,r.a']) (λι=>(xbO p ι d s i L b c)) (λ_ _=>.tup [.vec 5 (([⟨2,0,(sRt (fdS p s r.pl).1 (fdS p s r.pl).2.1 (fdS p s r.pl).2.2.1 (boK r) 0).2.1⟩]:List Ce).map Ce.c),.bool true]) (λι q=>(xbO p ι d ((sRt (fdS p s r.pl).1 (fdS p s r.pl).2.1 (fdS p s r.pl).2.2.1 (boK r) 0).1) i (L++trB p s r.pl (boK r)) ((q 1).1) ((q 1).2))):=by
 rw[dV z,<-List.append_assoc];have u:=wF p s L r.pl h n z i om;have e:=h.same vA (uv h.v (x:=r.pl));have m:=@vF s r.pl;have f:=(rj h.v h.ne n z).sz;have y:=ml p (fdS p s r.pl).1 (L++trF s r.pl) (fdS p s r.pl).2.1 (fdS p s r.pl).2.2.1 (boK r) 0 e.wf e.v.wh (by rw[f];exact qv) hb (Or.inl rfl) w i (by simp;omega);intro d b c;have a:r.kind=4->¬r.bo<1:=λq=>by unfold boK at hb;rw[if_neg om] at hb;omega
 clear h n z w e m f;generalize trF s r.pl=B at *;generalize (sRt (fdS p s r.pl).1 (fdS p s r.pl).2.1 (fdS p s r.pl).2.2.1 (boK r) 0)=Z at *;generalize (fdS p s r.pl)=U at *;obtain⟨C,D,E,F⟩:=U;obtain⟨G,H,I⟩:=Z;unfold boK at *;obtain⟨W,Y,V,⟨K,M,⟨al,ad,J⟩⟩,⟨bk,Q,⟨P,N,O⟩⟩,⟨pl,S,T⟩⟩:=r;simp only at *;rcases k with rfl|rfl
 ·replace a:=a rfl;simp only[reduceIte,show ¬(4:Int)=5 by decide] at *;refine eG [23] func52 λX=>?_;go_simp;repeat'(first|with_reducible first|apply ai|intro)
  refine zi [u0,u1] 2 0 (u d b c) ?_;intro g;go_simp;intro A;refine zi [u0,u1] 2 0 (y d (g 1).1 (g 1).2) ?_;intro o;go_simp;intro j;exact⟨[u0,u1],dk,⟨o,OB,OB,trivial⟩,by decide,rfl⟩
 ·clear a;simp only[reduceIte,show ¬(4:Int)=5 by decide] at *;refine eG [23] func52 λX=>?_;go_simp;repeat'(first|with_reducible first|apply ai|intro)
  refine zi [u0,u1] 2 0 (u d b c) ?_;intro g;go_simp;intro A;refine zi [u0,u1] 2 0 (y d (g 1).1 (g 1).2) ?_;intro o;go_simp;intro j;exact⟨[u0,u1],dk,⟨o,OB,OB,trivial⟩,by decide,rfl⟩
def Wt (p:Pr)(s:Sa)(L:List Acc)(r:Rv)(h:Env p s)(n:zZ (tyL p s) r.pl=0)(k:r.kind=4\/r.kind=5)(hb:1<=boK r/\boK r<=4)(z:(fdS p s r.pl).2.2.2=0)(w:¬(sRt (fdS p s r.pl).1 (fdS p s r.pl).2.1 (fdS p s r.pl).2.2.1 (boK r) 0).2.2=0)(i:Int)(R:L.length<999990): ∀d b c,
  zG 52 2 (λι=>[.ptr (ι 0) d 13 0 0,r.a']) (λι=>(xbO p ι d s i L b c)) (λ_ _=>.tup [.vec 5 (([⟨2,0,(sRt (fdS p s r.pl).1 (fdS p s r.pl).2.1 (fdS p s r.pl).2.2.1 (boK r) 0).2.1⟩]:List Ce).map Ce.c),.bool false]) (λι q=>(xbO p ι d ((fdS p s r.pl).1) i (L++trB p s r.pl (boK r)) ((q 1).1) ((q 1).2))):=by
 rw[dV z,<-List.append_assoc];have u:=wF p s L r.pl h n z i om;have e:=h.same vA (uv h.v (x:=r.pl));have m:=@vF s r.pl;have f:=(rj h.v h.ne n z).sz;have y:=lD p (fdS p s r.pl).1 (L++trF s r.pl) (fdS p s r.pl).2.1 (fdS p s r.pl).2.2.1 (boK r) 0 e.wf e.v.wh (by rw[f];exact qv) hb (Or.inl rfl) w i (by simp;omega);intro d b c;have a:r.kind=4->¬r.bo<1:=λq=>by unfold boK at hb;rw[if_neg om] at hb;omega
 clear h n z w e m f;generalize trF s r.pl=B at *;generalize (sRt (fdS p s r.pl).1 (fdS p s r.pl).2.1 (fdS p s r.pl).2.2.1 (boK r) 0)=Z at *;generalize (fdS p s r.pl)=U at *;obtain⟨C,D,E,F⟩:=U;obtain⟨G,H,I⟩:=Z;unfold boK at *;obtain⟨W,Y,V,⟨K,M,⟨al,ad,J⟩⟩,⟨bk,Q,⟨P,N,O⟩⟩,⟨pl,S,T⟩⟩:=r;simp only at *;rcases k with rfl|rfl
 ·replace a:=a rfl;simp only[reduceIte,show ¬(4:Int)=5 by decide] at *;refine eG [23] func52 λX=>?_;go_simp;repeat'(first|with_reducible first|apply ai|intro)
  refine zi [u0,u1] 2 0 (u d b c) ?_;intro g;go_simp;intro A;refine zi [u0,u1] 2 0 (y d (g 1).1 (g 1).2) ?_;intro o;go_simp;intro j;exact⟨[u0,u1],dk,⟨o,OB,OB,trivial⟩,by decide,rfl⟩
 ·clear a;simp only[reduceIte,show ¬(4:Int)=5 by decide] at *;refine eG [23] func52 λX=>?_;go_simp;repeat'(first|with_reducible first|apply ai|intro)
  refine zi [u0,u1] 2 0 (u d b c) ?_;intro g;go_simp;intro A;refine zi [u0,u1] 2 0 (y d (g 1).1 (g 1).2) ?_;intro o;go_simp;intro j;exact⟨[u0,u1],dk,⟨o,OB,OB,trivial⟩,by decide,rfl⟩
def YN (p:Pr)(s:Sa)(L:List Acc)(r:Rv)(h:Env p s)(g:VlP p s r.a)(j:opE (tyL p s) r.a=0)(m:VlP p s r.b)(o:opE (tyL p s) r.b=0)(k:r.kind=2\/r.kind=3)(z:¬(vlS p s r.a).2.2=0)(e:Int)(n:L.length<999990): ∃(t:Sa),∀d b c,
  zG 52 2 (λι=>[.ptr (ι 0) d 13 0 0,r.a']) (λι=>(xbO p ι d s e L b c)) (λ_ _=>.tup [.vec 5 [],.bool false]) (λι q=>(xbO p ι d t e (L++trV p s r.a) ((q 1).1) ((q 1).2))):=by
 obtain⟨t,l,i⟩:=sB p s L r.a h g j z e n;refine⟨t,λd b c=>?_⟩;clear h g j m o z;generalize trV p s r.a=u at *;obtain⟨G,H,F,⟨w,x,⟨al,ad,v⟩⟩,⟨bk,C,⟨B,y,A⟩⟩,⟨pl,D,E⟩⟩:=r;simp only at *;rcases k with rfl|rfl
 ·refine eG [23] func52 λX=>?_;go_simp;repeat'(first|with_reducible first|apply ai|intro)
  refine zi [u0,u1] 2 0 (i d b c) ?_;intro f;go_simp;exact⟨[u0,u1],dk,⟨f,OB,OB,trivial⟩,rfl⟩
 ·refine eG [23] func52 λX=>?_;go_simp;repeat'(first|with_reducible first|apply ai|intro)
  refine zi [u0,u1] 2 0 (i d b c) ?_;intro f;go_simp;exact⟨[u0,u1],dk,⟨f,OB,OB,trivial⟩,rfl⟩
def YO (p:Pr)(s:Sa)(L:List Acc)(r:Rv)(h:Env p s)(v:VlP p s r.a)(y:opE (tyL p s) r.a=0)(m:VlP p s r.b)(A:opE (tyL p s) r.b=0)(k:r.kind=2\/r.kind=3)(z:(vlS p s r.a).2.2=0)(w:¬(vlS p (vlS p s r.a).1 r.b).2.2=0)(n:Int)(O:L.length<999980): ∃(t:Sa),∀d b c,
  zG 52 2 (λι=>[.ptr (ι 0) d 13 0 0,r.a']) (λι=>(xbO p ι d s n L b c)) (λ_ _=>.tup [.vec 5 [],.bool false]) (λι q=>(xbO p ι d t n (L++(trV p s r.a++trV p (vlS p s r.a).1 r.b)) ((q 1).1) ((q 1).2))):=by
 have S:=@wm p s r.a;have e:VlP p (vlS p s r.a).1 r.b:=⟨m.k,m.f,by rw[wn S];exact m.t⟩
 have j:opE (tyL p (vlS p s r.a).1) r.b=0:=by rw[wn S];exact A
 have o:=@ti p s r.a;have x:=wk p s L r.a h v y z n om;obtain⟨t,l,g⟩:=sB p (vlS p s r.a).1 (L++trV p s r.a) r.b h.vl e j w n (by simp;omega);refine⟨t,λd b c=>?_⟩;rw[<-List.append_assoc];clear h v y m A e j S z w o;generalize trV p (vlS p s r.a).1 r.b=C at *;generalize trV p s r.a=B at *;generalize (vlS p s r.a)=V at *;obtain⟨D,E,F⟩:=V;obtain⟨T,U,R,⟨H,I,⟨al,ad,G⟩⟩,⟨bk,N,⟨M,J,K⟩⟩,⟨pl,P,Q⟩⟩:=r;simp only at *;rcases k with rfl|rfl
 ·refine eG [23] func52 λX=>?_;go_simp;repeat'(first|with_reducible first|apply ai|intro)
  refine zi [u0,u1] 2 0 (x d b c) ?_;intro i;go_simp;refine zi [u0,u1] 2 0 (g d (i 1).1 (i 1).2) ?_;intro u;go_simp;exact⟨[u0,u1],dk,⟨u,OB,OB,trivial⟩,rfl⟩
 ·refine eG [23] func52 λX=>?_;go_simp;repeat'(first|with_reducible first|apply ai|intro)
  refine zi [u0,u1] 2 0 (x d b c) ?_;intro i;go_simp;refine zi [u0,u1] 2 0 (g d (i 1).1 (i 1).2) ?_;intro u;go_simp;exact⟨[u0,u1],dk,⟨u,OB,OB,trivial⟩,rfl⟩
def bI (p:Pr)(s:Sa)(L:List Acc)(r:Rv)(h:Env p s)(o:VlP p s r.a)(v:opE (tyL p s) r.a=0)(i:VlP p s r.b)(x:opE (tyL p s) r.b=0)(k:r.kind=3)(z:(vlS p s r.a).2.2=0)(w:(vlS p (vlS p s r.a).1 r.b).2.2=0)(j:Int)(U:L.length<999980): ∀d b c,
  zG 52 2 (λι=>[.ptr (ι 0) d 13 0 0,r.a']) (λι=>(xbO p ι d s j L b c)) (λ_ _=>.tup [vCe_ ([ceN,ceN]:List Ce),.bool true]) (λι q=>(xbO p ι d ((vlS p (vlS p s r.a).1 r.b).1) j (L++(trV p s r.a++trV p (vlS p s r.a).1 r.b)) ((q 1).1) ((q 1).2))):=by
 have S:=@wm p s r.a;have e:VlP p (vlS p s r.a).1 r.b:=⟨i.k,i.f,by rw[wn S];exact i.t⟩
 have g:opE (tyL p (vlS p s r.a).1) r.b=0:=by rw[wn S];exact x
 have m:=@ti p s r.a;have E:=wk p s L r.a h o v z j om;have n:=wk p (vlS p s r.a).1 (L++trV p s r.a) r.b h.vl e g w j (by simp;omega);intro d b c;rw[<-List.append_assoc];clear h o v i x e g S z w m;generalize trV p (vlS p s r.a).1 r.b=H at *;generalize trV p s r.a=G at *;generalize (vlS p (vlS p s r.a).1 r.b)=y at *;generalize (vlS p s r.a)=V at *;obtain⟨I,J,K⟩:=V;obtain⟨A,B,C⟩:=y;obtain⟨rk,ro,Z,⟨N,O,⟨al,ad,M⟩⟩,⟨bk,T,⟨R,P,Q⟩⟩,⟨pl,W,Y⟩⟩:=r;simp only at *;subst k;refine eG [23] func52 λX=>?_;go_simp;repeat'(first|with_reducible first|apply ai|intro)
 refine zi [u0,u1] 2 0 (E d b c) ?_;intro u;go_simp;refine zi [u0,u1] 2 0 (n d (u 1).1 (u 1).2) ?_;intro F;go_simp;intro D;exact⟨[u0,u1],dk,⟨F,OB,OB,trivial⟩,by decide,rfl⟩
def jW (p:Pr)(s:Sa)(L:List Acc)(r:Rv)(h:Env p s)(o:VlP p s r.a)(v:opE (tyL p s) r.a=0)(j:VlP p s r.b)(x:opE (tyL p s) r.b=0)(k:r.kind=2)(z:(vlS p s r.a).2.2=0)(w:(vlS p (vlS p s r.a).1 r.b).2.2=0)(g:Int)(U:L.length<999980): ∀d b c,
  zG 52 2 (λι=>[.ptr (ι 0) d 13 0 0,r.a']) (λι=>(xbO p ι d s g L b c)) (λ_ _=>.tup [vCe_ ([ceN]:List Ce),.bool (g != 4)]) (λι q=>(xbO p ι d ((vlS p (vlS p s r.a).1 r.b).1) g (L++(trV p s r.a++trV p (vlS p s r.a).1 r.b)) ((q 1).1) ((q 1).2))):=by
 have S:=@wm p s r.a;have e:VlP p (vlS p s r.a).1 r.b:=⟨j.k,j.f,by rw[wn S];exact j.t⟩
 have i:opE (tyL p (vlS p s r.a).1) r.b=0:=by rw[wn S];exact x
 have m:=@ti p s r.a;have E:=wk p s L r.a h o v z g om;have n:=wk p (vlS p s r.a).1 (L++trV p s r.a) r.b h.vl e i w g (by simp;omega);intro d b c;rw[<-List.append_assoc];clear h o v j x e i S z w m;generalize trV p (vlS p s r.a).1 r.b=H at *;generalize trV p s r.a=G at *;generalize (vlS p (vlS p s r.a).1 r.b)=y at *;generalize (vlS p s r.a)=V at *;obtain⟨I,J,K⟩:=V;obtain⟨A,B,C⟩:=y;obtain⟨rk,ro,Z,⟨N,O,⟨al,ad,M⟩⟩,⟨bk,T,⟨R,P,Q⟩⟩,⟨pl,W,Y⟩⟩:=r;simp only at *;subst k;refine eG [23] func52 λX=>?_;go_simp;repeat'(first|with_reducible first|apply ai|intro)
 refine zi [u0,u1] 2 0 (E d b c) ?_;intro u;go_simp;refine zi [u0,u1] 2 0 (n d (u 1).1 (u 1).2) ?_;intro F;go_simp;refine zh hP ⟨[(6,.l 6,0),(85,u0,11)],true⟩ dk ?_;go_simp;intro D;exact⟨[u0,u1],dk,⟨F,OB,OB,trivial⟩,by decide,rfl⟩
def lE (p:Pr)(s:Sa)(L:List Acc)(e:Opd)(h:Env p s)(k:VlP p s e)(f:opE (tyL p s) e=0)(m:¬(vlS p s e).2.2=0)(g:Int)(i:L.length<999990): ∃l:List Ce,∀d b c,
  zG 56 2 (λι=>[.ptr (ι 0) d 13 0 0,e.a]) (λι=>(xbO p ι d s g L b c)) (λ_ _=>.tup [vCe_ l,.bool false]) (λι q=>(xxO p ι d g (L++trV p s e) ((q 1).1) ((q 1).2))):=by
 obtain⟨t,l,j⟩:=sB p s L e h k f m g i;exact⟨l,λd b c=>(j d b c).wide (λ_ _=>Nat.le_refl _) λι q=>yy.cons (obq.one rfl λX w=>by repeat'(first|exact vw|refine uj ?_|refine ve ?_)) (yy.cons (obq.refl _) yy.nil)⟩
def kO (p:Pr)(s:Sa)(L:List Acc)(e:Opd)(h:Env p s)(j:VlP p s e)(f:opE (tyL p s) e=0)(g:Int)(i:L.length<999990): ∃(l:List Ce)(v:Bool),∀d b c,
  zG 56 2 (λι=>[.ptr (ι 0) d 13 0 0,e.a]) (λι=>(xbO p ι d s g L b c)) (λ_ _=>.tup [vCe_ l,.bool v]) (λι q=>(xxO p ι d g (L++trV p s e) ((q 1).1) ((q 1).2))):=by
 by_cases z:(vlS p s e).2.2=0
 ·exact⟨_,true,λd b c=>(wk p s L e h j f z g i d b c).wide (λ_ _=>Nat.le_refl _) λι q=>yy.cons (obq.one rfl λX w=>by repeat'(first|exact vw|refine uj ?_|refine ve ?_)) (yy.cons (obq.refl _) yy.nil)⟩
 ·obtain⟨l,k⟩:=lE p s L e h j f z g i;exact⟨l,false,k⟩
def lF (p:Pr)(s:Sa)(L:List Acc)(x:Pl)(l:List Ce)(h:Env p s)(j:zZ (tyL p s) x=0)(hl:l.length<1000000)(e:(rz l&&!l.any uB)=true)(f:Int)(i:L.length<999990): ∀d b c,
  zG 53 2 (λι=>[.ptr (ι 0) d 13 0 0,x.a,vCe_ l]) (λι=>(xbO p ι d s f L b c)) (λ_ _=>.tup []) (λι q=>(xxO p ι d f (L++trA p s x l.length) ((q 1).1) ((q 1).2))):=by
 obtain⟨t,g⟩:=Wr p s L x l h j hl e f i;exact λd b c=>(g d b c).wide (λ_ _=>Nat.le_refl _) λι q=>yy.cons (obq.one rfl λX w=>by repeat'(first|exact vw|refine uj ?_|refine ve ?_)) (yy.cons (obq.refl _) yy.nil)
def UO(c:RvP p s r)(a:xG r=true)(k:r.kind=4\/r.kind=5): zZ (tyL p s) r.pl=0/\(1<=boK r/\boK r<=4)/\rvS p s r=brS p s r.pl (boK r):=by
 have b:=c.t;unfold rvE at b;rw[if_neg om,if_neg om] at b;have d:=(kE a).2.2.2.2.2.2.2;refine⟨(fA b).1,?_,?_⟩
 ·unfold boK;rcases k with k|k
  ·rw[if_neg om];have:=d k;omega
  ·rw[if_pos k];omega
 ·unfold rvS boK;rcases k with k|k
  ·rw[if_neg om,if_pos k,if_neg om]
  ·rw[if_neg om,if_neg om,if_pos k,if_pos k]
def YP(c:RvP p s r)(k:r.kind=1): VlP p s r.a/\opE (tyL p s) r.a=0/\rvS p s r=vlS p s r.a/\trR p s r=trV p s r.a:=by
 have b:=c.t;unfold rvE at b;rw[if_pos k] at b;exact⟨rC (c.ka om) c.fa b,b,by unfold rvS;rw[if_pos k],by unfold trR;rw[if_pos k]⟩
def UP(k:r.kind=2\/r.kind=3): rvS p s r=if ¬(vlS p s r.a).2.2=0 then(s,[],(vlS p s r.a).2.2) else if ¬(vlS p (vlS p s r.a).1 r.b).2.2=0 then(s,[],(vlS p (vlS p s r.a).1 r.b).2.2) else
   if r.kind=3 then((vlS p (vlS p s r.a).1 r.b).1,[ce0 (vlS p s r.a).2.1,ce0 (vlS p (vlS p s r.a).1 r.b).2.1],0) else
   if ¬(doV r.op (ce0 (vlS p s r.a).2.1).n (ce0 (vlS p (vlS p s r.a).1 r.b).2.1).n).2=0 then(s,[],4) else
   ((vlS p (vlS p s r.a).1 r.b).1,[ce1 (doV r.op (ce0 (vlS p s r.a).2.1).n (ce0 (vlS p (vlS p s r.a).1 r.b).2.1).n).1],0):=by
 unfold rvS;rw[if_neg om,if_neg om,if_neg om]
def SB(h:xh p s t l=true): (rz l&&!l.any uB)=true/\l.length<1000000:=bc h
def eF (p:Pr)(s:Sa)(L:List Acc)(r:Rv)(u:Env p s)(w:RvP p s r)(z:xG r=true)(e:(rvS p s r).2.2=0)(g:Int)(A:¬g=4)(G:L.length<999980): ∃l:List Ce,l.length=(rvS p s r).2.1.length/\(rz l&&!l.any uB)=true/\l.length<1000000/\∀d b c,
  zG 52 2 (λι=>[.ptr (ι 0) d 13 0 0,r.a']) (λι=>(xbO p ι d s g L b c)) (λ_ _=>.tup [vCe_ l,.bool true]) (λι q=>(xbO p ι d ((rvS p s r).1) g (L++trR p s r) ((q 1).1) ((q 1).2))):=by
 have y:=fC u.v u.ne w.k w.t e;obtain⟨j,m⟩:=SB y;by_cases k1:r.kind=1
 ·obtain⟨a,b,c,t⟩:=YP w k1;rw[c] at e j m ⊢;rw[t];exact⟨_,rfl,j,m,kN p s L r u a b k1 e g om⟩
 by_cases o:r.kind=4\/r.kind=5
 ·obtain⟨a,b,c⟩:=UO w z o;rw[c] at e j m ⊢;rw[aF o];unfold brS at e j m ⊢;have i:(fdS p s r.pl).2.2.2=0:=zC λq=>by rw[if_pos q] at e;exact q e
  rw[if_neg (by simpa using i)] at e j m ⊢;have x:(sRt (fdS p s r.pl).1 (fdS p s r.pl).2.1 (fdS p s r.pl).2.2.1 (boK r) 0).2.2=0:=zC λq=>by rw[if_pos q] at e;exact q e
  rw[if_neg (by simpa using x)] at j m ⊢;exact⟨_,rfl,j,m,YM p s L r u a o b i x g om⟩
 have f:r.kind=2\/r.kind=3:=by have:=w.k;omega
 obtain⟨⟨C,I,D,J⟩,E,K,F,M⟩:=eD w z f;rw[UP f] at e ⊢;have i:(vlS p s r.a).2.2=0:=zC λq=>by rw[if_pos q] at e;exact q e
 rw[if_neg (by simpa using i)] at e ⊢;have x:(vlS p (vlS p s r.a).1 r.b).2.2=0:=zC λq=>by rw[if_pos q] at e;exact q e
 rw[if_neg (by simpa using x)] at e ⊢;by_cases B:r.kind=3
 ·rw[if_pos B,eE f,if_neg (by simpa using i)];exact⟨[ceN,ceN],rfl,by decide,by decide,bI p s L r u C D E F B i x g G⟩
 ·rw[if_neg B] at e ⊢;have H:(doV r.op (ce0 (vlS p s r.a).2.1).n (ce0 (vlS p (vlS p s r.a).1 r.b).2.1).n).2=0:=zC λq=>by rw[if_pos q] at e;simp at e
  rw[if_neg (by simpa using H),eE f,if_neg (by simpa using i)];have h:=jW p s L r u C D E F om i x g G;rw[show(g != 4)=true by simpa using A] at h;exact⟨[ceN],rfl,by decide,by decide,h⟩
def dX (p:Pr)(s:Sa)(L:List Acc)(r:Rv)(o:Env p s)(x:RvP p s r)(u:xG r=true)(e:¬(rvS p s r).2.2=0)(i:Int)(f:(rvS p s r).2.2=4->i=4)(D:L.length<999980): ∃l:List Ce,∀d b c,
  zG 52 2 (λι=>[.ptr (ι 0) d 13 0 0,r.a']) (λι=>(xbO p ι d s i L b c)) (λ_ _=>.tup [vCe_ l,.bool false]) (λι q=>(xxO p ι d i (L++trR p s r) ((q 1).1) ((q 1).2))):=by
 by_cases k1:r.kind=1
 ·obtain⟨a,b,c,t⟩:=YP x k1;rw[c] at e;rw[t];obtain⟨t,l,h⟩:=Ws p s L r o a b k1 e i om;exact⟨l,λd b c=>(h d b c).wide (λ_ _=>Nat.le_refl _) λι q=>yy.cons (obq.one rfl λX w=>by repeat'(first|exact vw|refine uj ?_|refine ve ?_)) (yy.cons (obq.refl _) yy.nil)⟩
 by_cases m:r.kind=4\/r.kind=5
 ·obtain⟨a,b,c⟩:=UO x u m;rw[c] at e;rw[aF m];unfold brS at e;by_cases j:(fdS p s r.pl).2.2.2=0
  ·rw[if_neg (by simpa using j)] at e;have v:¬(sRt (fdS p s r.pl).1 (fdS p s r.pl).2.1 (fdS p s r.pl).2.2.1 (boK r) 0).2.2=0:=λq=>by rw[if_neg (by simpa using q)] at e;exact e rfl
   exact⟨_,λd A c=>(Wt p s L r o a m b j v i om d A c).wide (λ_ _=>Nat.le_refl _) λι q=>yy.cons (obq.one rfl λX w=>by repeat'(first|exact vw|refine uj ?_|refine ve ?_)) (yy.cons (obq.refl _) yy.nil)⟩
  ·exact⟨[],λd A c=>(YL p s L r o a m b j i om d A c).wide (λ_ _=>Nat.le_refl _) λι q=>yy.cons (obq.one rfl λX w=>by repeat'(first|exact vw|refine uj ?_|refine ve ?_)) (yy.cons (obq.refl _) yy.nil)⟩
 have g:r.kind=2\/r.kind=3:=by have:=x.k;omega
 obtain⟨⟨y,G,z,H⟩,B,I,C,J⟩:=eD x u g;rw[UP g] at e f;rw[eE g];by_cases j:(vlS p s r.a).2.2=0
 case neg =>
  rw[if_pos j,List.append_nil];obtain⟨t,h⟩:=YN p s L r o y z B C g j i om;exact⟨[],λd b c=>(h d b c).wide (λ_ _=>Nat.le_refl _) λι q=>yy.cons (obq.one rfl λX w=>by repeat'(first|exact vw|refine uj ?_|refine ve ?_)) (yy.cons (obq.refl _) yy.nil)⟩
 rw[if_neg (by simpa using j)] at e f;rw[if_neg (by simpa using j)];by_cases v:(vlS p (vlS p s r.a).1 r.b).2.2=0
 case neg =>
  obtain⟨t,h⟩:=YO p s L r o y z B C g j v i D;exact⟨[],λd b c=>(h d b c).wide (λ_ _=>Nat.le_refl _) λι q=>yy.cons (obq.one rfl λX w=>by repeat'(first|exact vw|refine uj ?_|refine ve ?_)) (yy.cons (obq.refl _) yy.nil)⟩
 rw[if_neg (by simpa using v)] at e f;have E:¬r.kind=3:=λq=>by rw[if_pos q] at e;exact e rfl
 rw[if_neg E] at e f;have F:¬(doV r.op (ce0 (vlS p s r.a).2.1).n (ce0 (vlS p (vlS p s r.a).1 r.b).2.1).n).2=0:=λq=>by rw[if_neg (by simpa using q)] at e;exact e rfl
 rw[if_pos F] at f;have h:=jW p s L r o y z B C om j v i D;rw[show(i != 4)=false by simpa using f rfl] at h;exact⟨[ceN],λd b c=>(h d b c).wide (λ_ _=>Nat.le_refl _) λι q=>yy.cons (obq.one rfl λX w=>by repeat'(first|exact vw|refine uj ?_|refine ve ?_)) (yy.cons (obq.refl _) yy.nil)⟩
def ng (t:Ty)(h:yE t=true): zK 55 [t.a] (iI (zg t)):=by
 have b:=pp t;rw[if_pos h] at b;obtain⟨k,o⟩:=t;refine eK [] func55 λX=>?_;go_simp;repeat'(first|(apply zd b;try go_simp)|with_reducible first|apply ai|intro)
def dY{o:Opd}{l:List Opd}(h:(vlS p s o).2.2=0): trC p s (o::l)=trV p s o++trC p (vlS p s o).1 l:=by
 show _++(if _ then _ else _)=_;rw[if_pos h]
def SC{o:Opd}{l:List Opd}(h:¬(vlS p s o).2.2=0): trC p s (o::l)=trV p s o:=by
 show _++(if _ then _ else _)=_;rw[if_neg h,List.append_nil]
def V8(h:t.kind=3\/t.kind=4)(z:(sRt s (ce0 l).p (zg ⟨t.to,0⟩) (rtK t) call).2.2=0):
  trG call s (t::ts) (l::ls)=Acc.mk 3 (rtK t) (ce0 l).p (zg ⟨t.to,0⟩)::trG call (sRt s (ce0 l).p (zg ⟨t.to,0⟩) (rtK t) call).1 ts ls:=by
 show(if _ then _ else _)=_;rw[if_pos h,if_pos z]
def SD(h:t.kind=3\/t.kind=4)(z:¬(sRt s (ce0 l).p (zg ⟨t.to,0⟩) (rtK t) call).2.2=0):
  trG call s (t::ts) (l::ls) = [Acc.mk 3 (rtK t) (ce0 l).p (zg ⟨t.to,0⟩)]:=by
 show(if _ then _ else _)=_;rw[if_pos h,if_neg z]
def gA(h:¬(t.kind=3\/t.kind=4)): trG call s (t::ts) (l::ls)=trG call s ts ls:=by
 show(if _ then _ else _)=_;rw[if_neg h]
def NL: trG call s ts [] = []:=by cases ts<;>rfl
def NN(h:WhV s){n kind call:Int}: (sRt s q n kind call).1.mon.running=s.mon.running:=by
 unfold sRt;split
 ·rename_i c;obtain⟨a,b⟩:=yX.1 c;exact(f6 h a b).2.2.2.1
 ·rfl
def Hj(a:(gEn s).2.2=0): (gEn s).2.1=0\/((sEn s).plain=false/\(sEn s).mon.running.any (eqI (gEn s).2.1)=true):=by
 unfold sEn;cases hp:s.plain with
 |true=>left;unfold gEn;rw[if_pos hp]
 |false =>
  right;have b:gEn s=mEn s.mon:=by unfold gEn;rw[hp];rfl
  rw[b] at a ⊢;refine⟨hp,?_⟩;unfold mEn at a ⊢;split at a
  ·simp at a
  ·rename_i c;rw[if_neg c];simp[yh,eqI]
def YQ: 1<=rtK t/\rtK t<=4:=by unfold rtK;split<;>omega
def NO(h:yE t=true)(k:t.kind=3\/t.kind=4): yE ⟨t.to,0⟩=true:=by
 have a:t.to=1\/t.to=2:=by
  unfold yE at h;simp only[Bool.or_eq_true,zB,beq_iff_eq,zL] at h;omega
 rcases a with a|a<;>rw[a]<;>rfl
def bJ (p:Pr)(s:Sa)(L:List Acc)(r:Po)(n kind call:Int)(k:z9 s)(j:WhV s)(hn:n=1\/n=2)(h:1<=kind/\kind<=4)(g:call=0\/(s.plain=false/\s.mon.running.any (eqI call)=true))(i:¬(sRt s r n kind call).2.2=0)(e:Int)(f:L.length<1000000): ∀d b c,
  zG 105 2 (λι=>[.ptr (ι 0) d 13 0 0,r.a,iI n,iU kind,iI call]) (λι=>(xbO p ι d s e L b c)) (λ_ _=>.tup [(sRt s r n kind call).2.1.a,.bool false]) (λι q=>(xxO p ι d e (L++[Acc.mk 3 kind r n]) ((q 1).1) ((q 1).2))) :=
 λd b c=>(lD p s L r n kind call k j hn h g i e f d b c).wide (λ_ _=>Nat.le_refl _) λι q=>yy.cons (obq.one rfl λX w=>by repeat'(first|exact vw|refine uj ?_|refine ve ?_)) (yy.cons (obq.refl _) yy.nil)
def SE (p:Pr)(s:Sa)(L:List Acc)(k:Nat)(g:Fn)(j:Ju)(he:Env p s)(hj:CaP p s k g j.args)(hk:j.fn=k)(J:Int)(C:(y5 p s j.args []).2.2=0->¬J=3->(gEn (y5 p s j.args []).1).2.2=0)(hL:L.length<999000): ∀d b c,
  zG 57 2 (λι=>[.ptr (ι 0) d 13 0 0,j.a']) (λι=>(xbO p ι d s J L b c)) (λ_ _=>.tup []) (λι q=>(xxO p ι d J (L++trK p s g j.args J) ((q 1).1) ((q 1).2))):=by
 intro d b c;suffices HH:∀R:List Acc,Hd (R=L++trK p s g j.args J)->zG 57 2 (λι=>[.ptr (ι 0) d 13 0 0,j.a']) (λι=>(xbO p ι d s J L b c)) (λ_ _=>.tup []) (λι q=>(xxO p ι d J R ((q 1).1) ((q 1).2))) from HH _ ⟨rfl⟩
 intro R hq;unfold trK at hq;have xf:=hj.ff;obtain⟨uk,yc⟩:=zS.1 xf;have x1:=s8 he.wp (vW he.ty) g (zF xf);have ys:=x1.l16;have u3:=hj.len;have h7:=hj.op;have N:=x1.tys;clear hj;obtain⟨jk,⟨ak,an,⟨al,ad,af⟩⟩,jf,jn,je,args,⟨dl,dd,df⟩⟩:=j;simp only at *;subst hk;have I:∀G,y5 p s args []=G->Hd (R=L++(trC p s args++(if ¬G.2.2=0\/J=3 then [] else trG (gEn G.1).2.1 (sEn G.1) (g.locals.drop 1) G.2.1))):=λG hG=>by rw[<-hG];exact hq
 clear hq;generalize hG:y5 p s args []=G at C;replace I:=I G hG;replace hG:=Hd.mk hG;replace C:=Hd.mk C;refine eG [9,3049,18,24] func57 λX=>?_;go_simp;repeat'(first|with_reducible first|apply ai|intro)
 rename_i b3;refine sS 4 (.l 201) 1 134 (by go_simp) (by go_simp) ?_;refine zf hP (B:=[9,16,18,24]) (G:=Nat×Sa×List (List Ce)×List Acc×(Nat×Nat)×(Nat×Nat)) (λv=>[(0,.ptr u0 d 13 0 0),(3,.ptr (.l 3) b3 13 0 0),(4,.sl (.l 201) v.2.2.2.2.1.1 1 v.2.2.1.length v.2.2.2.2.1.2),(20,vOpd_ args),(21,iI args.length),(22,iI v.1)])
  (λv=>[(u0,⟨d,1,13,71,[[vFn_ p.funcs,.bool (v.2.1).plain,.vec 3 ((v.2.1).mon.mem.allocs.map Al.c),iI (v.2.1).mon.mem.next,.vec 2 ((v.2.1).mon.stacks.map Ss.c),.vec 1 ((v.2.1).mon.running.map ci),iI (v.2.1).mon.ntag,iI (v.2.1).mon.ncall,.vec 4 ((v.2.1).frames.map Fm.c),.vec 1 ((v.2.1).prints.map ci),.vec 1 ((v.2.1).result.map ci),iU J,.sl u1 (v.2.2.2.2.2.1) 6 (v.2.2.2.1).length (v.2.2.2.2.2.2)]],false⟩),(u1,⟨v.2.2.2.2.2.1,v.2.2.2.2.2.2,6,55,(v.2.2.2.1).map Acc.c,false⟩),(.l 3,⟨b3,1,13,108,[Ju.c ⟨jk,⟨ak,an,⟨al,ad,af⟩⟩,k,jn,je,args,⟨dl,dd,df⟩⟩],false⟩),(.l 201,⟨v.2.2.2.2.1.1,v.2.2.2.2.1.2,1,134,v.2.2.1.map ck,false⟩)])
  (λv=>v.1<=args.length/\v.2.2.1.length=v.1/\Env p v.2.1/\yB s v.2.1/\(∀l∈v.2.2.1,0<l.length/\l.length<1000000)/\y5 p v.2.1 (args.drop v.1) v.2.2.1=G/\v.2.2.2.1++trC p v.2.1 (args.drop v.1)=L++trC p s args/\v.2.2.2.1.length<=L.length+3*v.1) (λv=>args.length-v.1) (0,s,[],L,(0,0),(b,c)) dk ⟨Nat.zero_le _,rfl,he,.rfl',sm,hG.out,rfl,sm⟩ ?_ ?_ ?_
 ·go_simp
 ·clear hG I C h7 N;go_simp
 clear hG;rintro⟨i,y,f,O,⟨e1,e2⟩,⟨l1,Y⟩⟩ ⟨hi,hb,P,F,E,A,a,Z⟩;simp only at hi hb P F E A a Z;by_cases h6:i<args.length
 ·have xj:¬args.length<=i:=om;have ye:args[i]?=some args[i]:=zE h6;have hd:args.drop i=args[i]::args.drop (i+1):=List.drop_eq_getElem_cons h6;obtain⟨o1,o2,o3⟩:=h7 _ (zM h6);rw[<-wn F] at o3;rw[hd] at A a;clear hd h7 C N;generalize y4:args[i]=o at *;have h4:=rC o1 o2 o3;have hv:=Vt P o3;have xl:=P.vl (o:=o);have xn:=F.tr (@wm p y o);have y3:=@ti p y o;by_cases z:(vlS p y o).2.2=0
  ·have hV:=wk p y O o P h4 o3 z J om;rw[rV z] at A;rw[dY z,<-List.append_assoc] at a;have yd:=hv z;clear o1 o2 o3 P F z hv I h4;generalize trV p y o=TV at *;generalize vlS p y o=V at *;obtain⟨V1,V2,V3⟩:=V;obtain⟨ok,on,⟨ol,od,yk⟩⟩:=o;simp only at *;have xa:∀l∈f++[V2],0<l.length/\l.length<1000000:=λl hl=>by
    rcases zJ.1 hl with hl|hl
    ·exact E l hl
    ·simp at hl;subst hl;exact yd
   clear E;replace A:=Hd.mk A;replace a:=Hd.mk a;go_simp;intro b6;refine zi [u0,u1] 2 0 (hV d l1 Y) ?_;intro q2;go_simp;refine⟨om,λbb cc=>⟨i+1,V1,f++[V2],O++TV,⟨om,by simp;omega,xl,xn,xa,A.out,a.out,by simp;omega⟩,om,?_⟩⟩;exact⟨_,_,⟨⟨rfl,by simp;omega,rfl⟩,wrS om⟩,_,_,⟨rfl,rfl,rfl,rfl,rfl,rfl,rfl,rfl,rfl,rfl,rfl,sm,rfl⟩,⟨rfl,rfl,sm⟩,rfl,rfl,by rw[zT (by simp;omega),zV];rfl⟩
  ·obtain⟨l,hV⟩:=lE p y O o P h4 o3 z J om;rw[pO z] at A;rw[SC z] at a;have xs:R=O++trV p y o:=by
    rw[I.out,<-A,if_pos (Or.inl z),List.append_nil,a]
   subst xs;clear o1 o2 o3 P F z hv I h4 xl xn A a y3 E;generalize trV p y o=TV at *;obtain⟨ok,on,⟨ol,od,yk⟩⟩:=o;simp only at *;go_simp;intro b6;refine zi [u0,u1] 2 0 (hV d l1 Y) ?_;intro q2;go_simp;exact⟨[u0,u1],dk,⟨q2,OB,OB,trivial⟩,yg,rfl⟩
 ·obtain rfl:i=args.length:=om;have xk:¬args.length<args.length:=om;rw[List.drop_length] at A a;rw[show trC p y [] = [] from rfl,List.append_nil] at a;obtain rfl:G=(y,f,0):=A.symm;have u:=I.out;rw[<-List.append_assoc,<-a] at u;simp only at u;have Q:=C.out rfl;have h:=P.wf;have e:=P.v.wh;clear I A C h7 a;by_cases h3:J=3
  ·rw[if_pos (Or.inr h3),List.append_nil] at u;subst u h3;clear P F E Q h e;go_simp;refine y8 [] u0 0 1 (v:=.any) rfl rfl rfl sm SV.any ?_;refine y8 [] u0 0 2 (v:=.any) rfl rfl rfl sm SV.any ?_;refine y8 [] u0 0 3 (v:=.any) rfl rfl rfl sm SV.any ?_;refine y8 [] u0 0 4 (v:=.any) rfl rfl rfl sm SV.any ?_;refine y8 [] u0 0 5 (v:=.any) rfl rfl rfl sm SV.any ?_;refine y8 [] u0 0 6 (v:=.any) rfl rfl rfl sm SV.any ?_;refine y8 [] u0 0 7 (v:=.any) rfl rfl rfl sm SV.any ?_;refine y8 [] u0 0 8 (v:=.any) rfl rfl rfl sm SV.any ?_;refine y8 [] u0 0 9 (v:=.any) rfl rfl rfl sm SV.any ?_;refine y8 [] u0 0 10 (v:=.any) rfl rfl rfl sm SV.any ?_;refine aO [] ?_;go_simp;exact⟨[u0,u1],dk,⟨λ_=>(l1,Y),OB,OB,trivial⟩,yg,rfl⟩
  rw[if_neg (by rintro(q|q);exact q trivial;exact h3 q)] at u;replace Q:=Q h3;replace u:=Hd.mk u;have ho:=a9.wf h (fN e Q);have hn:=fN e Q;have m:=Hj Q;go_simp;refine z5 [.l 201] 4 (v:=.vec 1 (f.map ck)) (SV.own rfl rfl rfl rfl (by simp;omega) (by decide) (zT (by simp;omega))) ?_;refine aO [] ?_;go_simp;refine sj (B:=[16,18,24]) hP [(0,.ptr u0 d 13 0 0),(3,.ptr (.l 3) b3 13 0 0),(4,.vec 1 (f.map ck)),(9,iI (gEn y).2.1)] [(u0,⟨d,1,13,71,[[vFn_ p.funcs,.bool (sEn y).plain,.vec 3 ((sEn y).mon.mem.allocs.map Al.c),iI (sEn y).mon.mem.next,.vec 2 ((sEn y).mon.stacks.map Ss.c),.vec 1 ((sEn y).mon.running.map ci),iI (sEn y).mon.ntag,iI (sEn y).mon.ncall,.vec 4 ((sEn y).frames.map Fm.c),.vec 1 ((sEn y).prints.map ci),.vec 1 ((sEn y).result.map ci),iU J,.sl u1 l1 6 O.length Y]],false⟩),(u1,⟨l1,Y,6,55,O.map Acc.c,false⟩),(.l 3,⟨b3,1,13,108,[Ju.c ⟨jk,⟨ak,an,⟨al,ad,af⟩⟩,k,jn,je,args,⟨dl,dd,df⟩⟩],false⟩)] dk ?_ ?_
  ·clear ho hn m u N yc h P F E;cases hp:y.plain with
   |true =>
    have u1:(gEn y).2.1=0:=by unfold gEn;rw[if_pos hp]
    have u2:sEn y=y:=by unfold sEn gEn;rw[if_pos hp];exact fM
    rw[u1,u2];clear Q e u1 u2;obtain⟨yp,⟨⟨ya,yn⟩,yt,yr,y1,y2⟩,yf,yl,ym⟩:=y;simp only at *;subst hp;go_simp
   |false =>
    have hg:gEn y=mEn y.mon:=by unfold gEn;rw[hp];rfl
    have hz:=lu y.mon (e.mo hp);rw[hg] at Q;rw[Q] at hz;unfold sEn yh;rw[hg];clear Q e hg;generalize mEn y.mon=M at *;obtain⟨⟨⟨M1,M2⟩,M4,M5,M6,M7⟩,c1,c2⟩:=M;obtain⟨yp,⟨⟨ya,yn⟩,yt,yr,y1,y2⟩,yf,yl,ym⟩:=y;simp only at *;subst hp;go_simp;repeat'(first|(apply zd hz;try go_simp)|with_reducible first|apply ai|intro)
  ·have un:=F.tr (@a9 y);clear Q h e P F;generalize (gEn y).2.1=call at *;generalize sEn y=y0 at *;replace u:=Hd.mk u.out;go_simp;refine lG [16,18,24] (G:=Nat×Sa×List Acc×(Nat×Nat)) (λv=>[(0,.ptr u0 d 13 0 0),(3,.ptr (.l 3) b3 13 0 0),(9,iI call),(68,.vec 1 (f.map ck)),(69,iI args.length),(70,iI v.1)]) (λv=>[(u0,⟨d,1,13,71,[[vFn_ p.funcs,.bool (v.2.1).plain,.vec 3 ((v.2.1).mon.mem.allocs.map Al.c),iI (v.2.1).mon.mem.next,.vec 2 ((v.2.1).mon.stacks.map Ss.c),.vec 1 ((v.2.1).mon.running.map ci),iI (v.2.1).mon.ntag,iI (v.2.1).mon.ncall,.vec 4 ((v.2.1).frames.map Fm.c),.vec 1 ((v.2.1).prints.map ci),.vec 1 ((v.2.1).result.map ci),iU J,.sl u1 (v.2.2.2.1) 6 (v.2.2.1).length (v.2.2.2.2)]],false⟩),(u1,⟨v.2.2.2.1,v.2.2.2.2,6,55,(v.2.2.1).map Acc.c,false⟩),(.l 3,⟨b3,1,13,108,[Ju.c ⟨jk,⟨ak,an,⟨al,ad,af⟩⟩,k,jn,je,args,⟨dl,dd,df⟩⟩],false⟩)]) (λv=>v.1<=args.length/\z9 v.2.1/\WhV v.2.1/\(call=0\/(v.2.1.plain=false/\v.2.1.mon.running.any (eqI call)=true))/\v.2.2.1++trG call v.2.1 (g.locals.drop (v.1+1)) (f.drop v.1)=R/\v.2.2.1.length<=L.length+3*args.length+v.1) (λv=>args.length-v.1) (0,y0,O,(l1,Y)) ?_ (h0:=⟨Nat.zero_le _,ho,hn,m,u.out.symm,by simp;omega⟩)
   clear ho hn m u Z;rintro⟨i,y,O,⟨l1,Y⟩⟩ ⟨hi,h,e,m,a,Z⟩;simp only at hi h e m a Z;by_cases h6:i<args.length
   ·have xj:¬args.length<=i:=om;have ye:f[i]?=some f[i]:=zE om;have up:g.locals[i+1]?=some g.locals[i+1]:=zE om;have xc:f.drop i=f[i]::f.drop (i+1):=List.drop_eq_getElem_cons om;have xd:g.locals.drop (i+1)=g.locals[i+1]::g.locals.drop (i+1+1):=List.drop_eq_getElem_cons om;have h5:=(E _ (zM (by omega:i<f.length))).1;have ha:=N _ (zM (by omega:i+1<g.locals.length));have us:IntKind.i64.wrap ((i:Int)+1)=(i:Int)+1:=AM.Tf om;rw[xc,xd] at a;clear xc xd N E;generalize y4:f[i]=x at *;generalize u8:g.locals[i+1]=ty at *;obtain⟨D,lr,rfl⟩:∃D lr,x=D::lr:=by
     cases x with
     |nil=>simp at h5
     |cons D lr=>exact⟨D,lr,rfl⟩
    have K:ce0 (D::lr)=D:=rfl;have S:=λq=>ng ⟨ty.to,0⟩ (NO ha q);have h2:=λw=>ml p y O D.p (zg ⟨ty.to,0⟩) (rtK ty) call h e qv YQ m w J om;have h1:=λw=>bJ p y O D.p (zg ⟨ty.to,0⟩) (rtK ty) call h e qv YQ m w J om;have hu:=(@jz y D.p (zg ⟨ty.to,0⟩) (rtK ty) call).wf h (f7 e);have ht:=f7 e (q:=D.p) (n:=zg ⟨ty.to,0⟩) (kind:=rtK ty) (call:=call);have h9:=NN e (q:=D.p) (n:=zg ⟨ty.to,0⟩) (kind:=rtK ty) (call:=call);have h8:=(@jz y D.p (zg ⟨ty.to,0⟩) (rtK ty) call).pl;by_cases H:ty.kind=3\/ty.kind=4
    ·replace S:=S H;by_cases z:(sRt y D.p (zg ⟨ty.to,0⟩) (rtK ty) call).2.2=0
     ·have hr:=h2 z;rw[V8 H (by rw[K];exact z),K] at a;clear h2 h1 ha h5 K;have x2:call=0\/((sRt y D.p (zg ⟨ty.to,0⟩) (rtK ty) call).1.plain=false/\(sRt y D.p (zg ⟨ty.to,0⟩) (rtK ty) call).1.mon.running.any (eqI call)=true):=by rw[h8,h9];exact m
      clear h8 h9 m h e;have T:rtK ty=if ty.kind=3 then 1 else 2:=rfl;generalize zg ⟨ty.to,0⟩=ZZ at *;generalize sRt y D.p ZZ (rtK ty) call=W at *;obtain⟨W1,W2,W3⟩:=W;obtain⟨tk,to⟩:=ty;obtain⟨gp,gu,gl,gb⟩:=g;obtain⟨hw,hx,⟨hc,hf,hm⟩⟩:=D;generalize U:rtK ⟨tk,to⟩=RK at *;simp only at *;replace a:=Hd.mk a;rcases H with rfl|rfl;all_goals(simp only[reduceIte,show ¬(4:Int)=3 by decide] at T;subst T)
      all_goals
       clear U;go_simp;refine aO [] ?_;go_simp;refine vo hP ⟨[(78,u0,0),(80,.l 3,6),(15,.l 15,0)],true⟩ [83,87] dk ?_;go_simp;refine⟨om,λxr=>?_⟩;refine uE hP ⟨[(101,.l 15,1)],true⟩ [99] (LC.mk _ _ _ _ _ _ (ji [u0,u1]) (hr d l1 Y) dk rfl (λ_=>rfl) (λ_=>rfl)) 107 dk ?_;go_simp;repeat'(first|(apply zd S;try go_simp)|with_reducible first|apply ai|intro)
       refine s9 rfl ?_ λq2=>?_
       ·go_simp
       go_simp;exact⟨i+1,W1,O++[Acc.mk 3 _ ⟨hc,hf,hm⟩ ZZ],⟨om,hu,ht,x2.imp id λq=>⟨q.1,List.any_eq_true.1 q.2⟩,by rw[List.append_assoc];exact a.out,by simp;omega⟩,om,sm,_,_,⟨rfl,rfl,rfl,rfl,rfl,rfl,rfl,rfl,rfl,rfl,rfl,sm,rfl⟩,rfl,rfl,by rw[zV];rfl⟩
     ·have hr:=h1 z;rw[SD H (by rw[K];exact z),K] at a;clear h2 h1 ha h5 K h8 h9 m h e hu ht;have T:rtK ty=if ty.kind=3 then 1 else 2:=rfl;generalize zg ⟨ty.to,0⟩=ZZ at *;generalize sRt y D.p ZZ (rtK ty) call=W at *;obtain⟨W1,W2,W3⟩:=W;obtain⟨tk,to⟩:=ty;obtain⟨gp,gu,gl,gb⟩:=g;obtain⟨hw,hx,⟨hc,hf,hm⟩⟩:=D;generalize U:rtK ⟨tk,to⟩=RK at *;simp only at *;subst a;rcases H with rfl|rfl;all_goals(simp only[reduceIte,show ¬(4:Int)=3 by decide] at T;subst T)
      all_goals
       clear U;go_simp;refine aO [] ?_;go_simp;refine vo hP ⟨[(78,u0,0),(80,.l 3,6),(15,.l 15,0)],true⟩ [83,87] dk ?_;go_simp;refine⟨om,λxr=>?_⟩;refine uE hP ⟨[(101,.l 15,1)],true⟩ [99] (LC.mk _ _ _ _ _ _ (ji [u0,u1]) (hr d l1 Y) dk rfl (λ_=>rfl) (λ_=>rfl)) 107 dk ?_;go_simp;repeat'(first|(apply zd S;try go_simp)|with_reducible first|apply ai|intro)
       refine s9 rfl ?_ λq2=>?_
       ·go_simp
       go_simp;intro u4;exact⟨[u0,u1],dk,⟨q2,OB,OB,trivial⟩,yg,rfl⟩
    ·rw[gA H] at a;have ue:¬ty.kind=3:=λq=>H (Or.inl q);have ui:¬ty.kind=4:=λq=>H (Or.inr q);clear h2 h1 S ha h5 K h8 h9 hu ht H;obtain⟨tk,to⟩:=ty;obtain⟨gp,gu,gl,gb⟩:=g;obtain⟨hw,hx,⟨hc,hf,hm⟩⟩:=D;simp only at *;replace a:=Hd.mk a;go_simp;refine aO [] ?_;go_simp;refine vo hP ⟨[(78,u0,0),(80,.l 3,6),(15,.l 15,0)],true⟩ [83,87] dk ?_;go_simp;exact⟨om,i+1,y,O,⟨om,h,e,m.imp id λq=>⟨q.1,List.any_eq_true.1 q.2⟩,a.out,om⟩,om,sm,_,_,⟨rfl,rfl,rfl,rfl,rfl,rfl,rfl,rfl,rfl,rfl,rfl,rfl,rfl⟩,rfl,rfl,rfl⟩
   ·obtain rfl:i=args.length:=om;have xk:¬args.length<args.length:=om;rw[<-hb,List.drop_length,NL,List.append_nil] at a;subst a;clear h e m N E;go_simp;refine y8 [] u0 0 1 (v:=.any) rfl rfl rfl sm SV.any ?_;refine y8 [] u0 0 2 (v:=.any) rfl rfl rfl sm SV.any ?_;refine y8 [] u0 0 3 (v:=.any) rfl rfl rfl sm SV.any ?_;refine y8 [] u0 0 4 (v:=.any) rfl rfl rfl sm SV.any ?_;refine y8 [] u0 0 5 (v:=.any) rfl rfl rfl sm SV.any ?_;refine y8 [] u0 0 6 (v:=.any) rfl rfl rfl sm SV.any ?_;refine y8 [] u0 0 7 (v:=.any) rfl rfl rfl sm SV.any ?_;refine y8 [] u0 0 8 (v:=.any) rfl rfl rfl sm SV.any ?_;refine y8 [] u0 0 9 (v:=.any) rfl rfl rfl sm SV.any ?_;refine y8 [] u0 0 10 (v:=.any) rfl rfl rfl sm SV.any ?_;refine aO [] ?_;go_simp;exact⟨[u0,u1],dk,⟨λ_=>(l1,Y),OB,OB,trivial⟩,yg,rfl⟩
structure LvX (y:Sa)(L:List Po): Prop where
 wh:WhV y
 mem:∀q∈L,∃a∈y.mon.mem.allocs,a.num=q.al/\a.live=true
 nod:(L.map Po.al).Nodup
def LvI.x {y:Sa}(h:LvI y L): LvX y L:=⟨h.wh,λq c=>by obtain⟨a,b,hn⟩:=h.mem q c;exact⟨a,b,hn,h.lv a b⟩,h.nod⟩
def V9 {m:Me}(h:MeV m){a:Al}(b:a∈m.allocs)(hl:a.live=true): yV m a.num=0:=by
 obtain⟨k,c,hx,_⟩:=nT h b;unfold yV;rw[if_neg (by simpa using og.2 h),if_neg];rw[c,Int.toNat_natCast,zD,hx,zH,hl];simp
def LvX.err {y:Sa}(h:LvX y (q::L)): yV y.mon.mem q.al=0:=by
 obtain⟨a,b,hn,hl⟩:=h.mem q List.mem_cons_self;rw[<-hn];exact V9 h.wh.me b hl
def NP {m:Me}(h:yV m n=0){a:Al}(d:a∈m.allocs)(hn:a.num≠n): a∈(xP m n).allocs:=by
 obtain⟨_,k,x,_,hx,b,_,f⟩:=kc h;rw[f];obtain⟨i,hi,rfl⟩:=List.getElem_of_mem d;have c:k≠i:=λe=>by
  subst e;rw[zE hi] at hx;injection hx with hx;rw[<-hx] at b;exact hn b
 refine zF (i:=i) ?_;show(m.allocs.set k _)[i]?=_;rw[List.getElem?_set_ne c,zE hi]
def Hk(h:WhV s)(f:yV s.mon.mem n=0)(d:(xEd s n).2=0): WhV (xEd s n).1/\(xEd s n).1.mon.mem=xP s.mon.mem n:=by
 cases hp:s.plain with
 |true =>
  unfold xEd;rw[if_pos hp];refine⟨⟨λe=>?_,λ_=>?_,ke f⟩,rfl⟩
  ·unfold yh at e;simp[hp] at e
  ·have e:=h.pl hp;show(⟨xP s.mon.mem n,s.mon.stacks,s.mon.running,s.mon.ntag,s.mon.ncall⟩:Mo)=_;rw[e];rfl
 |false =>
  rw[UM hp] at d ⊢;by_cases e:(mEd s.mon n).2.1=0
  ·rw[if_pos e];have g:(mEd s.mon n).2.2=0:=by
    unfold mEd at e ⊢;rw[if_neg (by simpa using f)] at e ⊢;split
    ·rfl
    ·rfl
   obtain⟨a,b,c,_⟩:=am (h.mo hp) e g;exact⟨⟨λ_=>a,λq=>by unfold yh at q;simp[hp] at q,a.me⟩,c⟩
  ·rw[if_neg e] at d;simp at d
def LvX.step {y:Sa}(h:LvX y (q::L))(g:(xEd y q.al).2=0): LvX (xEd y q.al).1 L:=by
 obtain⟨a,b⟩:=Hk h.wh h.err g;have hn:=h.nod;rw[List.map_cons,List.nodup_cons] at hn;refine⟨a,λr f=>?_,hn.2⟩;obtain⟨x,hx,c,d⟩:=h.mem r (List.mem_cons_of_mem _ f);refine⟨x,?_,c,d⟩;rw[b];refine NP h.err hx λe=>hn.1 ?_;rw[<-e,c];exact List.mem_map.2 ⟨r,f,rfl⟩
def LV: yB s (xEd s n).1:=by
 unfold xEd;split
 ·exact⟨rfl,rfl,rfl,rfl⟩
 ·split
  ·exact⟨rfl,rfl,rfl,rfl⟩
  ·exact .rfl'
def VA{l:List Po}(h:(xEd s q.al).2=0): trE s (q::l) (t::ts)=Acc.mk 4 0 q (zg t)::trE (xEd s q.al).1 l ts:=by
 show _::(if _ then _ else _)=_;rw[if_pos h]
def SF{l:List Po}(h:¬(xEd s q.al).2=0): trE s (q::l) (t::ts) = [Acc.mk 4 0 q (zg t)]:=by
 show _::(if _ then _ else _)=_;rw[if_neg h]
def VB: trE s [] ts = []:=by cases ts<;>rfl
def NQ{l:List Po}(h:(xEd s q.al).2=0): xEs s (q::l)=xEs (xEd s q.al).1 l:=by
 show(if _ then _ else _)=_;rw[if_pos h]
def LW{l:List Po}(h:¬(xEd s q.al).2=0): ¬(xEs s (q::l)).2=0:=by
 show ¬(if _ then _ else _:Sa×Int).2=0;rw[if_neg h];exact h
end Go.Proofs.YtllodfoldffonaaGreatDoor
