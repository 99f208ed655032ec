/- A part of the proof. -/
import Derived.Test.YtllodfoldffonaaGreatDoorQ36
namespace Go.Proofs.YtllodfoldffonaaGreatDoor
open Go.Proofs.Tryz AM Go.RowKit
set_option linter.unusedSimpArgs false
set_option linter.unusedVariables false
set_option linter.defProp false
set_option maxRecDepth 100000
set_option maxHeartbeats 16000000
def KE {p:Pr}{s:Sa}{x:St}(k:x.kind=2\/x.kind=4)(h:trV p s x.a = []): (stS p s x).2<5:=by
 have k1:x.a.kind=1:=zC λc=>mn c h;have z:(vlS p s x.a).2.2=0:=zC λc=>cq c k1;unfold stS;rw[if_neg om,if_neg om,if_neg (by simpa using z)];split
 ·split
  ·show(4:Int)<5;omega
  ·show(0:Int)<5;omega
 ·split
  ·show(3:Int)<5;omega
  ·show(0:Int)<5;omega
def H0 {p:Pr}{s:Sa}{f g:Fn}{k:Nat}{bs:List Bk}{c j:Ju}(b:j.kind=2)(h:trV p s j.a = []): (juS p s f k g bs c j).2<5:=by
 have k1:j.a.kind=1:=zC λc=>mn c h;have z:(vlS p s j.a).2.2=0:=zC λc=>cq c k1;unfold juS;rw[if_neg om,if_pos b,if_neg (by simpa using z)];split
 ·show(0:Int)<5;omega
 ·show(0:Int)<5;omega
def QQ (p:Pr)(s:Sa)(u:Env p s)(hC:rgC s)(hr:rgP p)(hk:kF p): ∃(R:List Acc)(o:Int) (T:Sa),R.length<1000000/\lgB R/\(5<=o->R≠[]) /\
  zK 14 [p.a,s.a] (.tup [T.a,iU o,iI 0]) /\
  zK 8 [p.a,s.a] (.tup [.vec 6 (R.map Acc.c),iU o,iI 0]):=by
 obtain⟨f,k,g,h,c,bk,i,n,m,b,x,Q⟩:=LN u hC hr hk;have D:=bg p s f k g h c bk i n m b x u Q hr;have K:=Q.K;have F:=u.wf;have hF:∃(R:List Acc),R.length<1000000/\lgB R/\(5<=(sdS p s f k g h.blocks c bk i).2->R≠[])/\zG 18 2 (λ_=>[p.a,s.a]) (λ_=>[]) (λι q=>.tup [.ptr (ι 0) (q 0).1 13 0 0,iI 0]) (λι q=>(xxO p ι ((q 0).1) ((sdS p s f k g h.blocks c bk i).2) R ((q 1).1) ((q 1).2))):=by
  by_cases d:i<bk.stmts.length
  ·have hP:=Q.P.st d;have C:bk.stmts[i]?=some (bk.stmts.getD i yY):=by rw[zD,zE d];rfl
   obtain⟨ho,-⟩:=Q.B.st _ (zF C);have V:=@Ho p s f k g h.blocks c bk i d;have J:=@PO p s f k g h.blocks c bk i d;generalize bk.stmts.getD i yY=y at *;generalize (sdS p s f k g h.blocks c bk i).2=o at *;have hx:=hP.k;by_cases k1:y.kind=1
   ·obtain⟨A,hp,hu⟩:=hP.rv k1;obtain⟨r1,r2⟩:=V k1;have I:=Mc ho k1;have hT:=@NF p s y.r;have hB:=Kw A I;by_cases z:(rvS p s y.r).2.2=0
    ·obtain⟨l,hl,J,hm,w⟩:=eF p s [] y.r u A I z o (r1 z) sm;have h8:=u.rv (r:=y.r);have hq:zZ (tyL p (rvS p s y.r).1) y.pl=0:=by rw[wn oX];exact hp
     have h9:=lF p (rvS p s y.r).1 ([]++trR p s y.r) y.pl l h8 hq hm J o (by simp;omega);have hn:l.length=1\/l.length=2:=by
      have N:=fC u.v u.ne A.k A.t z;unfold xh um at N;simp only[zB,zL] at N;have M:=N.1.1;rw[<-hl] at M;unfold zg at M;split at M<;>omega
     refine⟨_,?_,wQ (wQ yI hB) (PS hn),λ_ e=>Kx (List.append_eq_nil_iff.1 e).2,bS p s f n m b i x bk F K Q.hb Q.hi Q.at_ _ o D _ d y C k1 l _ _ w h9⟩;have M:=@V0 p (rvS p s y.r).1 y.pl l.length;simp;omega
    ·obtain⟨l,w⟩:=dX p s [] y.r u A I z o (r2 z) sm;have U:o=(rvS p s y.r).2.2:=by rw[J];unfold stS;rw[if_pos k1,if_pos z]
     exact⟨_,by simp;omega,wQ yI hB,λh5 e=>K3 A z om (List.append_eq_nil_iff.1 e).2,Xa p s f n m b i x bk F K Q.hb Q.hi Q.at_ _ o D _ d y C k1 l w⟩
   by_cases k3:y.kind=3
   ·obtain⟨j,hj,E⟩:=hP.lo k3;rw[K.top] at E;have hg:x.locals[j]?=some x.locals[j]:=zE E;have W:j<f.locals.length:=by rw[<-K.len];exact E
    have ht:f.locals[j]?=some f.locals[j]:=zE W;have X:=K.fs.tys _ (zM W);have O:=(Su u.v u.ne u.v.wh rfl).x;rw[K.top] at O;have h7:yV s.mon.mem x.locals[j].al=0:=by
     obtain⟨a,ha,hn,hl⟩:=O.mem _ (zM E);rw[<-hn];exact V9 u.v.wh.me ha hl
    obtain⟨v,w⟩:=UW p s [] x.locals[j] (zg f.locals[j]) F u.v.wh h7 o sm;exact⟨_,sm,wQ yI (mm (lh (kQ _) om)),λ_=>by simp,Xc p s f n m b i x bk F K Q.hb Q.hi Q.at_ _ o D _ d y C k3 j hj _ hg _ ht X v w⟩
   have L:y.kind=2\/y.kind=4:=om;obtain⟨hv,H,-⟩:=hP.vl L;obtain⟨l,v,w⟩:=kO p s [] y.a u hv H o sm;have hT:=@ti p s y.a;exact⟨_,by simp;omega,wQ yI jD,λh5 e=>by have:=KE L (List.append_eq_nil_iff.1 e).2;omega,YZ p s f n m b i x bk F K Q.hb Q.hi Q.at_ _ o D _ d y C L l v w⟩
  ·have hP:=Q.P.ju d;have hd:=@Hq p s f k g h.blocks c bk i d;have S:=@PP p s f k g h.blocks c bk i d;generalize (sdS p s f k g h.blocks c bk i).2=o at *;have kd:=hP.kd;by_cases Z:bk.jump.kind=2
   ·obtain⟨hv,H,-⟩:=hP.vl Z;obtain⟨l,v,w⟩:=kO p s [] bk.jump.a u hv H o sm;have hT:=@ti p s bk.jump.a;exact⟨_,by simp;omega,wQ yI jD,λh5 e=>by have:=H0 (f:=f) (g:=g) (k:=k) (bs:=h.blocks) (c:=c) Z (List.append_eq_nil_iff.1 e).2;omega,bT p s f n m b i x bk F K Q.hb Q.hi Q.at_ _ o D _ d Z l v w⟩
   by_cases k4:bk.jump.kind=4
   ·obtain⟨G,hf⟩:=hP.ca k4;have w:=SE p s [] k g bk.jump u G hf o (hd k4) sm;have h6:=(s8 u.wp (vW u.ty) g (zF G.ff)).l16;have hT:=@Ma p s g bk.jump.args o h6 (by have:=G.len;omega);have U:o=(caS p s k g bk.jump.args).2:=by rw[S];unfold juS;rw[if_neg om,if_neg Z,if_pos k4]
    exact⟨_,by simp;omega,wQ yI Hs,λh5 e=>by have:=NY u.v.wh U (List.append_eq_nil_iff.1 e).2;omega,Wz p s f n m b i x bk F K Q.hb Q.hi Q.at_ _ o D _ d k4 w⟩
   by_cases k3:bk.jump.kind=3
   ·obtain⟨c',hc⟩:=E8 u;have w:=SY p s [] c' u hc o sm;have hT:=@Mb p s c' (by rw[K.top,K.len];exact K.fs.l16);exact⟨[]++trQ p s c',by simp;omega,wQ yI (Ht u),λ_ e=>by(have:=(List.append_eq_nil_iff.1 e).2;unfold trQ at this;cases this),W4 p s f n m b i x bk F K Q.hb Q.hi Q.at_ _ o D _ d k3 w⟩
   ·have Y:bk.jump.kind=1\/bk.jump.kind=5:=om;have h4:o<5:=by
     rw[S];unfold juS;rcases Y with e|e
     ·rw[if_pos e];show(0:Int)<5;omega
     ·rw[if_neg om,if_neg Z,if_neg k4,if_pos e];show(4:Int)<5;omega
    exact⟨[],sm,yI,λh5=>by omega,W5 p s f n m b i x bk F K Q.hb Q.hi Q.at_ _ o D _ d Y rfl⟩
 obtain⟨R,hR,N,M,h3⟩:=hF;exact⟨R,_,_,hR,N,M,D,lH p s R _ hR h3⟩
def kS (p:Pr)(s:Sa)(l:rgC s)(k:rgP p)(m:kF p): zK 4 [p.a,s.a] (.bool true):=by
 have q:=W7;have b:=Xd p;have d:=Xh s;cases j:prL p with
 |true =>
  rw[j] at b;clear l k m;obtain⟨C,⟨⟨z,B⟩,st,D,x,y⟩,A,f,g⟩:=s;refine eK [] func4 λX=>?_;go_simp;repeat'(first|((first|apply zd q|apply zd b);try go_simp)|with_reducible first|apply ai|intro)
 |false =>
  cases n:dO s with
  |true =>
   rw[j] at b;rw[n] at d;clear l k m;obtain⟨C,⟨⟨z,B⟩,st,D,x,y⟩,A,f,g⟩:=s;refine eK [] func4 λX=>?_;go_simp;repeat'(first|((first|apply zd q|apply zd b|apply zd d);try go_simp)|with_reducible first|apply ai|intro)
  |false =>
   have t:=Wk p s (Md n) (eL j) k;rw[j] at b;rw[n] at d;by_cases r:aSE p s=0
   ·obtain⟨R,I,T,L,u,w,E,F⟩:=QQ p s (Rd (eL j) r) l k m;rw[r] at t;clear j n r l k m;obtain⟨C,⟨⟨z,B⟩,st,D,x,y⟩,A,f,g⟩:=s;obtain⟨S,⟨⟨O,Q⟩,U,tr,t1,t2⟩,P,J,K⟩:=T;refine eK [9] func4 λX=>?_;go_simp;repeat'(first|((first|apply zd q|apply zd b|apply zd d|apply zd t|apply zd F|apply zd E);try go_simp)|with_reducible first|apply ai|intro)
    refine lN [11] (λi=>[(4,.bool false),(5,.bool true),(6,.vec 6 (R.map Acc.c)),(7,iU I),(12,iI i)]) (λ_=>[]) (λi=>i<=R.length) (λi=>R.length-i) 0 ?_ (h0:=(Nat.zero_le _))
    rintro i hi;by_cases v:i<R.length
    ·obtain⟨⟨k1,M⟩,⟨n1,N⟩,hb⟩:=u _ (zM v);have G:(R[i].bo != 0)=(R[i].kind==3):=by
      by_cases o:R[i].kind=3
      ·rw[o];simpa using λe=>hb.1 e o
      ·rw[hb.2 o];simpa using o
     go_simp;refine vo hP ⟨[],true⟩ [68,75,83,91,99,105] dk ?_;go_simp;exact⟨i+1,om,om,wrS om⟩
    ·obtain rfl:i=R.length:=om;go_simp;exact λh=>List.length_pos_iff.2 (w h)
   ·have H:=z4 r;clear l k m;generalize aSE p s=e at *;obtain⟨C,⟨⟨z,B⟩,st,D,x,y⟩,A,f,g⟩:=s;refine eK [] func4 λX=>?_;go_simp;repeat'(first|((first|apply zd q|apply zd b|apply zd d|apply zd t);try go_simp)|with_reducible first|apply ai|intro)
end Go.Proofs.YtllodfoldffonaaGreatDoor
