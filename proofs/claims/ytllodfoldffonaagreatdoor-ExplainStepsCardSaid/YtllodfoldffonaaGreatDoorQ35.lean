/- A part of the proof. -/
import Derived.Test.YtllodfoldffonaaGreatDoorQ34
namespace Go.Proofs.YtllodfoldffonaaGreatDoor
open Go.Proofs.Tryz AM Go.RowKit
set_option linter.unusedSimpArgs false
set_option linter.unusedVariables false
set_option linter.defProp false
set_option maxRecDepth 100000
set_option maxHeartbeats 16000000
variable {args:List Opd}{c:Ju}{f:Fn}{l:List Ce}{n:Int}{o:Opd}{p:Pr}{q:Po}{s:Sa}{x:Pl}
def pl0:Pl:=⟨0,false,0⟩
def Kl {ts:List Ty}(h:xK ts=true): zZ ts pl0=0/\zu ts pl0=ts.getD 0 ⟨0,0⟩:=by
 have hl:1<=ts.length:=by unfold xK at h;simp only[zB,zL] at h;exact h.1.1
 have a:yD ts pl0=0:=by
  unfold yD;rw[if_pos h,if_pos (by decide),if_neg (by unfold pl0;simp only;omega)]
 have b:xV (vc ts pl0) pl0=some (ts.getD 0 ⟨0,0⟩):=rfl;unfold zZ zu;rw[if_pos a,if_pos a,b];exact⟨rfl,rfl⟩
def Km(h:fnS f): (f.locals.getD 0 ⟨0,0⟩).kind<3:=by
 have hm:=(tO h.er).2.1;unfold xJ uM vN at hm;simp only[zB,zL,zA] at hm;have b:=hm.1.1.2;have a:=h.tys (f.locals.getD 0 ⟨0,0⟩) (by rw[zD,zE h.l0,zH];exact zM _);unfold yE at a;simp only[Bool.or_eq_true,zB,beq_iff_eq,zL] at a;omega
def NV{s s':Sa}{t:Ty}(b:t.kind<3)(h:xh p s t l=true): xh p s' t l=true:=by
 unfold xh at *;simp only[zB,zA,Bool.or_eq_true] at *;exact⟨h.1,λc a=>⟨(h.2 c a).1,Or.inl (by simpa using b)⟩⟩
def Kn: tv q 0=q:=by unfold tv;simp
def YX(b:Env p s)(d:(bkS p s).2.2=0): xh p s ((tyL p s).getD 0 ⟨0,0⟩) (bkS p s).2.1=true/\((tyL p s).getD 0 ⟨0,0⟩).kind<3:=by
 obtain⟨n,m,x,f,K⟩:=b.top;obtain⟨t1,t2⟩:=Kl (ts:=tyL p s) (by rw[K.tyl];exact K.fs.lo);have a:fdS p s pl0=(s,vY (zn s),wK p (zn s),0):=by
  unfold fdS;rw[if_pos (show pl0.deref=false from rfl),t2];have:wH pl0=0:=rfl
  rw[this,Kn];rfl
 unfold bkS at d ⊢;have:=Se b.v b.ne t1 (by rw[a]) (by rw[a];exact d)
 rw[a,t2] at this;exact⟨this,by rw[K.tyl];exact Km K.fs⟩
def Ko(z:(zk p s).2.2=0): (bkS p s).2.2=0/\(zk p s).2.1=(bkS p s).2.1:=by
 unfold zk at *;by_cases a:(sLd s (vY (zn s)) (wK p (zn s))).2.2=0
 ·rw[if_neg (by simpa using a)] at z ⊢;by_cases b:(vU p s).2=0
  ·rw[if_neg (by simpa using b)];exact⟨a,rfl⟩
  ·rw[if_pos b] at z;exact absurd z b
 ·rw[if_pos a] at z;exact absurd z a
def ReF.ty{h:Fn}(d:Env p s)(R:ReF p s h c): zu (tyL p (zk p s).1) c.dest=(tyL p s).getD 0 ⟨0,0⟩/\zZ (tyL p (zk p s).1) c.dest=0:=by
 obtain⟨n,m,x,b,bk,K,j,k,rfl,B⟩:=R.top;obtain⟨g,C⟩:=QF d.wp d.ty B R.kd;obtain⟨t,r,u,e,a⟩:=d.top;have i:g=e:=by
  have:=C.ge
  rw[R.fn,a.top,a.fn,Int.toNat_natCast,a.ff] at this;exact(zY this).symm
 rw[K.tyl,a.tyl,<-i];exact⟨C.ds.2,C.ds.1⟩
def NW{h:Fn}(d:Env p s)(z:(zk p s).2.2=0)(R:ReF p s h c): xh p (zk p s).1 (zu (tyL p (zk p s).1) c.dest) (zk p s).2.1=true:=by
 obtain⟨a,b⟩:=Ko z;obtain⟨e,g⟩:=YX d a;rw[(R.ty d).1,b];exact NV g e
def gB{bk:Bk}(B:BkF p f bk){t:Int}(h:t∈xx bk.jump){u:Nat}(a:t=u): u<f.blocks.length:=by
 have:=B.ld t h
 omega
def bg (p:Pr)(s:Sa)(f:Fn)(k:Nat)(g h:Fn)(c:Ju)(bk:Bk)(i n m b:Nat)(x:Fm)(j:Env p s)(Q:SdQ p s f k g h c bk i n m b x)(hr:rgP p):
  zK 14 [p.a,s.a] (.tup [(sdS p s f k g h.blocks c bk i).1.a,iU (sdS p s f k g h.blocks c bk i).2,iI 0]):=by
 by_cases A:i<bk.stmts.length
 ·have hx:=Q.P.st A;have hm:bk.stmts.getD i yY∈bk.stmts:=by rw[zD,zE A,zH];exact zM _
  obtain⟨E,I⟩:=Q.B.st _ hm;rw[<-Q.K.tyl] at I;have U:sdS p s f k g h.blocks c bk i=if ¬(stS p s (bk.stmts.getD i yY)).2=0 then(s,(stS p s (bk.stmts.getD i yY)).2) else(atS (stS p s (bk.stmts.getD i yY)).1 ((zn s).at_+1),0):=by unfold sdS;rw[if_pos A]
  rw[U,Q.K.top];clear U;have hw:∃t:Sa,((stS p s (bk.stmts.getD i yY)).2=0->t=(stS p s (bk.stmts.getD i yY)).1)/\∀d,zG 39 1 (λι=>[.ptr (ι 0) d 12 0 0,(bk.stmts.getD i yY).a']) (λ_=>[wbO p d s 0]) (λ_ _=>.tup []) (λ_ _=>[wbO p d t ((stS p s (bk.stmts.getD i yY)).2)]):=by
   generalize bk.stmts.getD i yY=y at *;by_cases k1:y.kind=1
   ·have D:stS p s y=if ¬(rvS p s y.r).2.2=0 then(s,(rvS p s y.r).2.2) else asS p (rvS p s y.r).1 y.pl (rvS p s y.r).2.1:=by unfold stS;rw[if_pos k1]
    rw[D];by_cases z:(rvS p s y.r).2.2=0
    ·rw[if_neg (by simpa using z)];by_cases M:(asS p (rvS p s y.r).1 y.pl (rvS p s y.r).2.1).2=0
     ·rw[M];exact⟨_,λ_=>rfl,λd=>dZ p s y d j hx E I k1 z M⟩
     ·exact⟨_,λq=>absurd q M,λd=>bK p s y d j hx E I k1 z M⟩
    ·rw[if_pos z];obtain⟨t,hT⟩:=bL p s y j hx E I k1 z;exact⟨t,λq=>absurd q z,hT⟩
   by_cases N:y.kind=3
   ·have D:stS p s y=rnS s y.loc.toNat:=by unfold stS;rw[if_neg k1,if_pos N]
    rw[D];by_cases z:(rnS s y.loc.toNat).2=0
    ·rw[z];exact⟨_,λ_=>rfl,λd=>cd p s y d j hx E I N z⟩
    ·exact⟨_,λq=>absurd q z,λd=>bM p s y d j hx E I N z⟩
   have X:y.kind=2\/y.kind=4:=by have:=hx.k;omega
   have D:stS p s y=if ¬(vlS p s y.a).2.2=0 then(s,(vlS p s y.a).2.2) else
     if y.kind=4 then(if(ce0 (vlS p s y.a).2.1).n=0 then(s,4) else((vlS p s y.a).1,0)) else
     if 200<=(vlS p s y.a).1.prints.length then(s,3) else(prS (vlS p s y.a).1 (ce0 (vlS p s y.a).2.1).n,0):=by unfold stS;rw[if_neg k1,if_neg N]
   rw[D];by_cases z:(vlS p s y.a).2.2=0
   case neg =>
    rw[if_pos z];exact⟨_,λq=>absurd q z,λd=>bN p s y d j hx E I X z⟩
   rw[if_neg (by simpa using z)];obtain⟨hv,t1,t2⟩:=hx.vl X;obtain⟨v,e⟩:=kC j t1 t2 z;have Z:(ce0 (vlS p s y.a).2.1).n=v:=by rw[e];rfl
   rw[Z];by_cases H:y.kind=4
   ·rw[if_pos H];by_cases F:v=0
    ·rw[if_pos F];exact⟨_,λq=>by simp at q,λd=>bO p s y d j hx E I v H F z e⟩
    ·rw[if_neg F];exact⟨_,λ_=>rfl,λd=>cf p s y d j hx E I v H F z e⟩
   ·have G:y.kind=2:=om;rw[if_neg H];by_cases hp:200<=(vlS p s y.a).1.prints.length
    ·rw[if_pos hp];exact⟨_,λq=>by simp at q,λd=>cj p s y d j hx E I v G hp z e⟩
    ·rw[if_neg hp];exact⟨_,λ_=>rfl,λd=>cm p s y d j hx E I v G hp z e⟩
  obtain⟨t,h3,S⟩:=hw;by_cases z:(stS p s (bk.stmts.getD i yY)).2=0
  ·rw[if_neg (by simpa using z)];obtain rfl:=h3 z;rw[z] at S;exact Wu p s f k g h c bk i n m b x j Q A z S
  ·rw[if_pos z];exact UQ p s f k g h c bk i n m b x j Q A t _ z Ki S
 ·have U:sdS p s f k g h.blocks c bk i=if ¬(juS p s f k g h.blocks c bk.jump).2=0/\¬(juS p s f k g h.blocks c bk.jump).2=1 then(s,(juS p s f k g h.blocks c bk.jump).2) else juS p s f k g h.blocks c bk.jump:=by unfold sdS;rw[if_neg A]
  rw[U];clear U;have J:=Q.ju;have h4:=J.P.kd;have Y:bk.jump.kind=1\/bk.jump.kind=2->bk.jump.next∈xx bk.jump:=λz=>by
   unfold xx;rw[if_neg om];split<;>simp
  by_cases k1:bk.jump.kind=1
  ·have D:juS p s f k g h.blocks c bk.jump=(atS s (z6 f.blocks bk.jump.next.toNat),0):=by unfold juS;rw[if_pos k1]
   obtain⟨u,L,_⟩:=J.P.nx (Or.inl k1);rw[D,if_neg sm,L,Int.toNat_natCast];exact NU p s f k g h c bk i n m b x j Q u L (gB Q.B (Y (Or.inl k1)) L) A k1
  by_cases G:bk.jump.kind=2
  ·have D:juS p s f k g h.blocks c bk.jump=if ¬(vlS p s bk.jump.a).2.2=0 then(s,(vlS p s bk.jump.a).2.2) else if(ce0 (vlS p s bk.jump.a).2.1).n=0 then(atS (vlS p s bk.jump.a).1 (z6 f.blocks bk.jump.els.toNat),0) else(atS (vlS p s bk.jump.a).1 (z6 f.blocks bk.jump.next.toNat),0):=by unfold juS;rw[if_neg k1,if_pos G]
   by_cases z:(vlS p s bk.jump.a).2.2=0
   ·rw[if_neg (by simpa using z)] at D;obtain⟨hv,t1,t2⟩:=J.P.vl G;obtain⟨v,e⟩:=kC j t1 t2 z;have Z:(ce0 (vlS p s bk.jump.a).2.1).n=v:=by rw[e];rfl
    rw[Z] at D;by_cases F:v=0
    ·obtain⟨u,L,_⟩:=J.P.el G;rw[if_pos F,L,Int.toNat_natCast] at D;rw[D,if_neg sm];refine SN p s f k g h c bk i n m b x j Q u L (gB Q.B ?_ L) v A G z e F;unfold xx;rw[if_neg om];by_cases q:bk.jump.els=bk.jump.next
     ·rw[if_neg (λw=>w.2 q),q];simp
     ·rw[if_pos ⟨G,q⟩];simp
    ·obtain⟨u,L,_⟩:=J.P.nx (Or.inr G);rw[if_neg F,L,Int.toNat_natCast] at D;rw[D,if_neg sm];exact SO p s f k g h c bk i n m b x j Q u L (gB Q.B (Y (Or.inr G)) L) v A G z e F
   ·rw[if_pos z] at D;rw[D,if_pos ⟨z,oM⟩];exact US p s f k g h c bk i n m b x j Q A G z oM
  by_cases H:bk.jump.kind=4
  ·have D:juS p s f k g h.blocks c bk.jump=caS p s k g bk.jump.args:=by unfold juS;rw[if_neg k1,if_neg G,if_pos H]
   rw[D];obtain⟨V,W⟩:=J.P.ca H;obtain⟨C,_⟩:=J.ca H;have hi:i=bk.stmts.length:=by have:=Q.hi;omega
   have h1:yW f.blocks x.at_ k=true:=by rw[Q.at_,hi];exact Vw Q.hb H W
   have hC:=λd=>SG p s n m k x f g bk.jump d j Q.K V C W (J.ca2 H) h1
   by_cases z:(caS p s k g bk.jump.args).2=0
   ·rw[if_neg (λq=>q.1 z)];rw[z,<-LX z];have h2:g.locals.length<1000000:=by have:=(s8 j.wp (vW j.ty) g (zF V.ff)).l16;omega
    have T:∀d,_:=hC;rw[aG,z] at T;have:=Wv p s f k g h c bk i n m b x j Q (caW p s k g bk.jump.args).1 0 (Or.inl rfl) (Kb j h2) A H T
    rw[show(caW p s k g bk.jump.args)=((caW p s k g bk.jump.args).1,(caW p s k g bk.jump.args).2) from rfl] at this ⊢;exact this
   ·rw[if_pos ⟨z,SX⟩];have:=UR p s f k g h c bk i n m b x j Q _ _ (by rw[aG];exact z) (by rw[aG];exact SX) A H hC
    rw[aG] at this;exact this
  by_cases k5:bk.jump.kind=5
  ·have D:juS p s f k g h.blocks c bk.jump=(s,4):=by unfold juS;rw[if_neg k1,if_neg G,if_neg H,if_pos k5]
   rw[D,if_pos ⟨sm,sm⟩];exact NT p s f k g h c bk i n m b x j Q A k5
  have N:bk.jump.kind=3:=om;have D:juS p s f k g h.blocks c bk.jump=reS p s h.blocks c:=by unfold juS;rw[if_neg k1,if_neg G,if_neg H,if_neg k5]
  unfold reS at D;by_cases z:(zk p s).2.2=0
  case neg =>
   rw[if_pos z] at D;rw[D,if_pos ⟨z,VD⟩];exact eI p s f k g h c bk i n m b x j Q _ _ z VD A N λd=>YR p s d j z
  rw[if_neg (by simpa using z)] at D;by_cases e:(zk p s).1.frames = []
  ·rw[if_pos e] at D;rw[D,if_neg sm];exact jX p s f k g h c bk i n m b x j Q _ 1 (Or.inr rfl) (Kc j z e) A N λd=>bP p s d j z e
  rw[if_neg e] at D;have R:=J.re N z e;have O:=NW j z R;by_cases M:(asS p (zk p s).1 c.dest (zk p s).2.1).2=0
  ·rw[if_neg (by simpa using M)] at D;rw[D,if_neg sm];exact jX p s f k g h c bk i n m b x j Q _ 0 (Or.inl rfl) (kP (lf.wf R.env.wf (UH R.env.v.wh)) (by rw[lf.fr];exact e)) A N λd=>bQ p s h c d j z e R hr O M
  ·rw[if_pos M] at D;rw[D,if_pos ⟨M,YV⟩];exact eI p s f k g h c bk i n m b x j Q _ _ M YV A N λd=>YS p s h c d j z e R hr O M
def Hn (p:Pr)(s:Sa)(b:Env p s): ∃(T:Sa)(l:List Ce) (o:Int),zK 98 [p.a,s.a] (.tup [T.a,vCe_ l,iU o,iI 0])/\((zk p s).2.2=0->o=0/\T=(zk p s).1)/\(¬(zk p s).2.2=0->¬o=0):=by
 by_cases z:(zk p s).2.2=0
 ·exact⟨_,_,0,oK p s b z,λ_=>⟨rfl,rfl⟩,λh=>absurd z h⟩
 ·exact⟨s,[],_,lC p s b.wf b.wp b.ty b.v b.ne z,λh=>absurd h z,λh=>h⟩
def YY (p:Pr)(s:Sa)(L:List Acc)(r:Po)(n:Int)(j:z9 s)(i:WhV s)(hn:n=1\/n=2)(h:¬(sLd s r n).2.2=0)(e:Int)(g:L.length<1000000): ∀d b c,
  zG 111 2 (λι=>[.ptr (ι 0) d 13 0 0,r.a,iI n]) (λι=>(xbO p ι d s e L b c)) (λ_ _=>.tup [.vec 5 [],.bool false]) (λι q=>(xxO p ι d e (L++[Acc.mk 1 0 r n]) ((q 1).1) ((q 1).2))) :=
 λd b c=>(oI p s L r n j i hn h e g d b c).wide (λ_ _=>Nat.le_refl _) λι q=>yy.cons (obq.one rfl λX w=>by repeat'(first|exact vw|refine uj ?_|refine ve ?_)) (yy.cons (obq.refl _) yy.nil)
def jY (p:Pr)(s:Sa)(L:List Acc)(r:Po)(n:Int)(j:z9 s)(i:WhV s)(e:yV s.mon.mem r.al=0)(k:¬(xEd s r.al).2=0)(g:Int)(h:L.length<1000000): ∀d b c,
  zG 54 2 (λι=>[.ptr (ι 0) d 13 0 0,r.a,iI n]) (λι=>(xbO p ι d s g L b c)) (λ_ _=>.bool false) (λι q=>(xxO p ι d g (L++[Acc.mk 4 0 r n]) ((q 1).1) ((q 1).2))) :=
 λd b c=>(Wq p s L r n j i e k g h d b c).wide (λ_ _=>Nat.le_refl _) λι q=>yy.cons (obq.one rfl λX w=>by repeat'(first|exact vw|refine uj ?_|refine ve ?_)) (yy.cons (obq.refl _) yy.nil)
def Kp{h:Fn}(a:Env p s)(R:ReF p s h c): zZ (tyL p (zk p s).1) c.dest=0:=(R.ty a).2
def jC (p:Pr)(a:Sa)(c:Ju)(n:Nat): List Acc:=if ¬(zk p a).2.2=0 then [] else if(zk p a).1.frames = [] then [] else trA p (zk p a).1 c.dest n
def Kq{n m:Nat}{x:Fm}{l0:Po}{a:Ty}(K:UE p s n m x f l0 a)(c:Ju): trQ p s c=Acc.mk 1 0 l0 (zg a)::(if ¬(sLd s l0 (zg a)).2.2=0 then [] else trE (sLv (sLd s l0 (zg a)).1) x.locals f.locals ++
  (if ¬(xEs (sLv (sLd s l0 (zg a)).1) x.locals).2=0 then [] else jC p (sLd s l0 (zg a)).1 c (sLd s l0 (zg a)).2.1.length)):=by
 have b:tyL p s=f.locals:=by unfold tyL;rw[K.top,K.ge]
 unfold trQ bkS jC;rw[K.top,K.lo,K.sz,b]
def UE.N{n m:Nat}{x:Fm}{l0:Po}{a:Ty}(K:UE p s n m x f l0 a): xR p s n m x f :=
 ⟨K.top,K.n1,K.nx,K.fn,K.ff,K.fs,K.len,K.at_,K.ge,by unfold tyL;rw[K.top,K.ge]⟩
def SY (p:Pr)(s:Sa)(L:List Acc)(c:Ju)(E:Env p s)(hc:(zk p (bkS p s).1).2.2=0->(zk p (bkS p s).1).1.frames≠[]->∃h,ReF p (bkS p s).1 h c)(la:Int)(hL:L.length<900000): ∀d b c',
  zG 58 2 (λι=>[.ptr (ι 0) d 13 0 0]) (λι=>(xbO p ι d s la L b (c'))) (λ_ _=>.tup []) (λι q=>(xxO p ι d la (L++trQ p s c) ((q 1).1) ((q 1).2))):=by
 intro d b c';suffices HH:∀R:List Acc,Hd (R=L++trQ p s c)->zG 58 2 (λι=>[.ptr (ι 0) d 13 0 0]) (λι=>(xbO p ι d s la L b (c'))) (λ_ _=>.tup []) (λι q=>(xxO p ι d la R ((q 1).1) ((q 1).2))) from HH _ ⟨rfl⟩
 intro R hR;obtain⟨n,m,x,f,l0,t0,K⟩:=UF E.wp E.ty E.v E.ne;have yl:bkS p s=sLd s l0 (zg t0):=by unfold bkS;rw[K.top,K.lo,K.sz]
 have hm:=YX E;rw[yl] at hc hm;rw[Kq K] at hR;have ha:=wP p s L la n m x f E.wf K.N;have vp:=K.fs.l16;have ue:=K.fs.tys t0 (zF K.gt);have h5:=ng t0 ue;have D:=K.fs.tys;have hz:=λz=>uY p s L l0 (zg t0) E.wf E.v.wh qv z la om;have hy:=λz=>YY p s L l0 (zg t0) E.wf E.v.wh qv z la om;have h4:Env p (sLd s l0 (zg t0)).1:=E.same sy (fy E.v);have hk:=@sy s l0 (zg t0);have hx:=pz E.v.wh (q:=l0) (n:=zg t0);have h8:=aw E.v E.ne (s':=(sLd s l0 (zg t0)).1) hk.pl hx.2.2;obtain⟨hd,yk,-⟩:=av h4.v.wh h8;have h6:=(Su E.v E.ne hd (yk.trans hx.1)).x;rw[K.top] at h6;have V:=Hd.mk K.len;have v5:=K.gl;have v6:=K.gt;clear yk hx K yl E;obtain⟨xf,xa,xc,A⟩:=x;simp only at v5 h6 hR;replace V:=Hd.mk (show A.length=f.locals.length from V.out);have vv:A.length<=16:=by have:=V.out;omega
 generalize hZ:zg t0=Z at *;obtain⟨tk,un⟩:=t0;obtain⟨a,g,j⟩:=l0;by_cases z0:(sLd s ⟨a,g,j⟩ Z).2.2=0
 case neg =>
  have hl:=hy z0;have I:R=L++[Acc.mk 1 0 ⟨a,g,j⟩ Z]:=by rw[hR.out,if_pos z0]
  subst I;clear hz hy hR hc hm h4 hk h8 hd h6 z0 D hL;obtain⟨fp,fu,fl,fb⟩:=f;obtain⟨sp,⟨⟨sa,sn⟩,st,sr,s1,s2⟩,sf,vk,vl⟩:=s;simp only at *;refine eG [1,3,4,3058,8,11,18] func58 λX=>?_;go_simp;repeat'(first|with_reducible first|apply ai|intro)
  refine zi [u0,u1] 2 0 (ha d b c') ?_;intro q1;go_simp;intro b2 b3;refine uE hP ⟨[(25,.l 2,3),(29,.l 3,2)],true⟩ [27,31] (LC.mk _ _ _ _ _ _ (ji [u0,u1]) (hl d b c') dk rfl (λ_=>rfl) (λ_=>rfl)) 34 dk ?_;go_simp;repeat'(first|(apply zd h5;try go_simp)|with_reducible first|apply ai|intro)
  refine s9 rfl ?_ λq2=>?_
  ·go_simp
  go_simp;exact⟨[u0,u1],dk,⟨q2,OB,OB,trivial⟩,yg,rfl⟩
 have hl:=hz z0;rw[if_neg (by simpa using z0)] at hR;obtain⟨ht,-⟩:=hm z0;obtain⟨hg,ys⟩:=SB ht;clear hz hy hm ht;obtain⟨T,TL,o,h9,u3,u4⟩:=Hn p (sLd s ⟨a,g,j⟩ Z).1 h4;have vf:=hk.tr (@aB (sLd s ⟨a,g,j⟩ Z).1);have uk:=h4.wf;have ui:=h4.v.wh;have P:=λh=>lw (sLd s ⟨a,g,j⟩ Z).1.mon (ui.mo (h:(sLd s ⟨a,g,j⟩ Z).1.plain=false));have xs:=(@aB (sLd s ⟨a,g,j⟩ Z).1).wf uk hd;have v3:∀S1,(sLd s ⟨a,g,j⟩ Z).1=S1->sLv S1=yh S1 (gLv S1).1:=λ_ _=>rfl;have v1:∀T':Sa,T=T'->T=T':=λ_ h=>h;have F:Hd (∀(LL:List Acc) , LL++jC p (sLd s ⟨a,g,j⟩ Z).1 c (sLd s ⟨a,g,j⟩ Z).2.1.length=R->(R=LL/\(¬o=0\/T.frames = []))\/(o=0/\T.frames≠[]/\∃h,ReF p (sLd s ⟨a,g,j⟩ Z).1 h c/\T=(zk p (sLd s ⟨a,g,j⟩ Z).1).1/\LL++trA p T c.dest (sLd s ⟨a,g,j⟩ Z).2.1.length=R)):=⟨λLL t=>by
  unfold jC at t;by_cases y:(zk p (sLd s ⟨a,g,j⟩ Z).1).2.2=0
  ·obtain⟨o0,rfl⟩:=u3 y;rw[if_neg (by simpa using y)] at t;by_cases e:(zk p (sLd s ⟨a,g,j⟩ Z).1).1.frames = []
   ·rw[if_pos e,List.append_nil] at t;exact Or.inl ⟨t.symm,Or.inr e⟩
   ·rw[if_neg e] at t;obtain⟨h,hh⟩:=hc y e;exact Or.inr ⟨o0,e,h,hh,rfl,t⟩
  ·rw[if_pos y,List.append_nil] at t;exact Or.inl ⟨t.symm,Or.inl (u4 y)⟩⟩
 have I:Hd (L++[Acc.mk 1 0 ⟨a,g,j⟩ Z]++(trE (sLv (sLd s ⟨a,g,j⟩ Z).1) A f.locals++(if ¬(xEs (sLv (sLd s ⟨a,g,j⟩ Z).1) A).2=0 then [] else jC p (sLd s ⟨a,g,j⟩ Z).1 c (sLd s ⟨a,g,j⟩ Z).2.1.length))=R):=⟨by rw[hR.out,List.append_assoc];rfl⟩
 clear hR hc u3 u4 hk ui uk z0 v3 v1;generalize hQ:jC p (sLd s ⟨a,g,j⟩ Z).1 c (sLd s ⟨a,g,j⟩ Z).2.1.length=Q at *;clear hQ;generalize v2:sLd s ⟨a,g,j⟩ Z=W at *;clear v2;obtain⟨w,l,W3⟩:=W;have J:sLv w=yh w (gLv w).1:=rfl;have S:w.plain=false->mLv w.mon=gLv w:=λh=>by unfold gLv;rw[h];rfl
 have U:w.plain=true->sLv w=w:=λh=>by unfold sLv gLv;rw[if_pos h];exact fM
 simp only at *;replace J:=Hd.mk J;have va:¬o=0->(o != 0)=true:=z4;obtain⟨tp,⟨⟨ta,tn⟩,tt,tr,t1,t2⟩,tf,y3,y4⟩:=T;obtain⟨sp,⟨⟨sa,sn⟩,st,sr,s1,s2⟩,sf,vk,vl⟩:=s;simp only at *;clear va;refine eG [1,3,3058,8,11,13,18] func58 λX=>?_;go_simp;repeat'(first|with_reducible first|apply ai|intro)
 refine zi [u0,u1] 2 0 (ha d b c') ?_;intro q1;go_simp;intro b2 b3;refine uE hP ⟨[(25,.l 2,3),(29,.l 3,2)],true⟩ [27,31] (LC.mk _ _ _ _ _ _ (ji [u0,u1]) (hl d b c') dk rfl (λ_=>rfl) (λ_=>rfl)) 34 dk ?_;go_simp;repeat'(first|(apply zd h5;try go_simp)|with_reducible first|apply ai|intro)
 refine s9 rfl ?_ λq2=>?_
 ·go_simp
 go_simp;clear ha hl h5;refine zh hP ⟨[(42,u0,0),(46,u0,1),(6,.l 6,0)],true⟩ dk ?_;go_simp;repeat'(first|(apply zd h9;try go_simp)|with_reducible first|apply ai|intro)
 rename_i b6;refine sj (B:=[11,13,18]) hP [(2,.ptr (.l 2) b2 4 0 0),(0,.ptr u0 d 13 0 0),(3,.ptr (.l 3) b3 4 0 0),(4,vCe_ l),(6,.ptr (.l 6) b6 10 0 0),(8,iU o),(9,iI 0)] [(u0,⟨d,1,13,71,[[vFn_ p.funcs,.bool (sLv w).plain,.vec 3 ((sLv w).mon.mem.allocs.map Al.c),iI (sLv w).mon.mem.next,.vec 2 ((sLv w).mon.stacks.map Ss.c),.vec 1 ((sLv w).mon.running.map ci),iI (sLv w).mon.ntag,iI (sLv w).mon.ncall,.vec 4 ((sLv w).frames.map Fm.c),.vec 1 ((sLv w).prints.map ci),.vec 1 ((sLv w).result.map ci),iU la,.sl u1 ((q2 1).1) 6 (L++[Acc.mk 1 0 ⟨a,g,j⟩ Z]).length ((q2 1).2)]],false⟩),(u1,⟨(q2 1).1,(q2 1).2,6,55,(L++[Acc.mk 1 0 ⟨a,g,j⟩ Z]).map Acc.c,false⟩),(.l 2,⟨b2,1,4,64,[Fm.c ⟨xf,xa,xc,A⟩],false⟩),(.l 3,⟨b3,1,4,60,[Fn.c f],false⟩),(.l 6,⟨b6,1,10,35,[Sa.c ⟨tp,⟨⟨ta,tn⟩,tt,tr,t1,t2⟩,tf,y3,y4⟩],false⟩)] dk ?_ ?_
 ·clear hd h6 xs F I h9 D hg;rw[J.out];cases hp:w.plain with
  |true =>
   rw[<-J.out,U hp];clear P S U J;obtain⟨yp,⟨⟨ya,yn⟩,yt,yr,y1,y2⟩,yf,vm,vn⟩:=w;simp only at *;subst hp;go_simp
  |false =>
   have u:=P hp;rw[S hp] at u;rw[h8] at u;unfold yh;clear P S U J h8;generalize gLv w=M at *;obtain⟨⟨⟨M1,M2⟩,M4,M5,M6,M7⟩,c1⟩:=M;obtain⟨yp,⟨⟨ya,yn⟩,yt,yr,y1,y2⟩,yf,vm,vn⟩:=w;simp only at *;subst hp;go_simp;repeat'(first|(apply zd u;try go_simp)|with_reducible first|apply ai|intro)
 clear P S U J h8 h9;generalize vi:sLv w=y0 at *;clear vi;have hq:(L++[Acc.mk 1 0 ⟨a,g,j⟩ Z]).length<=L.length+1:=by simp
 generalize L++[Acc.mk 1 0 ⟨a,g,j⟩ Z]=up at *;go_simp;refine zf hP (B:=[11,13,18]) (G:=Nat×Sa×List Acc×(Nat×Nat)) (λv=>[(0,.ptr u0 d 13 0 0),(3,.ptr (.l 3) b3 4 0 0),(4,vCe_ l),(6,.ptr (.l 6) b6 10 0 0),(8,iU o),(9,iI 0),(76,vPo_ A),(77,iI A.length),(78,iI v.1)])
  (λv=>[(u0,⟨d,1,13,71,[[vFn_ p.funcs,.bool (v.2.1).plain,.vec 3 ((v.2.1).mon.mem.allocs.map Al.c),iI (v.2.1).mon.mem.next,.vec 2 ((v.2.1).mon.stacks.map Ss.c),.vec 1 ((v.2.1).mon.running.map ci),iI (v.2.1).mon.ntag,iI (v.2.1).mon.ncall,.vec 4 ((v.2.1).frames.map Fm.c),.vec 1 ((v.2.1).prints.map ci),.vec 1 ((v.2.1).result.map ci),iU la,.sl u1 (v.2.2.2.1) 6 (v.2.2.1).length (v.2.2.2.2)]],false⟩),(u1,⟨v.2.2.2.1,v.2.2.2.2,6,55,(v.2.2.1).map Acc.c,false⟩),(.l 3,⟨b3,1,4,60,[Fn.c f],false⟩),(.l 6,⟨b6,1,10,35,[Sa.c ⟨tp,⟨⟨ta,tn⟩,tt,tr,t1,t2⟩,tf,y3,y4⟩],false⟩)])
  (λv=>v.1<=A.length/\LvX v.2.1 (A.drop v.1)/\z9 v.2.1/\v.2.2.1++(trE v.2.1 (A.drop v.1) (f.locals.drop v.1)++(if ¬(xEs v.2.1 (A.drop v.1)).2=0 then [] else Q))=R/\v.2.2.1.length<=L.length+1+v.1) (λv=>A.length-v.1) (0,y0,up,((q2 1).1,(q2 1).2)) dk ⟨Nat.zero_le _,h6,xs,I.out,hq⟩ ?_ ?_ ?_
 ·clear I;go_simp
 ·clear I;go_simp
 clear I h6 xs hd hq vf;rintro⟨i,y,LL,⟨l1,l2⟩⟩ ⟨hi,u,H,t,ut⟩;simp only at hi u H t ut;by_cases xk:i<A.length
 ·have vs:¬A.length<=i:=om;have a7:A[i]?=some A[i]:=zE xk;have xj:i<f.locals.length:=by have:=V.out;omega
  have a5:f.locals[i]?=some f.locals[i]:=zE xj;have xd:A.drop i=A[i]::A.drop (i+1):=List.drop_eq_getElem_cons xk;have ym:f.locals.drop i=f.locals[i]::f.locals.drop (i+1):=List.drop_eq_getElem_cons xj;have xr:=D _ (zM xj);have h5:=ng _ xr;rw[xd,ym] at t;rw[xd] at u;clear xd ym D F hg;generalize a2:A[i]=r at *;generalize v6:f.locals[i]=ty at *;have hj:=u.err;have hn:=λz=>(LV (s:=y) (n:=r.al)).wf H (u.step z).wh;have Y:=λz=>u.step z;have hw:=λz=>kM p y LL r (zg ty) H u.wh hj z la om;have hv:=λz=>jY p y LL r (zg ty) H u.wh hj z la om;by_cases z:(xEd y r.al).2=0
  ·rw[VA z,NQ z] at t;replace hn:=hn z;replace Y:=Y z;have h7:=hw z;clear hw hv hj u z H xr;generalize xEd y r.al=W at *;obtain⟨V1,V2⟩:=W;generalize v4:zg ty=ZZ at *;obtain⟨tk,un⟩:=ty;obtain⟨r1,r2,r3⟩:=r;obtain⟨fp,fu,fl,fb⟩:=f;simp only at *;replace t:=Hd.mk t;go_simp;intro us;refine uE hP ⟨[(13,.l 13,0),(85,.l 3,2)],true⟩ [88] (LC.mk _ _ _ _ _ _ (ji [u0,u1]) (h7 d l1 l2) dk rfl (λ_=>rfl) (λ_=>rfl)) 91 dk ?_;go_simp;repeat'(first|(apply zd h5;try go_simp)|with_reducible first|apply ai|intro)
   refine s9 rfl ?_ λq3=>?_
   ·go_simp
   go_simp;exact⟨i+1,V1,LL++[Acc.mk 4 0 ⟨r1,r2,r3⟩ ZZ],_,_,⟨om,Y,hn,by simpa using t.out,by simp;omega⟩,om,wrS om,⟨rfl,rfl,rfl,rfl,rfl,rfl,rfl,rfl,rfl,rfl,rfl,sm,rfl⟩,rfl,rfl,by rw[zV];rfl⟩
  ·rw[SF z,if_pos (LW z),List.append_nil] at t;have h7:=hv z;clear hw hv hj u z H xr Y hn;generalize v4:zg ty=ZZ at *;obtain⟨tk,un⟩:=ty;obtain⟨r1,r2,r3⟩:=r;obtain⟨fp,fu,fl,fb⟩:=f;simp only at *;subst t;go_simp;intro us;refine uE hP ⟨[(13,.l 13,0),(85,.l 3,2)],true⟩ [88] (LC.mk _ _ _ _ _ _ (ji [u0,u1]) (h7 d l1 l2) dk rfl (λ_=>rfl) (λ_=>rfl)) 91 dk ?_;go_simp;repeat'(first|(apply zd h5;try go_simp)|with_reducible first|apply ai|intro)
   refine s9 rfl ?_ λq3=>?_
   ·go_simp
   go_simp;exact⟨[u0,u1],dk,⟨q3,OB,OB,trivial⟩,yg,rfl⟩
 ·obtain rfl:i=A.length:=om;have u2:¬A.length<A.length:=om;rw[List.drop_length,VB,List.nil_append,if_neg (by show ¬¬((0:Int)=0);simp)] at t;rcases F.out LL t with⟨uw,xn⟩|⟨ho,hf,h,hh,x1,ye⟩
  ·subst uw;clear F u H t hg D;go_simp;refine VK [1,2,3,4,5,6,7,8,9,10] u0 rfl rfl ?_;simp only[qw,List.foldr,List.set];refine aO [] ?_;by_cases ho:o=0
   ·obtain rfl:tf = []:=by
     rcases xn with h|h
     ·exact absurd ho h
     ·exact h
    subst ho;clear xn;go_simp;exact⟨[u0,u1],dk,⟨λ_=>(l1,l2),OB,OB,trivial⟩,yg,rfl⟩
   ·have wr:=z4 ho;clear xn;go_simp;exact⟨[u0,u1],dk,⟨λ_=>(l1,l2),OB,OB,trivial⟩,yg,rfl⟩
  obtain⟨n2,m2,x2,b5,bk,K2,h1,h2,h3,B⟩:=hh.top;have O:=hh.env;rw[<-x1] at K2 O;have hb:=wP p _ LL la n2 m2 x2 h O.wf K2;have yd:=xC h K2.fs.wf;rw[if_pos K2.fs.er,K2.fs.er] at yd;have hA:=vG h1 (Nat.lt_succ_self _);have vt:=(zS.1 hA).1;have hr:x2.at_=((z6 h.blocks b5+bk.stmts.length:Nat):Int):=by rw[h2];omega
  have w3:=(zS.1 hA).2;have u8:zZ (tyL p ⟨tp,⟨⟨ta,tn⟩,tt,tr,t1,t2⟩,tf,y3,y4⟩) c.dest=0:=by
   have C:=Kp h4 hh;rw[x1];exact C
  have yc:=lF p _ LL c.dest l O u8 ys hg la om;rw[ye] at yc;subst h3;clear F u H t hg D hh x1 O ye u8 h2 B K2 ys u2 xk;generalize z6 h.blocks b5+bk.stmts.length=k at *;generalize uS h=PL at *;obtain⟨ab,a8,aa,ac⟩:=x2;simp only at hr;subst hr;obtain⟨a4,hu,a3,w4⟩:=h;simp only at h1;obtain⟨wd,a1⟩:=zS.1 h1;obtain⟨bs,bj⟩:=bk;obtain⟨jk,⟨ak,an,⟨al,ad,af⟩⟩,jf,jn,je,args,⟨dl,dd,df⟩⟩:=bj;subst ho;simp only at *;have vr:(k:Int)<PL.length:=om;have a6:¬tf.length=0:=λq=>hf (List.length_eq_zero_iff.1 q);go_simp;refine aO [] ?_;go_simp;refine zi [u0,u1] 2 0 (hb d l1 l2) ?_;intro q4;clear hb;go_simp;intro w1 w2;repeat'(first|(apply zd yd;try go_simp)|with_reducible first|apply ai|intro)
  refine uE hP ⟨[(130,.l 15,3),(133,.l 14,1)],true⟩ [136,140] (LC.mk _ _ _ _ _ _ (ji [u0,u1]) (yc d l1 l2) dk rfl (λ_=>rfl) (λ_=>rfl)) 143 dk ?_;go_simp;refine s9 rfl ?_ λq5=>?_
  ·go_simp
  go_simp;exact⟨[u0,u1],dk,⟨q5,OB,OB,trivial⟩,yg,rfl⟩
def VE {a e:Int}: ¬yw a e=4:=by unfold yw;(repeat' split)<;>omega
def Kr: ¬(sLd s q n).2.2=4:=by unfold sLd;split<;>simp[VE]
def Ks: ¬(sSt s q l).2=4:=by unfold sSt;split<;>simp[VE]
def Kt: ¬(fdS p s x).2.2.2=4:=by
 unfold fdS;split
 ·simp
 split
 ·exact Kr
 split<;>simp
def Ku: ¬(asS p s x l).2=4:=by
 unfold asS;split
 ·exact Kt
 split
 ·exact Ks
 ·simp
def SZ(h:¬(gEn s).2.2=0): (gEn s).2.2=18:=by
 unfold gEn mEn at *;split at h
 ·simp at h
 ·rename_i c;rw[if_neg c];split at h
  ·rename_i d;rw[if_pos d]
  ·simp at h
def Kv{k:Nat}{g:Fn}(h:(y5 p s args []).2.2=0)(a:¬(caS p s k g args).2=3): (gEn (y5 p s args []).1).2.2=0:=by
 refine zC λc=>a ?_;unfold caS puS;rw[if_neg (by simpa using h)];split
 ·rfl
 ·show yw 0 (gEn (y5 p s args []).1).2.2=3;rw[SZ c];rfl
def PO {p:Pr}{s:Sa}{f:Fn}{k:Nat}{g:Fn}{bs:List Bk}{c:Ju}{bk:Bk}{i:Nat}(h:i<bk.stmts.length): (sdS p s f k g bs c bk i).2=(stS p s (bk.stmts.getD i yY)).2:=by
 unfold sdS;rw[if_pos h];split
 ·rfl
 ·rename_i z;simp at z;exact z.symm
def PP {p:Pr}{s:Sa}{f:Fn}{k:Nat}{g:Fn}{bs:List Bk}{c:Ju}{bk:Bk}{i:Nat}(h:¬i<bk.stmts.length): (sdS p s f k g bs c bk i).2=(juS p s f k g bs c bk.jump).2:=by
 unfold sdS;rw[if_neg h];split<;>rfl
def Ho {p:Pr}{s:Sa}{f:Fn}{k:Nat}{g:Fn}{bs:List Bk}{c:Ju}{bk:Bk}{i:Nat}(h:i<bk.stmts.length)(k1:(bk.stmts.getD i yY).kind=1):
  ((rvS p s (bk.stmts.getD i yY).r).2.2=0->¬(sdS p s f k g bs c bk i).2=4)/\(¬(rvS p s (bk.stmts.getD i yY).r).2.2=0->(rvS p s (bk.stmts.getD i yY).r).2.2=4->(sdS p s f k g bs c bk i).2=4):=by
 rw[PO h];unfold stS;rw[if_pos k1];constructor
 ·intro z;rw[if_neg (by simpa using z)];exact Ku
 ·intro z e;rw[if_pos z];exact e
def Hq {p:Pr}{s:Sa}{f:Fn}{k:Nat}{g:Fn}{bs:List Bk}{c:Ju}{bk:Bk}{i:Nat}(h:¬i<bk.stmts.length)(b:bk.jump.kind=4): (y5 p s bk.jump.args []).2.2=0->¬(sdS p s f k g bs c bk i).2=3->(gEn (y5 p s bk.jump.args []).1).2.2=0:=by
 intro z a;rw[PP h] at a;unfold juS at a;rw[if_neg om,if_neg om,if_pos b] at a;exact Kv z a
def E8(a:Env p s): ∃c:Ju,(zk p (bkS p s).1).2.2=0->(zk p (bkS p s).1).1.frames≠[]->∃h,ReF p (bkS p s).1 h c:=by
 have b:Env p (bkS p s).1:=a.same sy (fy a.v);by_cases z:(zk p (bkS p s).1).2.2=0
 ·by_cases e:(zk p (bkS p s).1).1.frames = []
  ·exact⟨juz,λ_ q=>absurd e q⟩
  ·obtain⟨h,c,R⟩:=LM b z e;exact⟨c,λ_ _=>⟨h,R⟩⟩
 ·exact⟨juz,λq=>absurd q z⟩
def acB (a:Acc): Prop:=(1<=a.kind/\a.kind<=4)/\(1<=a.n/\a.n<=2)/\(a.bo=0↔¬a.kind=3)
def lgB (R:List Acc): Prop:=∀a∈R,acB a
def yI:lgB []:=λa h=>by cases h
def oN {a:Acc}{R:List Acc}(h:acB a)(k:lgB R): lgB (a::R):=λb hb=>by
 rcases List.mem_cons.1 hb with rfl|hb
 ·exact h
 ·exact k b hb
def wQ {R S:List Acc}(h:lgB R)(k:lgB S): lgB (R++S):=λb hb=>(zJ.1 hb).elim (h b) (k b)
def vg {c:Prop}[Decidable c]{R S:List Acc}(h:lgB R)(k:lgB S): lgB (if c then R else S):=by split<;>assumption
def mm {a:Acc}(h:acB a): lgB [a]:=oN h yI
def kQ (t:Ty): 1<=zg t/\zg t<=2:=by unfold zg;split<;>omega
def lh{n k:Int}(h:1<=n/\n<=2)(a:k=1\/k=2\/k=4): acB ⟨k,0,q,n⟩:=⟨by show 1<=k/\k<=4;omega,h,by show 0=0↔¬k=3;omega⟩
def PQ{n b:Int}(h:1<=n/\n<=2)(hb:1<=b): acB ⟨3,b,q,n⟩:=⟨by show(1:Int)<=3/\(3:Int)<=4;omega,h,by show b=0↔¬(3:Int)=3;omega⟩
def PR(z:(fdS p s x).2.2.2=0): 1<=(fdS p s x).2.2.1/\(fdS p s x).2.2.1<=2:=by
 unfold fdS at z ⊢;split at z
 ·rename_i c;rw[if_pos c];exact kQ _
 rename_i c;rw[if_neg c];split at z
 ·rename_i d;exact absurd z d
 rename_i d;rw[if_neg d];split at z
 ·simp at z
 rename_i e;rw[if_neg e];exact kQ _
def UT(z:¬(fdS p s x).2.2.2=0): trF s x≠[]:=by
 unfold fdS at z;split at z
 ·exact absurd rfl z
 ·rename_i c;unfold trF;rw[if_pos (by simpa using c)];simp
def UU: lgB (trF s x):=by
 unfold trF;exact vg (mm (lh om om)) yI
def jD: lgB (trV p s o):=by
 unfold trV;refine vg yI (wQ UU ?_);split
 ·exact yI
 ·rename_i z;exact oN (lh (PR (by simpa using z)) om) (vg yI (vg (mm (lh om om)) yI))
def PS{n:Nat}(h:n=1\/n=2): lgB (trA p s x n):=wQ UU (vg yI (mm (lh om om)))
def Hr{k:Int}(a:1<=k): lgB (trB p s x k):=by
 refine wQ UU ?_;split
 ·exact yI
 ·rename_i z;exact mm (PQ (PR (by simpa using z)) a)
def Kw{r:Rv}(d:RvP p s r)(b:xG r=true): lgB (trR p s r):=by
 have k:=d.k;by_cases k1:r.kind=1
 ·rw[(YP d k1).2.2.2];exact jD
 by_cases a:r.kind=4\/r.kind=5
 ·rw[aF a];exact Hr (UO d b a).2.1.1
 ·rw[eE om];exact wQ jD (vg yI jD)
def PT {p:Pr}: ∀ {l:List Opd} {s:Sa},lgB (trC p s l)
 |[],s=>yI
 |o::l,s=>wQ jD (vg PT yI)
def UV {call:Int}: ∀ {ts:List Ty} {ls:List (List Ce)} {s:Sa},lgB (trG call s ts ls)
 |[],_,s=>by unfold trG;exact yI
 |_::_,[],s=>by unfold trG;exact yI
 |t::ts,l::ls,s=>by
  unfold trG;exact vg (oN (PQ (kQ _) YQ.1) (vg UV yI)) UV
def Hs{g:Fn}{o:Int}: lgB (trK p s g args o):=wQ PT (vg yI UV)
def PV:∀ {l:List Po} {ts:List Ty} {s:Sa},lgB (trE s l ts)
 |[],_,s=>by unfold trE;exact yI
 |_::_,[],s=>by unfold trE;exact yI
 |q::l,t::ts,s=>by
  unfold trE;exact oN (lh (kQ _) om) (vg PV yI)
def Ht(a:Env p s): lgB (trQ p s c):=by
 unfold trQ;refine oN (lh (kQ _) om) ?_;split
 ·exact yI
 ·rename_i z;have h:=(YX a (by simpa using z)).1;have hn:(bkS p s).2.1.length=1\/(bkS p s).2.1.length=2:=by
   unfold xh um at h;simp only[zB,zL] at h;have:=kQ ((tyL p s).getD 0 ⟨0,0⟩)
   omega
  exact wQ PV (vg yI (vg yI (vg yI (PS hn))))
def mn(h:¬o.kind=1): trV p s o≠[]:=by
 unfold trV;rw[if_neg h];by_cases z:(fdS p s o.pl).2.2.2=0
 ·rw[if_neg (by simpa using z)];simp
 ·rw[if_pos z,List.append_nil];exact UT z
def cq(h:¬(vlS p s o).2.2=0): ¬o.kind=1:=λk=>h (by unfold vlS;rw[if_pos k])
def Kx{n:Nat}: trA p s x n≠[]:=by
 by_cases z:(fdS p s x).2.2.2=0
 ·rw[dW z];simp
 ·rw[S9 z];exact UT z
def Kz{k:Int}: trB p s x k≠[]:=by
 by_cases z:(fdS p s x).2.2.2=0
 ·rw[dV z];simp
 ·rw[S8 z];exact UT z
def K3{r:Rv}(m:RvP p s r)(h:¬(rvS p s r).2.2=0)(i:¬(rvS p s r).2.2=4): trR p s r≠[]:=by
 have k:=m.k;by_cases k1:r.kind=1
 ·rw[(YP m k1).2.2.1] at h;rw[(YP m k1).2.2.2];exact mn (cq h)
 by_cases t:r.kind=4\/r.kind=5
 ·rw[aF t];exact Kz
 ·have g:r.kind=2\/r.kind=3:=om;rw[eE g];by_cases u:r.a.kind=1
  ·have v:(vlS p s r.a).2.2=0:=zC λc=>cq c u;rw[if_neg (by simpa using v)];have j:¬r.b.kind=1:=λj=>by
    have w:(vlS p (vlS p s r.a).1 r.b).2.2=0:=zC λc=>cq c j;rw[UP g,if_neg (by simpa using v),if_neg (by simpa using w)] at h i;split at h
    ·exact h rfl
    rename_i d;rw[if_neg d] at i;split at h
    ·rename_i e;rw[if_pos e] at i;exact i rfl
    ·exact h rfl
   intro e;exact mn j (List.append_eq_nil_iff.1 e).2
  ·intro e;exact mn u (List.append_eq_nil_iff.1 e).1
def K4: ∀ {l:List Opd},trC p s l = []->∀o∈l,o.kind=1:=by
 intro l;induction l generalizing s with
 |nil=>intro _ o b;cases b
 |cons a l ih =>
  intro h o b;have k:a.kind=1:=zC λc=>mn c (List.append_eq_nil_iff.1 h).1;have z:(vlS p s a).2.2=0:=zC λc=>cq c k;rcases List.mem_cons.1 b with rfl|b
  ·exact k
  ·rw[dY z] at h;exact ih (List.append_eq_nil_iff.1 h).2 o b
def Frs (s:Sa)(q:Po): Prop:=∃(k:Nat)(a:Al),s.mon.mem.allocs[k]?=some a/\a.num=q.al/\a.live=true/\q.off=0/\(s.plain=false->∃(x:Ss)(r:List (List It)),s.mon.stacks[k]?=some x/\x.cells = [⟨1,q.tag,0⟩]::r)
def K5 (r:List Int)(t:Int): (xe r (yv [⟨1,t,0⟩] t true)).2.1=0:=by
 unfold xe;split
 ·rfl
 ·unfold yv;split
  ·unfold pu;split<;>rfl
  ·have e:uc (xH t true) [⟨1,t,0⟩]=0:=by simp[uc,qh,xH]
   rw[e];rfl
def K6(h:WhV s)(y:Frs s q): (sSt s q [ce1 n]).2=0:=by
 obtain⟨k,a,d,hn,hl,A,g⟩:=y;have hm:=h.me;have i:=hm.al a (zF d);have b:atA s.mon.mem q.al=k:=by rw[<-hn];exact i6 hm.pw d
 have u:=i.lo;have v:=i.hi;have C:=i.c1;rw[hn] at u v;obtain⟨j,t,-⟩:=Pe (m:=s.mon.mem) (p:=q) (l:=[ce1 n]) (og.2 hm) (by simp;omega) b d (by simp;omega) hl (by simp[ce1,xg];rfl);have z:(gSt s q [ce1 n]).2.1=0/\(gSt s q [ce1 n]).2.2=0:=by
  unfold gSt;cases hp:s.plain with
  |true=>exact⟨t,j⟩
  |false =>
   obtain⟨x,r,hx,w⟩:=g hp;have B:(rdR s.mon q (([ce1 n]:List Ce).length) true).2.1=0:=by
    have e:vS s.mon q=x:=by unfold vS;rw[b,Int.toNat_natCast,zD,hx];rfl
    unfold rdR rdS;rw[e,A];split
    ·rfl
    ·show(xq _ x 0 1).2.1=0;unfold xq;split
     ·rfl
     ·split
      ·rename_i c;exfalso;apply c;show(if(0:Int)=0 then _ else _)=_;rw[if_pos rfl];unfold xz;rw[w];exact K5 _ _
      ·rfl
   simp only[Bool.false_eq_true,if_false];unfold mSt;rw[if_neg (by simpa using j),if_neg (by simpa using t),if_neg (by simpa using B)];exact⟨rfl,rfl⟩
 unfold sSt;rw[if_pos (yX.2 z)]
def QM{q t:Po}(h:WhV s)(A:(sSt s q l).2=0)(I:Frs s t)(v:q.al≠t.al): Frs (sSt s q l).1 t:=by
 obtain⟨k,a,u,hn,hl,J,y⟩:=I;have hm:=h.me;have G:atA s.mon.mem t.al=k:=by rw[<-hn];exact i6 hm.pw u
 unfold sSt at A ⊢;split at A
 ·rename_i c;rw[if_pos c];obtain⟨c1,c2⟩:=yX.1 c;obtain⟨-,F,-,-,-,g,i⟩:=mQ h c1 c2;have j:(atA s.mon.mem q.al).toNat≠k:=by
   intro e;by_cases b:atA s.mon.mem q.al<0
   ·have K:=WJ (m:=s.mon.mem) (p:=q) (l:=l);have L:fdE s.mon.mem q l.length=0:=zC λz=>by rw[(Pd z).1] at g;exact z g
    have E:fdL s.mon.mem q l.length = []:=by unfold fdL;rw[if_pos (Or.inr (Or.inl b))]
    unfold stW at i;rw[if_neg (by simpa using g),if_pos E] at i;simp at i
   ·obtain⟨k',C,x,B,D⟩:=ud b;rw[C,Int.toNat_natCast] at e;subst e;rw[u] at B;cases B;exact v (by rw[<-D,hn])
  refine⟨k,a,?_,hn,hl,J,λhp=>?_⟩
  ·show(gSt s q l).1.mem.allocs[k]?=some a;rw[F];unfold stM;rw[if_pos ⟨g,i⟩,List.getElem?_set_ne j];exact u
  ·obtain⟨x,r,hx,H⟩:=y hp;refine⟨x,r,?_,H⟩;show(gSt s q l).1.stacks[k]?=some x;have w:s.plain=false:=hp;unfold gSt at c1 c2 ⊢;simp only[w,Bool.false_eq_true,if_false] at c1 c2 ⊢;unfold mSt at c1 c2 ⊢;rw[if_neg (by simpa using g),if_neg (by simpa using i)] at c1 c2 ⊢;split at c1
   ·rename_i d;exact absurd c1 d
   ·rename_i d;rw[if_neg d];show(List.set _ _ _)[k]?=some x;rw[List.getElem?_set_ne j];exact hx
 ·rename_i c;exact absurd A c
def PW:∀ {ls:List (List Ce)} {qs:List Po} {s:Sa},WhV s->(∀q∈qs,Frs s q)->qs.Pairwise (λa b=>a.al≠b.al)->(∀l∈ls,∃n,l = [ce1 n])->(stF s qs ls).2=0
 |[],qs,s,_,_,_,_=>by rw[dM]
 |l::ls,[],s,_,_,_,_=>rfl
 |l::ls,q::qs,s,h,hq,hp,hl=>by
  obtain⟨n,rfl⟩:=hl l List.mem_cons_self;have z:=K6 (n:=n) h (hq q List.mem_cons_self);rw[mb z];have d:=List.pairwise_cons.1 hp;exact PW (mR h) (λg e=>QM h z (hq g (List.mem_cons_of_mem _ e)) (d.1 g e)) d.2 λl' e=>hl l' (List.mem_cons_of_mem _ e)
def Hu(h:WhV s)(hn:1<=n/\n<=2): (gAl s n).2.2=0\/(gAl s n).2.2=18:=by
 have a:wy s.mon.mem n=0\/wy s.mon.mem n=18:=by
  unfold wy;rw[if_neg (by simpa using og.2 h.me),if_neg om];split
  ·exact Or.inr rfl
  ·exact Or.inl rfl
 unfold gAl;cases s.plain with
 |true=>exact a
 |false =>
  simp only[Bool.false_eq_true,if_false];unfold mAl;split
  ·exact a
  ·split
   ·exact Or.inr rfl
   ·exact Or.inl rfl
def Hv(h:WhV s)(hn:1<=n/\n<=2): (sAl s n).2.2=0\/(sAl s n).2.2=3:=by
 unfold sAl;split
 ·exact Or.inl rfl
 ·rename_i c;rcases Hu h hn with e|e
  ·exact absurd (yX.2 ⟨rfl,e⟩) c
  ·right;show yw 0 (gAl s n).2.2=3;rw[e];rfl
def NX(h:WhV s)(z:(sAl s n).2.2=0): Frs (sAl s n).1 (sAl s n).2.1/\(sAl s n).2.1.al=s.mon.mem.next/\(sAl s n).1.mon.mem.next=s.mon.mem.next+1/\(∀q,Frs s q->Frs (sAl s n).1 q):=by
 unfold sAl at z ⊢;split at z
 ·rename_i c;rw[if_pos c];obtain⟨-,c2⟩:=yX.1 c;cases hp:s.plain with
  |true =>
   unfold gAl at c2 ⊢;simp only[hp,if_true] at c2 ⊢;have u:wz s.mon.mem n=⟨s.mon.mem.allocs++[⟨s.mon.mem.next,true,List.replicate n.toNat ceZ⟩],s.mon.mem.next+1⟩:=by unfold wz;rw[if_pos c2]
   have B:uJ s.mon.mem n=s.mon.mem.next:=by unfold uJ;rw[if_pos c2]
   rw[u,B];refine⟨⟨s.mon.mem.allocs.length,_,List.getElem?_concat_length,rfl,rfl,rfl,λe=>?_⟩,rfl,rfl,λq y=>?_⟩
   ·exact absurd (show s.plain=false from e) (by rw[hp];simp)
   ·obtain⟨k,a,i,hn,hl,w,t⟩:=y;refine⟨k,a,?_,hn,hl,w,λe=>absurd (show s.plain=false from e) (by rw[hp];simp)⟩;show(s.mon.mem.allocs++_)[k]?=some a;rw[List.getElem?_append_left (zS.1 i).1];exact i
  |false =>
   have b:=(h.mo hp).len;unfold gAl at c2 ⊢;simp only[hp,Bool.false_eq_true,if_false] at c2 ⊢;unfold mAl at c2 ⊢;split at c2
   ·rename_i d;exact absurd c2 d
   rename_i d;split at c2
   ·simp at c2
   rename_i A;rw[if_neg d,if_neg A];have g:wy s.mon.mem n=0:=by simpa using d
   have u:wz s.mon.mem n=⟨s.mon.mem.allocs++[⟨s.mon.mem.next,true,List.replicate n.toNat ceZ⟩],s.mon.mem.next+1⟩:=by unfold wz;rw[if_pos g]
   have v:∃r,List.replicate n.toNat [(⟨1,s.mon.ntag,0⟩:It)] = [⟨1,s.mon.ntag,0⟩]::r:=by
    unfold wy at g;split at g
    ·rename_i x;exact absurd g x
    split at g
    ·simp at g
    rename_i x;obtain⟨j,D⟩:∃j,n.toNat=j+1:=⟨n.toNat-1,om⟩
    exact⟨_,by rw[D,List.replicate_succ]⟩
   obtain⟨r,E⟩:=v;rw[u];refine⟨⟨s.mon.mem.allocs.length,_,List.getElem?_concat_length,rfl,rfl,rfl,λ_=>⟨qQ s.mon.mem.next n s.mon.ntag,r,?_,E⟩⟩,rfl,rfl,λq y=>?_⟩
   ·show(s.mon.stacks++[_])[s.mon.mem.allocs.length]?=_;rw[<-b];exact List.getElem?_concat_length
   ·obtain⟨k,a,i,hn,hl,w,t⟩:=y;have m:=(zS.1 i).1;refine⟨k,a,?_,hn,hl,w,λe=>?_⟩
    ·show(s.mon.mem.allocs++_)[k]?=some a;rw[List.getElem?_append_left m];exact i
    ·obtain⟨x,r,hx,C⟩:=t hp;refine⟨x,r,?_,C⟩;show(s.mon.stacks++[_])[k]?=some x;rw[List.getElem?_append_left (by rw[b];exact m)];exact hx
 ·rename_i c;exact absurd z c
def K7(h:WhV s)(b:Frs s q): q.al<s.mon.mem.next:=by
 obtain⟨k,a,d,hn,-⟩:=b;have:=(h.me.al a (zF d)).hi
 omega
def PX:∀ {ts:List Ty} {s:Sa} {ls:List Po},WhV s->(∀q∈ls,Frs s q)->ls.Pairwise (λa b=>a.al≠b.al) ->
  ((alF s ts ls).2.2=0/\(∀q∈(alF s ts ls).2.1,Frs (alF s ts ls).1 q)/\(alF s ts ls).2.1.Pairwise (λa b=>a.al≠b.al))\/(alF s ts ls).2.2=3
 |[],s,ls,_,hq,hp=>Or.inl ⟨rfl,hq,hp⟩
 |t::ts,s,ls,h,hq,hp=>by
  rcases Hv h (kQ t) with z|z
  ·rw[pN z];obtain⟨n1,i,k,j⟩:=NX h z;refine PX (ay h) (λq d=>?_) ?_
   ·rcases zJ.1 d with e|e
    ·exact j q (hq q e)
    ·rw[zX.1 e];exact n1
   ·refine List.pairwise_append.2 ⟨hp,List.pairwise_singleton _ _,λa g b hb=>?_⟩;rw[zX.1 hb,i];have:=K7 h (hq a g)
    omega
  ·rw[ma om];exact Or.inr z
def PY {call a:Int}: ∀ {ls:List (List Ce)} {qs:List Po} {ts:List Ty} {s s':Sa},trG call s ts ls = []->(rtF a s' qs ts ls).2=0
 |[],qs,ts,s,s',_=>by rw[md]
 |l::ls,[],ts,s,s',_=>by unfold rtF;rfl
 |l::ls,q::qs,[],s,s',_=>by unfold rtF;rfl
 |l::ls,q::qs,t::ts,s,s',h=>by
  have c:¬(t.kind=3\/t.kind=4):=λc=>by unfold trG at h;rw[if_pos c] at h;cases h
  have e:rt1 a s' q t l=(s',0):=by unfold rt1;rw[if_neg c]
  rw[gA c] at h;rw[mc (by rw[e])];exact PY h
def Ra {p:Pr}{s:Sa}: ∀ {l:List Opd} {a:List (List Ce)},(∀o∈l,o.kind=1)->(∀x∈a,∃n,x = [ce1 n])->(y5 p s l a).1=s/\(y5 p s l a).2.2=0/\∀x∈(y5 p s l a).2.1,∃n,x = [ce1 n]
 |[],a,_,ha=>⟨rfl,rfl,ha⟩
 |o::l,a,h,ha=>by
  have k:=h o List.mem_cons_self;have e:vlS p s o=(s,[ce1 o.n],0):=by unfold vlS;rw[if_pos k]
  have b:y5 p s (o::l) a=y5 p s l (a++[[ce1 o.n]]):=by
   show(if _ then _ else _)=_;rw[e,if_pos rfl]
  rw[b];refine Ra (λg d=>h g (List.mem_cons_of_mem _ d)) λx hx=>?_;rcases zJ.1 hx with c|c
  ·exact ha x c
  ·exact⟨o.n,zX.1 c⟩
def NY{k:Nat}{g:Fn}{o:Int}(A:WhV s)(b:o=(caS p s k g args).2)(h:trK p s g args o = []): o<5:=by
 obtain⟨v,d⟩:=List.append_eq_nil_iff.1 h;obtain⟨t,j,u⟩:=Ra (p:=p) (s:=s) (a:=[]) (K4 v) (λx hx=>by cases hx);by_cases B:o=3
 ·omega
 rw[if_neg (by rw[j];simp;exact B)] at d;unfold caS at b;rw[if_neg (by simpa using j)] at b;rw[t] at b d;unfold puS at b;split at b
 ·simp only at b;omega
 split at b
 ·rename_i c;rw[SZ c] at b;have:yw 0 18=3:=rfl;simp only[this] at b;omega
 rename_i c;have m:=fN A (by simpa using c);rcases PX (ts:=g.locals) m (ls:=[]) (λq e=>by cases e) List.Pairwise.nil with⟨C,D,E⟩|z
 ·have i:(puA s g).2.2=0:=C;have w:(puB s g (y5 p s args []).2.1).2=0:=PW (UD m) (λq e=>D q (List.mem_of_mem_drop e)) (E.sublist (List.drop_sublist _ _)) u;have y:(puC s g (y5 p s args []).2.1).2=0:=PY d;rw[if_neg (by simpa using i),if_neg (by simpa using w),if_neg (by simpa using y)] at b;simp only at b;omega
 ·have r:(puA s g).2.2=3:=z;rw[if_pos (by rw[r];decide)] at b;simp only[r] at b;omega
def aH (o:Int): Bool:=o==5||o==6||o==7||o==8
def aI (o:Int): Int:=if 1<=o/\o<=8 then 0 else 2
def Ww (o:Int)(h:0<=o): zK 143 [iU o] (.tup [.bool (aH o),iI (aI o)]):=by
 have a:o=0\/o=1\/o=2\/o=3\/o=4\/o=5\/o=6\/o=7\/o=8\/8<o:=om;rcases a with rfl|rfl|rfl|rfl|rfl|rfl|rfl|rfl|rfl|u;iterate 9 (· refine eK [] func143 λX=>?_;go_simp;decide)
 have k:¬o=1:=om;have m:¬o=2:=om;have r:¬o=3:=om;have t:¬o=4:=om;have b:¬o=5:=om;have d:¬o=6:=om;have e:¬o=7:=om;have g:¬o=8:=om;have i:aH o=false:=by simp[aH,b,d,e,g]
 have j:aI o=2:=by unfold aI;rw[if_neg om]
 rw[i,j];refine eK [] func143 λX=>?_;go_simp
def K8 (p:Pr)(st:Nat->Sa)(n:Nat)(T:Sa)(out b:Int)(e:∀i,i<n->zK 14 [p.a,(st i).a] (.tup [(st (i+1)).a,iU 0,iI 0]))
  (d:zK 14 [p.a,(st n).a] (.tup [T.a,iU out,iI 0])) (r:¬out=0) (D:(n:Int)<b) (w:b<=500) (h:(st 0).frames≠[]) :
  zK 76 [p.a,(st 0).a,iI b] (.tup [T.a,iU out,iI (if out=1 then(n:Int)+1 else n),iI 0]):=by
 have u:(((st 0).frames.length:Int)==0)=false:=by
  have:0<(st 0).frames.length:=List.length_pos_iff.2 h
  simp;omega
 have A:(out==0)=false:=by simpa using r
 have C:(out != 0)=true:=by simpa using r
 have z:¬((st 0).frames.length:Int)=0:=by simpa using u
 refine eK [] func76 λX=>?_;go_simp;intro j k m;refine zf hP (B:=[]) (G:=Nat) (λi=>[(2,iI b),(3,.ptr (.l 3) j 1 0 0),(4,.ptr (.l 4) k 10 0 0),(6,.ptr (.l 6) m 10 0 0),(10,iI i),(20,iI b),(21,iI i)])
  (λi=>[(.l 3,⟨j,1,1,24,[p.c],false⟩),(.l 4,⟨k,1,10,35,[(st i).c],false⟩),(.l 6,⟨m,1,10,35,[zr0],false⟩)]) (λi=>i<=n) (λi=>n-i) 0 dk (Nat.zero_le _) ?_ ?_ ?_
 ·go_simp
 ·go_simp
 ·rintro i hi;have y:(i:Int)<b:=om;by_cases g:i<n
  ·have v:=e i g;go_simp;repeat'(first|(apply zd v;try go_simp)|with_reducible first|apply ai|intro)
   exact⟨i+1,om,om,wrS om,rfl,rfl,rfl,rfl,rfl,rfl,rfl,rfl,rfl,rfl⟩
  ·obtain rfl:i=n:=om;have E:IntKind.i64.wrap ((i:Int)+1)=(i:Int)+1:=AM.Tf om;clear e;by_cases t:out=1
   ·subst t;go_simp;repeat'(first|(apply zd d;try go_simp)|with_reducible first|apply ai|intro)
    all_goals simp
   ·go_simp;repeat'(first|(apply zd d;try go_simp)|with_reducible first|apply ai|intro)
    all_goals simp[t]
def saN:Sa:=⟨false,⟨⟨[],0⟩,[],[],1,1⟩,[],[],[]⟩
def K9:z9 saN:=by
 refine⟨⟨⟨by simp[saN],λa h=>by simp[saN] at h⟩,by simp[saN],λx h=>by simp[saN] at h,by simp[saN]⟩,by simp[saN],λx h=>by simp[saN] at h,by simp[saN],by simp[saN]⟩
def Wy (p:Pr)(f:Fn)(v:wfP p)(d:tyE p=0)(u:WhV saN)(g:p.funcs[0]?=some f)(t:fnS f)(hp:f.params=0)(hl:1<=f.locals.length)(b:(puS saN 0 f []).2=0):
  zK 75 [p.a,.vec 1 [],.bool false] (.tup [(puS saN 0 f []).1.a,iI 0]):=by
 have r:=ks p v;have w:=XK;have e:=jV p saN 0 f [] K9 u g t (by simpa using hl) (λl h=>by simp at h);rw[d] at r;rw[show((0:Nat):Int)=0 from rfl,b] at e;obtain⟨z,y⟩:=zS.1 g;have hx:p.funcs[0]?=some f:=g;generalize (puS saN 0 f []).1=R at *;unfold saN at e;obtain⟨fs⟩:=p;obtain⟨fp,B,A,fb⟩:=f;simp only at *;subst hp;clear d b u t v;refine eK [] func75 λX=>?_;go_simp;repeat'(first|((first|apply zd r|apply zd w);try go_simp)|with_reducible first|apply ai|intro)
 rename_i j k m;refine lN [] (λi=>[(3,.ptr (.l 3) j 1 0 0),(6,.ptr (.l 6) k 10 0 0),(9,.ptr (.l 9) m 10 0 0),(10,.nils),(37,iI 0),(38,iI 0)]) (λi=>[(.l 3,⟨j,1,1,24,[[vFn_ fs]],false⟩),(.l 6,⟨k,1,10,35,[zr0],false⟩),
   (.l 9,⟨m,1,10,35,[[.bool false,.vec 3 [],iI 0,.vec 2 [],.vec 1 [],iI 1,iI 1,.nils,.nils,.nils]],false⟩)]) (λi=>i=0) (λi=>0) 0 ?_ (h0:=rfl)
 rintro i rfl;go_simp;repeat'(first|(refine dJ [] e ?_;try go_simp)|with_reducible first|apply ai|intro)
def NZ (p:Pr)(ins:List Int)(S T:Sa)(b out k:Int)(d:zK 75 [p.a,vCi_ ins,.bool false] (.tup [S.a,iI 0]))
  (e:zK 76 [p.a,S.a,iI b] (.tup [T.a,iU out,iI k,iI 0])) (i:0<=b) (j:b<=500) :
  zK 33 [p.a,vCi_ ins,iI b,.bool false] (.tup [T.a,iU out,iI k,iI 0]):=by
 have g:¬b<0:=om;have h:¬500<b:=om;refine eK [] func33 λX=>?_;go_simp;repeat'(first|((first|apply zd d|apply zd e);try go_simp)|with_reducible first|apply ai|intro)
def Rb (a:Acc)(l:List Al): yF 220 [.rp a.c] Al.a (λy=>y.num==a.p.al) l:=⟨by go_simp,λx hx=>by
 obtain⟨k,b,⟨p,o,t⟩,n⟩:=a;obtain⟨g,e,d⟩:=x;refine eK [] func220 λX=>?_;go_simp⟩
def bR (s:Sa)(a:Acc)(z A B C:Int)(at_ c:Nat)(y:Al)(x:Ss)(k:List It)(w:Int)(O:a.kind=2)(hi:idx (λy=>y.num==a.p.al) s.mon.mem.allocs=at_)(b:s.mon.mem.allocs.length<1000000)
  (T:s.mon.mem.allocs[at_]?=some y) (hl:y.live=true) (hx:s.mon.stacks[at_]?=some x) (M:a.p.off=c) (e:x.cells[c]?=some k) (hn:1<=a.n) (P:a.n<=2) (I:(xe s.mon.running (yv k a.p.tag true)).2.1=w) (v:¬w=0)
  (N:c<1000000) (g:k.length<1000000) (u:s.mon.running.length<1000000) (d:Nat):zG 144 1 (λι=>[s.a,.ptr (ι 0) d 13 0 0])
  (λ_=>[⟨d,1,13,160,[[iI z,iI A,iI B,iI C,iU a.kind,iU a.bo,iI a.p.al,iI a.p.off,iI a.p.tag,iI a.n,iI 0,iU 0,.nils]],false⟩])
  (λ_ _=>.tup []) (λ_ _=>[⟨d,1,13,160,[[iI z,iI A,iI B,iI C,iU a.kind,iU a.bo,iI a.p.al,iI a.p.off,iI a.p.tag,iI a.n,iI c,iU w,vIt_ k]],false⟩]):=by
 have H:=rG (Rb a s.mon.mem.allocs) b;rw[hi] at H;have j:=jI k a.p.tag s.mon.running g u;have G:=wT (yb It.one k) (by simpa using g);obtain⟨sp,⟨⟨K,Z⟩,L,D,W,Y⟩,sf,h1,h2⟩:=s;obtain⟨ak,E,⟨J,po,m⟩,h⟩:=a;simp only at *;subst O M;obtain⟨V,U⟩:=zS.1 T;obtain⟨S,R⟩:=zS.1 hx;obtain⟨t,r⟩:=zS.1 e;obtain⟨yn,yl,yc⟩:=y;obtain⟨xn,xc⟩:=x;simp only at hl e t r;subst hl;have f1:¬(at_:Int)<0:=om;have f2:(at_:Int)<K.length:=om;have f3:(at_:Int)<L.length:=om;have f4:(c:Int)<xc.length:=om;have e4:IntKind.i64.wrap (c:Int)=c:=AM.Tf om;have Q:(w != 0)=true:=by simpa using v
 have w2:IntKind.i64.wrap 2=2:=by decide
 have w4:IntKind.i64.wrap 4=4:=by decide
 clear hi b;unfold tlA at j;rw[I] at j;generalize (xe D (yv k m true)).1=G1 at *;generalize (xe D (yv k m true)).2.2=G2 at *;clear I;refine eG [3] func144 λX=>?_;go_simp;intro b2 b4;refine z5 [.l 4] 4 (SV.ptr rfl rfl rfl rfl sm rfl) ?_;refine aO [] ?_;go_simp;repeat'(first|(apply zd H;try go_simp)|with_reducible first|apply ai|intro)
 rename_i F;refine lN [] (λi=>[(1,.ptr u0 d 13 0 0),(4,.rp [iU 2,iU E,iI J,iI c,iI m,iI h]),(5,iI at_),(6,.ptr (.l 6) F 6 0 0),(7,iI 0),(8,.bool false)]) (λi=>[(u0,⟨d,1,13,160,[[iI z,iI A,iI B,iI C,iU 2,iU E,iI J,iI c,iI m,iI h,iI c,iU 3,.nils]],false⟩),
   (.l 6,⟨F,1,6,31,[[vAl_ K,iI Z,vSs_ L,vCi_ D,iI W,iI Y]],false⟩)]) (λi=>i=0) (λi=>0) 0 ?_ (h0:=rfl)
 rintro i rfl;rcases(show h=1\/h=2 by omega) with rfl|rfl
 ·go_simp;repeat'(first|((first|apply zd j|apply zd G);try go_simp)|with_reducible first|apply ai|intro)
  exact⟨[u0],dk,⟨OB,trivial⟩,yg,rfl⟩
 ·go_simp;repeat'(first|((first|apply zd j|apply zd G);try go_simp)|with_reducible first|apply ai|intro)
  exact⟨[u0],dk,⟨OB,trivial⟩,yg,rfl⟩
end Go.Proofs.YtllodfoldffonaaGreatDoor
