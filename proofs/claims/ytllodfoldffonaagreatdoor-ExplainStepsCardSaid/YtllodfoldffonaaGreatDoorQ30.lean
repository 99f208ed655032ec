/- A part of the proof. -/
import Derived.Test.YtllodfoldffonaaGreatDoorQ19
namespace Go.Proofs.YtllodfoldffonaaGreatDoor.AM
open Go.RowKit
set_option linter.unusedSimpArgs false
set_option linter.unusedVariables false
set_option maxRecDepth 100000
set_option maxHeartbeats 16000000
variable {H:Hp}{N:Nat}{P:Program}{Q:AQ}{X:Nat->Prop}{af:Array Edge}{f:Fr}{k:AV->Hp->Prop}{ops:Array Oper}{ty:TypeId}{w:World}
structure LC (P:Program) where
 g:Nat
 n:Nat
 l:(Nat->Id)->List AV
 A:(Nat->Id)->List Ob
 v:(Nat->Id)->(Nat->Nat×Nat)->AV
 A':(Nat->Id)->(Nat->Nat×Nat)->List Ob
 ι:Nat->Id
 h:KG P g n l A v A'
 hi:vX n ι
 hm:(A ι).length=n
 hn:∀q,(A' ι q).length=n
 hfz:∀q,(A' ι q).all (λo=>!o.fz)=true
def EcE (P:Program)(D:LC P)(H:Hp): Eff->Prop
 |.req c e=>c/\EcE P D H e
 |.call g l=>g=D.g/\l=D.l D.ι/\sW D.ι H 0 (D.A D.ι)
 |_=>False
def qu (P:Program)(D:LC P)(H:Hp)(e:Eff)(k:AV->Hp->Prop): Prop:=EcE P D H e/\∀q,k (D.v D.ι q) (hsi D.ι H 0 (D.A' D.ι q))
theorem S6 {P:Program}{D:LC P}{H:Hp}{K:AV->Hp->Prop}(k:∀q,K (D.v D.ι q) (hsi D.ι H 0 (D.A' D.ι q))): ∀ {e:Eff},EcE P D H e->e.st P H K
 |.req _ e,h=>⟨h.1,S6 k (e:=e) h.2⟩
 |.call g l,⟨h1,h2,h3⟩=>by
  subst h1 h2;exact Ua D.ι D.n 0 D.h D.hi D.hm rfl D.hn D.hfz h3 trivial AR.refl k
theorem YC {ι:Nat->Id}{H:Hp}: ∀ {As:List Ob} {k:Nat},(∀(j:Nat) o,As[j]?=some o->H (ι (k+j))=some o)->sW ι H k As
 |[],_,_=>trivial
 |p::As,k,h=>⟨h 0 p rfl,YC λj o a=>by have:=h (j+1) o (by simpa using a);rwa[show k+(j+1)=k+1+j by omega] at this⟩
theorem YD {P:Program}{D:LC P}{H H':Hp}(h:∀j,j<D.n->H' (D.ι j)=H (D.ι j)): ∀ {e:Eff},EcE P D H e->EcE P D H' e
 |.req _ e,q=>⟨q.1,YD h (e:=e) q.2⟩
 |.call g l,⟨h1,h2,h3⟩=>⟨h1,h2,YC λj o a=>by
   have:=pV h3 a
   rw[Nat.zero_add] at this ⊢;rw[h j (by have:=(List.getElem?_eq_some_iff.1 a).1;rw[D.hm] at this;exact this)];exact this⟩
theorem dS {P:Program}{D:LC P}{H:Hp}: ∀ {e:Eff},EcE P D H e->sW D.ι H 0 (D.A D.ι)
 |.req _ e,q=>dS (e:=e) q.2
 |.call g l,q=>q.2.2
theorem nB {ι:Nat->Id}{H:Hp}{i:Id}{o:Ob}: ∀ {As:List Ob} {k:Nat},(∀j,j<As.length->ι (k+j)≠i)->ze (hsi ι H k As) i o=hsi ι (ze H i o) k As
 |[],k,_=>rfl
 |p::As,k,h=>by
  simp only[hsi];rw[<-nB λj a=>by have:=h (j+1) (by simpa using a);rwa[show k+(j+1)=k+1+j by omega] at this,vB (by have:=h 0 (by simp);simpa using this)]
def isD (e:Nat)(o:Oper): Bool:=o.dst==some e
def AE (P:Program)(ops:Array Oper)(y:Ky)(R:List Nat)(D:LC P)(e:Nat)(o:Oper)(f:Fr)(H:Hp)(K:Fr->Hp->Prop): Prop:=if isD e o=true then
  gd ops f o=some true/\qu P D H (zw P o f H) (λu H'=>K (zl f o.dst u) H')
 else AZ P ops y R o f H K
def UK (P:Program)(ops:Array Oper)(y:Ky)(R:List Nat)(e:Nat)(k i:Oper): Bool :=
 if isD e k then false else if isD e i then k.apart ops i&&(zm i.op==3)&&(zm k.op==0||zm k.op==2||iF R k) else ZV P ops y R k i
theorem aE (P:Program)(ops:Array Oper)(y:Ky)(R:List Nat)(D:LC P)(e:Nat): vu P ops (AE P ops y R D e) (UK P ops y R e):=⟨fun {o f H K K'} h k=>by
  unfold AE at *;split at h<;>rename_i W
  ·rw[if_pos W];exact⟨h.1,h.2.1,λq=>k _ _ (h.2.2 q)⟩
  ·rw[if_neg W];exact⟨h.1,h.2.mono k⟩,fun {o f H K} h=>by
  unfold AE at h;split at h
  ·unfold AS;rw[h.1];exact⟨λ_=>S6 (K:=qF f o.dst K) h.2.2 h.2.1,λc=>by cases c⟩
  ·exact h.2.as,fun {k i f H K} hm h=>by
  unfold UK at hm;by_cases B:isD e k=true
  ·rw[if_pos B] at hm;cases hm
  rw[if_neg B] at hm;by_cases hi:isD e i=true
  case neg =>
   rw[if_neg hi] at hm;simp only[AE,B,hi,if_false,Bool.false_eq_true] at h ⊢;exact(U5 P ops y R).swap hm h
  rw[if_pos hi] at hm;simp only[Bool.and_eq_true,Bool.or_eq_true,beq_iff_eq] at hm;obtain⟨⟨I,M⟩,x⟩:=hm;obtain⟨p,s,d⟩:=Oper.apart_spec I;simp only[AE,B,hi,if_true,if_false,Bool.false_eq_true] at h ⊢;obtain⟨U,q2⟩:=h;have cond:∀u,(gd ops (zl f i.dst u) k=some true->okS P y (zl f i.dst u) k/\v9 y (zl f i.dst u) k.op/\okR R (zl f i.dst u) k.op):=λu Y=>by
   rw[yM d] at Y;have:=U Y
   exact⟨(wZ d).2 this.1,(rP d).2 this.2.1,(pK d).2 this.2.2⟩
  have t:∀u V C,zw P i (zl f k.dst u) V=zw P i f C:=λu V C=>by
   unfold zw;rw[x8 p,Zj (H':=C) M]
  rcases zj.1 q2 with⟨uk,a,l⟩|⟨S,ob,vk,a,l⟩
  ·refine⟨by rw[<-yM p];exact l.1,by have:=l.2.1;rw[t uk H H] at this;exact this,λq=>⟨cond _,?_⟩⟩;rw[zj];refine Or.inl ⟨uk,(yx d).2 ?_,by rw[<-zy s];exact l.2.2 q⟩;rcases a with a|⟨g,a⟩
   ·exact Or.inl a
   refine Or.inr ⟨g,?_⟩;rcases x with(c|c)|c
   ·unfold zw at a ⊢;rw[qG (H':=H) _ c];exact(wt (Or.inl c)).y _ a
   ·exact absurd a ((wN c).1 _)
   ·obtain⟨z,T,v⟩:=nS c (U g).2.2;rw[v] at a ⊢;exact T.y _ a
  ·rcases x with(c|c)|c
   ·exact absurd a.2 ((wt (Or.inl c)).mk _ _ _)
   ·obtain⟨G,z,e3,e4⟩:=(wN c).2 _ _ _ a.2;have J:=dS (l 0 0).2.1;have L:=dS (l 1 0).2.1;have r:∀j,j<D.n->D.ι j≠S:=λj m v=>by
     obtain⟨o,Z⟩:∃o,(D.A D.ι)[j]?=some o:=⟨_,List.getElem?_eq_getElem (by rw[D.hm];exact m)⟩
     have E:=pV J Z;have F:=pV L Z;rw[Nat.zero_add,v] at E F;simp only[ze,if_true,Option.some.injEq] at E F;have b0:=z 0 0;have b1:=z 1 0;rw[E] at b0;rw[F] at b1;omega
    have O:H S=none:=by rw[G];exact e3
    refine⟨by rw[<-yM p];exact(l 0 0).1,?_,λq=>⟨cond _,?_⟩⟩
    ·have:=(l 0 0).2.1
     rw[t _ _ H] at this;exact YD (λj m=>by unfold ze;rw[if_neg (r j m)]) this
    ·rw[zj];refine Or.inr ⟨S,ob,vk,(y7 d).2 ⟨a.1,?_⟩,λb c=>?_⟩
     ·refine e4 _ ?_;rw[rR λj m=>by rw[D.hn,] at m;rw[Nat.zero_add,<-G];exact r j m,<-G];exact O
     ·rw[<-zy s,nB λj m=>by rw[D.hn] at m;rw[Nat.zero_add];exact r j m];exact(l b c).2.2 q
   ·obtain⟨z,T,v⟩:=nS c (U a.1).2.2;have:=a.2
    rw[v] at this;exact absurd this (T.mk _ _ _)⟩
theorem ll(hP:wI P)(y:Ky)(R:List Nat)(D:LC P)(e:Nat){id:Nat}(a:(ur N ops&&tz (UK P ops y R e) ops)=true)
  (h:SL (AE P ops y R D e) (Q .normal) ops.toList f H):AW P X N (.region id ops true) Q f H:=by
 simp only[Bool.and_eq_true] at a;exact uo hP.mx hP.by_ (aE P ops y R D e) a.1 a.2 h
section
variable {P:Program} {y:Ky} {R:List Nat} {D:LC P} {n:Nat} {K:Fr -> Hp -> Prop} {f:Fr} {H:Hp}
theorem LQ: SL (AE P ops y R D n) K [] f H=K f H:=rfl
theorem NH{o:Oper}{l:List Oper}: SL (AE P ops y R D n) K (o::l) f H=if isD n o=true then gd ops f o=some true/\qu P D H (zw P o f H) (λu H'=>SL (AE P ops y R D n) K l (zl f o.dst u) H')
  else(gd ops f o=some true->okS P y f o/\v9 y f o.op/\okR R f o.op)/\AG true P ops o f H (SL (AE P ops y R D n) K l):=rfl
theorem E5 {l:List Operand}{ts:Array TypeId}{c:Operand}{dst:Option Nat}{a:String}{g}: qu P D H (zw P ⟨dst,.call ⟨.value c,l.toArray,ts⟩,ty,a,af,g⟩ f H) k=qu P D H (acl P (ev f c::l.map (ev f))) k:=by
 simp[zw,yj,Op.operands,Call.operands,z8]
theorem E6 {g:Nat}{a as:List AV}: qu P D H (acl P (.fn g a::as)) k=qu P D H (.req (vQ P g) (.call g (as++a))) k:=rfl
theorem E7 {c:Prop}{e:Eff}: qu P D H (.req c e) k=(c/\qu P D H e k):=propext ⟨fun ⟨⟨a,b⟩,d⟩=>⟨a,b,d⟩,fun ⟨a,b,d⟩=>⟨⟨a,b⟩,d⟩⟩
end
theorem LR {n:Nat}{d:Option Nat}{op:Op}{a:String}{g}: isD n ⟨d,op,ty,a,af,g⟩=(d==some n):=rfl
attribute [go_sem] LQ NH E5 E6 E7 LR
theorem s9{D:LC P}{l:List AV}(hl:l=D.l D.ι)(a:sW D.ι H 0 (D.A D.ι))(h:∀q,k (D.v D.ι q) (hsi D.ι H 0 (D.A' D.ι q))): qu P D H (.call D.g l) k:=⟨⟨rfl,hl,a⟩,h⟩
theorem kT{c b:Code}(l:Nat)(F:List (Nat×AV))(d:List (Id×Ob))(p:findLabel c l=some b)
  (h:AW P X N c (jg l (λf H=>fle F f/\hle d H) Q) f H) (k:AW P X N b (m7 Q) (frl F) (hpl d)):AW P X N (.scope c) Q f H :=
 Rg l (λf H=>fle F f/\hle d H) p h λx H' ⟨m,o⟩=>λa w r=>by
  obtain⟨s,i⟩:=r.less m o;exact wp_mono (k a w s) λe v z ⟨j,g,q,t,u⟩=>⟨j,g,q,t,i.trans u⟩
theorem KG.wide{f n:Nat}{l:(Nat->Id)->List AV}{A:(Nat->Id)->List Ob}{v:(Nat->Id)->(Nat->Nat×Nat)->AV}{A' c:(Nat->Id)->(Nat->Nat×Nat)->List Ob}(h:KG P f n l A v A')(hn:∀ι q,(A' ι q).length<=n)(j:∀ι q,yy (A' ι q) (c ι q)): KG P f n l A v c:=λX w cl ι hi s i=>by
 refine Calls.mono (h X w cl ι hi s i) λe w' ⟨q,m,o,p,r,d⟩=>?_;have a:∀z,own (hpi ι (c ι q)) z->own (hpi ι (A' ι q)) z:=λz=>nJ hi (hn ι q) (j ι q);exact⟨q,m,o,p.wide λz y=>y.imp id (a z),dh hi hi (hn ι q) (j ι q) r,⟨d.os,d.tape,d.output,d.size,λb hb g=>⟨λy=>(d.block b hb g).1 (a b y),(d.block b hb g).2⟩⟩⟩
theorem uj{a:AV}{l l':List AV}(h:∀cs,RL X w l cs->RL X w l' cs): ∀cs,RL X w (a::l) cs->RL X w (.any::l') cs:=λcs k=>by
 simp only[RL] at k ⊢;obtain⟨c,r,e,_,b⟩:=k;exact⟨c,r,e,by simp only[RV],h _ b⟩
theorem ve{a:AV}{l l':List AV}(h:∀cs,RL X w l cs->RL X w l' cs): ∀cs,RL X w (a::l) cs->RL X w (a::l') cs:=λcs k=>by
 simp only[RL] at k ⊢;obtain⟨c,r,e,k1,b⟩:=k;exact⟨c,r,e,k1,h _ b⟩
theorem vw: ∀cs,RL X w [] cs->RL X w [] cs:=λ_ h=>h
theorem obq.one {b cap sz:Nat}{fz:Bool}{a c:List AV}(hl:c.length=a.length)(h:∀X w cs,RL X w a cs->RL X w c cs): obq ⟨b,cap,sz,ty,[a],fz⟩ ⟨b,cap,sz,ty,[c],fz⟩:=obq.row (rows:=[[]]) (r:=0) hl h
theorem SV.any{L:List Id}{a:AV}: SV H L a .any:=by
 intro X w u b h;simp only[RV]
theorem SA {ι:Nat->Id}{H:Hp}: ∀ {As:List Ob} {k j:Nat},j<As.length->hsi ι H k As (ι (k+j))≠none
 |o::As,k,0,_=>by simp[hsi,ze]
 |o::As,k,j+1,h=>by
  simp only[hsi,ze];split
  ·simp
  ·have:=SA (ι:=ι) (H:=H) (As:=As) (k:=k+1) (j:=j) (by simpa using h)
   rwa[show k+1+j=k+(j+1) by omega] at this
def UN (P:Program)(ops:Array Oper)(y:Ky)(R:List Nat)(e:Nat)(k i:Oper): Bool:=UK P ops y R e k i||(isD e k&&!isD e i&&k.apart ops i&&(zm k.op==3)&&(zm i.op==0||zm i.op==2||iF R i))
theorem LT (P:Program)(ops:Array Oper)(y:Ky)(R:List Nat)(D:LC P)(e:Nat): vu P ops (AE P ops y R D e) (UN P ops y R e):=⟨(aE P ops y R D e).mono,(aE P ops y R D e).as,fun {k i f H K} hm h=>by
  unfold UN at hm;rw[Bool.or_eq_true] at hm;rcases hm with hm|hm
  ·exact(aE P ops y R D e).swap hm h
  simp only[Bool.and_eq_true,Bool.or_eq_true,beq_iff_eq,Bool.not_eq_true'] at hm;obtain⟨⟨⟨⟨hk,hi⟩,L⟩,S⟩,O⟩:=hm;obtain⟨d,t,m⟩:=Oper.apart_spec L;simp only[AE,hk,hi,if_true,if_false,Bool.false_eq_true] at h ⊢;obtain⟨V,F,W⟩:=h;have G:Nat->Nat×Nat:=λ_=>(0,0)
  have cond:gd ops f i=some true->okS P y f i/\v9 y f i.op/\okR R f i.op:=λo=>by
   have:=(W G).1 (by rw[yM d];exact o)
   exact⟨(wZ d).1 this.1,(rP d).1 this.2.1,(pK d).1 this.2.2⟩
  have x:∀u,VO P ops i f H u->(∀q,K (zl (zl f k.dst (D.v D.ι q)) i.dst u) (hsi D.ι H 0 (D.A' D.ι q)))->AD P ops i f H (λJ H'=>gd ops J k=some true/\qu P D H' (zw P k J H') (λu I=>K (zl J k.dst u) I)):=λu C E=>by
   rw[zj];refine Or.inl ⟨u,C,by rw[yM m];exact V,?_,λq=>by show K _ _;rw[<-zy t];exact E q⟩;unfold zw at F ⊢;rw[x8 m];exact F
  have a:∀q,(∃u,VO P ops i f (hsi D.ι H 0 (D.A' D.ι q)) u/\K (zl (zl f k.dst (D.v D.ι q)) i.dst u) (hsi D.ι H 0 (D.A' D.ι q))) \/
    ∃B ob v',MO P ops i f (hsi D.ι H 0 (D.A' D.ι q)) B ob v'/\∀b c,K (zl (zl f k.dst (D.v D.ι q)) i.dst (v' b c)) (ze (hsi D.ι H 0 (D.A' D.ι q)) B (ob b c)):=λq=>by
   rcases zj.1 (W q).2 with⟨u,C,E⟩|⟨B,s,v',C,E⟩
   ·exact Or.inl ⟨u,(yx d).1 C,E⟩
   ·exact Or.inr ⟨B,s,v',(y7 d).1 C,E⟩
  refine⟨cond,?_⟩;by_cases o:gd ops f i=some true
  case neg =>
   have A:∀q,gd ops f i=some false/\K (zl (zl f k.dst (D.v D.ι q)) i.dst nul) (hsi D.ι H 0 (D.A' D.ι q)):=λq=>by
    rcases a q with⟨u,(z|z),w⟩|⟨_,_,_,z,_⟩
    ·rw[z.2] at w;exact⟨z.1,w⟩
    ·exact absurd z.1 o
    ·exact absurd z.1 o
   exact x nul (Or.inl ⟨(A G).1,rfl⟩) λq=>(A q).2
  rcases O with(c|c)|c
  case inl.inr =>
   have hm:∀q,∃ob v',MO P ops i f H (.l (i.dst.getD 0)) ob v'/\(∀j,j<D.n->D.ι j≠.l (i.dst.getD 0))/\∀b c,K (zl (zl f k.dst (D.v D.ι q)) i.dst (v' b c)) (ze (hsi D.ι H 0 (D.A' D.ι q)) (.l (i.dst.getD 0)) (ob b c)):=λq=>by
    rcases a q with⟨u,(z|z),_⟩|⟨B,s,v',z,w⟩
    ·rw[o] at z;cases z.1
    ·exact absurd z.2 ((wN c).1 _)
    ·obtain⟨w1,w2,U,w4⟩:=(wN c).2 _ _ _ z.2;subst w1;have g:∀j,j<D.n->D.ι j≠.l (i.dst.getD 0):=λj p M=>by
      have:=SA (ι:=D.ι) (H:=H) (As:=D.A' D.ι q) (k:=0) (j:=j) (by rw[D.hn];exact p)
      rw[Nat.zero_add,M] at this;exact this U
     have hn:H (.l (i.dst.getD 0))=none:=by
      rw[rR λj p=>by rw[D.hn] at p;rw[Nat.zero_add];exact g j p] at U;exact U
     exact⟨s,v',⟨o,w4 H hn⟩,g,w⟩
   obtain⟨T,v0,Z,g,_⟩:=hm G;rw[zj];refine Or.inr ⟨_,T,v0,Z,λb c=>⟨by rw[yM m];exact V,?_,λq=>?_⟩⟩
   ·unfold zw at F ⊢;rw[x8 m,Zj (H':=H) S];exact YD (λj p=>by unfold ze;rw[if_neg (g j p)]) F
   ·obtain⟨h4,v1,m1,_,w⟩:=hm q;obtain⟨_,rfl,rfl⟩:=uy Z.2 m1.2;show K _ _;rw[<-zy t,<-nB λj p=>by rw[D.hn] at p;rw[Nat.zero_add];exact g j p];exact w b c
  all_goals
   have M:∃e:Eff,NM e/\∀H,zw P i f H=e:=by
    first
     |exact⟨zw P i f (λ_=>none),wt (Or.inl c),λH=>qG _ c⟩
     |exact nS c (cond o).2.2
   obtain⟨e1,n1,r⟩:=M;have A:∀q,∃u,e1.Y P H u/\K (zl (zl f k.dst (D.v D.ι q)) i.dst u) (hsi D.ι H 0 (D.A' D.ι q)):=λq=>by
    rcases a q with⟨u,(z|z),w⟩|⟨_,_,_,z,_⟩
    ·rw[o] at z;cases z.1
    ·have:=z.2;rw[r] at this;exact⟨u,n1.y _ this,w⟩
    ·have:=z.2;rw[r] at this;exact absurd this (n1.mk _ _ _)
   obtain⟨u,y1,_⟩:=A G;refine x u (Or.inr ⟨o,by rw[r];exact y1⟩) λq=>?_;obtain⟨u2,y2,w⟩:=A q;rw[n1.uniq _ _ y1 y2];exact w⟩
theorem uE(hP:wI P)(y:Ky)(R:List Nat)(D:LC P)(e:Nat){id:Nat}(a:(ur N ops&&tz (UN P ops y R e) ops)=true)
  (h:SL (AE P ops y R D e) (Q .normal) ops.toList f H):AW P X N (.region id ops true) Q f H:=by
 simp only[Bool.and_eq_true] at a;exact uo hP.mx hP.by_ (LT P ops y R D e) a.1 a.2 h
def qw (a:List Nat)(row:List AV): List AV:=a.foldr (λj r=>r.set j .any) row
theorem LU{i:Id}{o a:Ob}: ze (ze H i o) i a=ze H i a:=by
 funext j
 unfold ze;split<;>rfl
theorem VK{c:Code}(b:List Nat)(i:Id){o:Ob}{row:List AV}(hi:H i=some o)(d:o.rows[0]?=some row)
  (k:AW P X N c Q f (ze H i { o with rows:=o.rows.set 0 (qw b row) })):AW P X N c Q f H:=by
 have m:0<o.rows.length:=by
  rcases Nat.lt_or_ge 0 o.rows.length with h|h
  ·exact h
  ·rw[List.getElem?_eq_none h] at d;cases d
 induction b with
 |nil =>
  have e:o.rows.set 0 (qw [] row)=o.rows:=by
   apply List.ext_getElem?;intro n;rw[List.getElem?_set];split
   ·rename_i h;subst h;rw[d];rfl
   ·rfl
  rw[e] at k;have l:({ o with rows:=o.rows }:Ob)=o:=rfl;rw[l,wS hi] at k;exact k
 |cons j b ih =>
  apply ih;by_cases g:j<(qw b row).length
  ·refine y8 [] i 0 j (o:={ o with rows:=o.rows.set 0 (qw b row) }) (row:=qw b row) (a:=(qw b row)[j]) (v:=.any) (by simp[ze]) (by simp[m]) (List.getElem?_eq_getElem g) (by simp) SV.any ?_;rw[sM,LU,List.set_set];exact k
  ·have e:qw (j::b) row=qw b row:=List.set_eq_of_length_le (Nat.le_of_not_lt g);rw[e] at k;exact k
end Go.Proofs.YtllodfoldffonaaGreatDoor.AM
