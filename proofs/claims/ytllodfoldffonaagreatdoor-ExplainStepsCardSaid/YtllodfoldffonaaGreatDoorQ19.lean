/- A part of the proof. -/
import Derived.Test.YtllodfoldffonaaGreatDoorQ14
namespace Go.Proofs.YtllodfoldffonaaGreatDoor.AM
open Go.RowKit
set_option linter.unusedSimpArgs false
set_option linter.unusedVariables false
set_option maxRecDepth 100000
set_option maxHeartbeats 16000000
variable {A:(Nat->Id)->(Nat->Nat×Nat)->List Ob}{A':(Nat->Id)->(Nat->Nat×Nat)->List Ob}{C:List Nat}{E:List Id}{H:Hp}{K:Fr->Hp->Prop}{L:List Id}{N:Nat}{P:Program}{Q:AQ}{X:Nat->Prop}{d:Nat}{f:Fr}{i:Id}{id:Nat}{k:AV->Hp->Prop}{l:List AV}{o:Oper}{ops:Array Oper}{rows:List (List AV)}{v:(Nat->Id)->(Nat->Nat×Nat)->AV}{y:Ky}{ι:Nat->Id}
theorem KG.k1{f n:Nat}{v':AV}(h:KG P f n (λ_=>l) (λ_=>[]) v A')
  (p:∀q,yK (hpi ιu (A' ιu q)) [] (v ιu q) v'):K1 P f l v':=λX w cl m c =>
 (h X w cl ιu ιu_inj (gD m) (vP (λb q=>q.resolve_right uG) c)).mono λe w' ⟨q,g,j,k1,r,a⟩ =>
  ⟨g,j,(sN r (p q) k1).wide λz q=>Or.inl q,⟨a.os,a.tape,a.output,a.size,λb hb _=>⟨id,(a.block b hb uG).2⟩⟩⟩
theorem K1.kg{f:Nat}{v:AV}(h:K1 P f l v): KG P f 0 (λ_=>l) (λ_=>[]) (λ_ _=>v) (λ_ _=>[]):=λX w cl ι _ c g=>by
 have hn:∀b,¬own (hpi ι []) b:=λb=>uG;refine(h X w cl ⟨c.xs,c.gl.wide λb hb=>Or.inl hb⟩ (vP (λb hb=>Or.inl hb) g)).mono λe w' ⟨j,m,k1,a⟩=>⟨λ_=>(0,0),j,m,k1.wide λb hb=>hb.resolve_right (hn b),c.grown a λi o hi=>⟨o,hi,rfl,rfl,rfl,rfl,rfl,id⟩,a.os,a.tape,a.output,a.size,λb hb q=>⟨q,(a.block b hb (by simp)).2⟩⟩
def ug:List Id->Hp->Hp
 |[],H=>H
 |i::L,H=>qH (ug L H) i
theorem I8: ug [] H=H:=rfl
theorem I9: ug (i::L) H=qH (ug L H) i:=rfl
attribute [go_sem] I8 I9
theorem mW:∀ {L:List Id} {H:Hp} {i:Id} {o:Ob},ug L H i=some o->i∉L/\H i=some o
 |[],H,i,o,h=>⟨by simp,h⟩
 |j::L,H,i,o,h=>by
  simp only[ug,qH] at h;split at h
  ·cases h
  ·rename_i e;obtain⟨a,b⟩:=mW h;exact⟨by simp[e,a],b⟩
theorem cY{b:Nat}(h:own (ug L H) b): own (frz L H) b:=by
 obtain⟨i,o,a,c,e,g⟩:=h;obtain⟨k1,j⟩:=mW a;exact⟨i,o,by unfold frz;rw[if_neg k1];exact j,c,e,g⟩
theorem Q6{w:World}: Ev (own H) w (own (ug L H)) w:=⟨rfl,rfl,rfl,Nat.le_refl _,λb _ h=>⟨λk=>h (x7 (cY k)),rfl⟩⟩
theorem mX{f:Nat}{l l':List AV}{K:AV->Hp->Prop}(L:List Id)(hs:SVL H L l l')(h:wu false P f l' (ug L H) K): wu false P f l H K:=λX w cl c a=>by
 have j:=hs.rl c a;have n:HOk X (ug L H) w:=c.grown (Ev.refl _ _) λi o h=>⟨o,(mW h).2,rfl,rfl,rfl,rfl,rfl,id⟩
 have m:RL (zp X (ug L H)) w l' cl:=vP (λb hb=>hb.imp id cY) j;exact(h X w cl n m).mono λe w' ⟨v,H',g,p,q,r,s,t⟩=>⟨v,H',g,p,q,r,s,Q6.trans t⟩
theorem L0{f n:Nat}{l l':List AV}{K:AV->Hp->Prop}(L:List Id)(ι:Nat->Id)
  (h:KG P f n (λ_=>l') (λ_=>[]) v A') (hi:vX n ι) (hn:∀q,(A' ι q).length=n) (hfz:∀q,(A' ι q).all (λo=>!o.fz)=true) (hs:SVL H L l l') (a:wv ι (ug L H) 0 n)
  (k:∀q,K (v ι q) (hsi ι (ug L H) 0 (A' ι q))):wu false P f l H K :=
 mX L hs (Ua (l':=λ_=>l') (A:=λ_=>[]) ι 0 n h hi rfl (by omega) hn hfz trivial a AR.refl k)
theorem L4{f:Nat}{l l':List AV}{v:AV}{K:AV->Hp->Prop}(L:List Id)(h:K1 P f l' v)(hs:SVL H L l l')(k:K v (ug L H)): wu false P f l H K :=
 mX L hs (zd h k)
theorem IA{k:Nat}: wv ι H k 3=(H (ι k)=none/\H (ι (k+1))=none/\H (ι (k+2))=none):=by simp[wv]
theorem IB{k:Nat}: wv ι H k 4=(H (ι k)=none/\H (ι (k+1))=none/\H (ι (k+2))=none/\H (ι (k+3))=none):=by simp[wv]
theorem Er {a b c d:Id}: ji (a::b::c::d::L) 3=d:=rfl
attribute [go_sem] IA IB Er
theorem SV.fz{b sz n cap:Nat}{o:Ob}(m:H i=some o)(a:o.b=b)(c:o.cap=cap)(e:o.sz=sz)(g:n<=o.rows.length)(h:o.fz=true)(j:o.rows.take n=rows): SV H L (.sl i b sz n cap) (.vec sz rows) :=
 bW (j▸Or.inr (Or.inr ⟨i,b,sz,n,cap,o,rfl,m,a,c,e,g,Or.inr h,rfl⟩))
def dk (d:Nat): Nat->Id:=λk=>.s k (.l d)
theorem Es {d k:Nat}: dk d k = .s k (.l d):=rfl
attribute [go_sem] Es
theorem Yq {d n:Nat}: vX n (dk d):=λj _ k _ e=>by unfold dk at e;injection e
theorem rR {ι:Nat->Id}{H:Hp}{i:Id}: ∀ {As:List Ob} {k:Nat},(∀j,j<As.length->ι (k+j)≠i)->hsi ι H k As i=H i
 |[],k,_=>rfl
 |o::As,k,h=>by
  simp only[hsi,ze];rw[if_neg (λe=>h 0 (by simp) e.symm)];exact rR λj a=>by have:=h (j+1) (by simpa using a);rwa[show k+(j+1)=k+1+j by omega] at this
theorem iL {ι:Nat->Id}{H:Hp}{i:Id}{o:Ob}: ∀ {As:List Ob} {k:Nat},(∀j,ι j≠i)->ze (hsi ι H k As) i o=hsi ι (ze H i o) k As
 |[],k,_=>rfl
 |p::As,k,h=>by
  simp only[hsi];rw[<-iL h,vB (h k)]
theorem Pv {d x:Nat}: ∀j,dk d j≠.l x:=λj e=>by unfold dk at e;cases e
theorem Sj{As:List Ob}{k:Nat}(h:∀j,j<As.length->H (ι (k+j))=none): HLe H (hsi ι H k As):=λi o hi=>by
 rw[rR λj a e=>by rw[<-e,h j a] at hi;cases hi];exact hi
structure rS (n:Nat)(A:(Nat->Id)->(Nat->Nat×Nat)->List Ob): Prop where
 len:∀ι q,(A ι q).length=n
 fz:∀ι q,(A ι q).all (λo=>!o.fz)=true
 at_:∀ι q,(A ι q).map Ob.b=(List.range n).map λj=>(q j).1
theorem rS.b {n:Nat}(h:rS n A){q:Nat->Nat×Nat}{j:Nat}{o:Ob}(e:(A ι q)[j]?=some o): o.b=(q j).1:=by
 have c:=(List.getElem?_eq_some_iff.1 e).1;rw[h.len] at c;have a:((A ι q).map Ob.b)[j]?=some o.b:=by rw[List.getElem?_map,e];rfl
 rw[h.at_,List.getElem?_map,List.getElem?_range c] at a;injection a with a;exact a.symm
theorem fH{d n:Nat}{op:Op}(s:zm op=1)(v:rS n A)(hi:vX n ι)
  (h:∀q,∃u,(z8 P d (hsi ι H 0 (A ι q)) op l).Y P (hsi ι H 0 (A ι q)) u):∀q,z8 P d (hsi ι H 0 (A ι q)) op l=z8 P d H op l:=by
 cases op<;>simp[zm] at s
 ·rename_i t x;match l,h with
  |[],h=>exact λ_=>rfl
  |_::_::_,h=>exact λ_=>rfl
  |[p],h =>
   intro q;show yT P t (hsi ι H 0 (A ι q)) p=yT P t H p;have D:xS (hsi ι H 0 (A ι q)) p=xS H p:=by
    cases p<;>try rfl
    rename_i j g sz r o;simp only[xS];by_cases e:∃k,k<n/\ι k=j
    ·obtain⟨k,z,rfl⟩:=e;have w:k<(A ι λ_=>(g+1,0)).length:=by rw[v.len];exact z
     have I:hsi ι H 0 (A ι λ_=>(g+1,0)) (ι k)=some (A ι λ_=>(g+1,0))[k]:=by
      have:=dg (ι:=ι) (H:=H) (k:=0) (j:=k) (As:=A ι λ_=>(g+1,0)) (λa b _ _ s G e=>hi a (by rw[v.len] at s;omega) b (by rw[v.len] at G;omega) e) (List.getElem?_eq_getElem w)
      rwa[Nat.zero_add] at this
     have B:(A ι λ_=>(g+1,0))[k].b=g+1:=v.b (List.getElem?_eq_getElem w);obtain⟨u,J⟩:=h λ_=>(g+1,0)
     have m:(yT P t (hsi ι H 0 (A ι λ_=>(g+1,0))) (.ptr (ι k) g sz r o)).Y P (hsi ι H 0 (A ι λ_=>(g+1,0))) u:=J;unfold yT at m;have:xS (hsi ι H 0 (A ι λ_=>(g+1,0))) (.ptr (ι k) g sz r o)=none:=by
      simp only[xS,I];rw[if_neg (by rw[B];omega)]
     rw[this] at m;exact m.elim
    ·rw[rR λk z F=>e ⟨k,by rw[v.len] at z;exact z,by rw[Nat.zero_add] at F;exact F⟩]
   unfold yT;rw[D]
 ·rename_i c;obtain⟨callee,args,ts⟩:=c;cases callee<;>simp at s;rename_i b;cases b<;>simp at s
theorem Sk{p:AV}: xS (frz L H) p=xS H p:=by
 cases p<;>try rfl
 rename_i i b sz r j;simp only[xS,frz];by_cases e:i∈L
 ·rw[if_pos e];cases H i<;>rfl
 ·rw[if_neg e]
theorem mY{op:Op}(h:zm op=0\/zm op=1): z8 P d (frz L H) op l=z8 P d H op l:=by
 rcases h with h|h
 ·exact qG _ h
 ·cases op<;>simp[zm] at h
  ·rename_i t x;match l with
   |[]=>rfl
   |_::_::_=>rfl
   |[p] =>
    show yT P t (frz L H) p=yT P t H p;unfold yT;rw[Sk]
  ·rename_i c;obtain⟨callee,args,ts⟩:=c;cases callee<;>simp at h;rename_i b;cases b<;>simp at h
theorem o9: frz L H i=none↔H i=none:=by
 unfold frz;split
 ·simp
 ·rfl
theorem Yr{o:Ob}(h:i∉L): frz L (ze H i o)=ze (frz L H) i o:=by
 funext j
 unfold frz ze;by_cases e:j=i
 ·subst e;simp[h]
 ·simp[e]
theorem L5{a b:AV}(h:sv H L a b): sv (frz L H) [] a b:=by
 rcases h with h|h|⟨i,g,sz,n,cap,o,j,m,p,q,r,s,u,t⟩
 ·exact Or.inl h
 ·exact Or.inr (Or.inl h)
 ·by_cases e:i∈L
  ·exact Or.inr (Or.inr ⟨i,g,sz,n,cap,{ o with fz:=true },j,by unfold frz;rw[if_pos e,m];rfl,p,q,r,s,Or.inr rfl,t⟩)
  ·exact Or.inr (Or.inr ⟨i,g,sz,n,cap,o,j,by unfold frz;rw[if_neg e,m],p,q,r,s,u.imp (λc=>absurd c e) id,t⟩)
theorem Vj {H:Hp}{L:List Id}: ∀ {l l':List AV},svl H L l l'->svl (frz L H) [] l l'
 |[],l',h=>by simpa only[svl] using h
 |a::l,l',h=>by
  simp only[svl] at h ⊢;obtain⟨b,r,e,c,g⟩:=h;exact⟨b,r,e,L5 c,Vj g⟩
def mkK (P:Program)(H:Hp)(L:List Id)(n:Nat)(v:(Nat->Id)->(Nat->Nat×Nat)->AV)(A:(Nat->Id)->(Nat->Nat×Nat)->List Ob): Eff->Prop
 |.req c e=>c/\mkK P H L n v A e
 |.call g l=>∃l',KG P g n (λ_=>l') (λ_=>[]) v A/\svl H L l l'
 |_=>False
theorem Ys {P:Program}{H H':Hp}(hle:HLe H H'){L:List Id}{n:Nat}{v:(Nat->Id)->(Nat->Nat×Nat)->AV}{A:(Nat->Id)->(Nat->Nat×Nat)->List Ob}: ∀ {e:Eff},mkK P H L n v A e->mkK P H' L n v A e
 |.req _ e,h=>⟨h.1,Ys hle (e:=e) h.2⟩
 |.call _ _,⟨l',h1,h2⟩=>⟨l',h1,h2.le hle⟩
theorem Yt {P:Program}{H:Hp}{L:List Id}{n d:Nat}{v:(Nat->Id)->(Nat->Nat×Nat)->AV}{A:(Nat->Id)->(Nat->Nat×Nat)->List Ob}{K:AV->Hp->Prop}(a:rS n A)(hn:∀j,j<n->H (dk d j)=none)(k:∀q,K (v (dk d) q) (hsi (dk d) (frz L H) 0 (A (dk d) q))):
  ∀ {e:Eff},mkK P H L n v A e->e.st P H K
 |.req _ e,h=>⟨h.1,Yt a hn k (e:=e) h.2⟩
 |.call g l,⟨l',h1,h2⟩=>by
  have hs:=pE (Vj h2);refine rF L ?_;exact QY (dk d) h1 Yq rfl (Nat.zero_le n) (λq=>a.len _ q) (λj o c=>by simp at c) (λj _ c=>o9.2 (hn j c)) (λq=>a.fz _ q) (λX w cl m b=>by have:=hs.rl m b;rwa[sM] at this) k
def AK (P:Program)(ops:Array Oper)(y:Ky)(C:List Nat)(o:Oper)(f:Fr)(H:Hp)(K:Fr->Hp->Prop): Prop:=if isC C o=true then
  gd ops f o=some true/\∃L n v A,rS n A/\(∀i,i∈L->H i≠none)/\(∀j,j<n->H (dk (o.dst.getD 0) j)=none)/\mkK P H L n v A (zw P o f H)/\∀q,K (zl f o.dst (v (dk (o.dst.getD 0)) q)) (hsi (dk (o.dst.getD 0)) (frz L H) 0 (A (dk (o.dst.getD 0)) q))
 else AX P ops y o f H K
theorem AK.as(h:AK P ops y C o f H K): AS P ops o f H K:=by
 unfold AK at h;split at h
 ·obtain⟨a,L,n,v,A,j,m,b,c,g⟩:=h;unfold AS;rw[a];exact⟨λ_=>Yt j b g c,λe=>by cases e⟩
 ·exact h.2.as
theorem AK.mono{K a:Fr->Hp->Prop}(h:AK P ops y C o f H K)(k:∀f H,K f H->a f H): AK P ops y C o f H a:=by
 unfold AK at *;split at h<;>rename_i b
 ·rw[if_pos b];obtain⟨c,L,n,v,A,m,p,e,g,j⟩:=h;exact⟨c,L,n,v,A,m,p,e,g,λq=>k _ _ (j q)⟩
 ·rw[if_neg b];exact⟨h.1,h.2.mono k⟩
theorem IC (P:Program)(ops:Array Oper)(y:Ky)(C:List Nat): vu P ops (AK P ops y C) (de P ops y C):=⟨λh k=>h.mono k,λh=>h.as,fun {k i f H K} hm h=>by
 unfold de at hm;by_cases r:isC C k=true
 ·-- the call first
  rw[if_pos r] at hm;simp only[Bool.and_eq_true,Bool.not_eq_true',decide_eq_true_eq,beq_iff_eq] at hm;obtain⟨⟨⟨p,U⟩,hd⟩,h9⟩:=hm;obtain⟨b,G,m⟩:=Oper.apart_spec U;unfold AK at h ⊢;rw[if_pos r] at h;rw[if_neg (by rw[p];simp)];simp only[p,Bool.false_eq_true,if_false] at h;obtain⟨h1,L,n,v,A,Z,hL,h2,h3,h4⟩:=h;generalize h6:dk (k.dst.getD 0)=ι at *;have V:∀x j,ι j≠.l x:=λx=>by rw[<-h6];exact Pv
  have h8:vX n ι:=by rw[<-h6];exact Yq
  have q0:Nat->Nat×Nat:=λ_=>(0,0)
  have ha:gd ops f i=some true->okS P y f i:=λt=>(wZ b).1 ((h4 q0).1 (by rw[yM b];exact t));refine⟨ha,?_⟩;have hb:∀x,H (.l x)=none->Id.l x∉L:=λx hx c=>hL _ c hx;have T:∀ui,VO P ops i f H ui->(∀q,K (zl (zl f k.dst (v ι q)) i.dst ui) (hsi ι (frz L H) 0 (A ι q)))->AD P ops i f H (λf' H'=>if isC C k=true then gd ops f' k=some true/\∃L n v A,rS n A/\(∀i,i∈L->H' i≠none)/\(∀j,j<n->H' (ι j)=none)/\mkK P H' L n v A (zw P k f' H')/\∀q,K (zl f' k.dst (v ι q)) (hsi ι (frz L H') 0 (A ι q)) else AX P ops y k f' H' K):=λui s B=>by
   rw[zj];refine Or.inl ⟨ui,s,?_⟩;rw[if_pos r];refine⟨by rw[yM m];exact h1,L,n,v,A,Z,hL,h2,?_,λq=>by rw[<-zy G];exact B q⟩;unfold zw at h3 ⊢;rw[x8 m];exact h3
  by_cases h5:zm i.op=2
  ·have W:∀q,(∃u,VO P ops i f (hsi ι (frz L H) 0 (A ι q)) u/\K (zl (zl f k.dst (v ι q)) i.dst u) (hsi ι (frz L H) 0 (A ι q))) \/
     ∃J a v',MO P ops i f (hsi ι (frz L H) 0 (A ι q)) J a v'/\∀O S,K (zl (zl f k.dst (v ι q)) i.dst (v' O S)) (ze (hsi ι (frz L H) 0 (A ι q)) J (a O S)):=λq=>by
    rcases zj.1 (h4 q).2 with⟨u,s,B⟩|⟨J,a,v',s,B⟩
    ·exact Or.inl ⟨u,(yx b).1 s,B⟩
    ·exact Or.inr ⟨J,a,v',(y7 b).1 s,B⟩
   by_cases t:gd ops f i=some true
   ·have hm:∀q,∃a v',MO P ops i f H (.l (i.dst.getD 0)) a v'/\H (.l (i.dst.getD 0))=none /\
      ∀O S,K (zl (zl f k.dst (v ι q)) i.dst (v' O S)) (ze (hsi ι (frz L H) 0 (A ι q)) (.l (i.dst.getD 0)) (a O S)):=λq=>by
     rcases W q with⟨u,(z|z),_⟩|⟨J,a,v',z,w⟩
     ·rw[t] at z;cases z.1
     ·exact absurd z.2 ((wN h5).1 _)
     ·obtain⟨w1,w2,w3,w4⟩:=(wN h5).2 _ _ _ z.2;subst w1;have hn:H (.l (i.dst.getD 0))=none:=by rw[rR λj _=>V _ _,o9] at w3;exact w3
      exact⟨a,v',⟨t,w4 H hn⟩,hn,w⟩
    obtain⟨hc,v0,m0,n0,_⟩:=hm q0;rw[zj];refine Or.inr ⟨_,hc,v0,m0,λO S=>?_⟩;rw[if_pos r];refine⟨by rw[yM m];exact h1,L,n,v,A,Z,λJ h7=>?_,λj hj=>?_,?_,λq=>?_⟩
    ·show ze _ _ _ _≠_;unfold ze;split
     ·simp
     ·exact hL J h7
    ·show ze _ _ _ _=_;unfold ze;rw[if_neg (V _ j)];exact h2 j hj
    ·unfold zw at h3 ⊢;rw[x8 m,Zj (H':=H) h9];exact Ys (HLe.set n0 _) h3
    ·obtain⟨a,v',m1,_,w⟩:=hm q;obtain⟨_,rfl,rfl⟩:=uy m0.2 m1.2;rw[<-zy G,Yr (hb _ n0),<-iL (V _)];exact w O S
   ·have M:∀q,gd ops f i=some false/\K (zl (zl f k.dst (v ι q)) i.dst nul) (hsi ι (frz L H) 0 (A ι q)):=λq=>by
     rcases W q with⟨u,(z|z),w⟩|⟨_,_,_,z,_⟩
     ·rw[z.2] at w;exact⟨z.1,w⟩
     ·exact absurd z.1 t
     ·exact absurd z.1 t
    exact T nul (Or.inl ⟨(M q0).1,rfl⟩) λq=>(M q).2
  have F:zm i.op=0\/zm i.op=1:=(by omega)
  have I:NM (z8 P (i.dst.getD 0) H i.op (yj f i)):=wt F;have W:∀q,∃u,VO P ops i f (hsi ι (frz L H) 0 (A ι q)) u/\K (zl (zl f k.dst (v ι q)) i.dst u) (hsi ι (frz L H) 0 (A ι q)):=λq=>by
   rcases zj.1 (h4 q).2 with⟨u,s,B⟩|⟨J,a,v',s,B⟩
   ·exact⟨u,(yx b).1 s,B⟩
   ·exact absurd ((y7 b).1 s).2 ((wt F).mk _ _ _)
  cases t:gd ops f i with
  |none =>
   obtain⟨u,(z|z),_⟩:=W q0
   ·rw[t] at z;cases z.1
   ·rw[t] at z;cases z.1
  |some g =>
   cases g with
   |false =>
    refine T nul (Or.inl ⟨t,rfl⟩) λq=>?_;obtain⟨u,(z|z),B⟩:=W q
    ·rw[z.2] at B;exact B
    ·rw[t] at z;cases z.1
   |true =>
    have hy:∀q,∃u,(z8 P (i.dst.getD 0) (hsi ι (frz L H) 0 (A ι q)) i.op (yj f i)).Y P (hsi ι (frz L H) 0 (A ι q)) u/\K (zl (zl f k.dst (v ι q)) i.dst u) (hsi ι (frz L H) 0 (A ι q)):=λq=>by
     obtain⟨u,(z|z),B⟩:=W q
     ·rw[t] at z;cases z.1
     ·exact⟨u,z.2,B⟩
    have he:∀q,z8 P (i.dst.getD 0) (hsi ι (frz L H) 0 (A ι q)) i.op (yj f i)=z8 P (i.dst.getD 0) H i.op (yj f i):=by
     rcases F with e|e
     ·exact λq=>qG _ e
     ·exact λq=>(fH e Z h8 (λq=>by obtain⟨u,z,_⟩:=hy q;exact⟨u,z⟩) q).trans (mY (Or.inr e))
    obtain⟨u0,w1,_⟩:=hy q0;rw[he] at w1;refine T u0 (Or.inr ⟨t,I.y _ w1⟩) λq=>?_;obtain⟨u,w2,w3⟩:=hy q;rw[he] at w2;rw[I.uniq (P:=P) (H:=H) _ _ (I.y _ w1) (I.y _ w2)];exact w3
 ·rw[if_neg r] at hm;by_cases p:isC C i=true
  ·rw[if_pos p] at hm;simp only[Bool.and_eq_true,decide_eq_true_eq,beq_iff_eq] at hm;obtain⟨⟨U,hi⟩,hf⟩:=hm;obtain⟨b,G,m⟩:=Oper.apart_spec U;have D:zm k.op=0\/zm k.op=1:=(by omega)
   unfold AK at h ⊢;rw[if_neg r] at h;rw[if_pos p];simp only[p,r,if_true,Bool.false_eq_true,if_false] at h ⊢;rcases zj.1 h.2 with⟨u,s,B⟩|⟨J,a,v',s,_⟩
   ·obtain⟨p1,L,n,v,A,Z,hL,p2,p3,p4⟩:=B;refine⟨by rw[yM b] at p1;exact p1,L,n,v,A,Z,hL,p2,?_,λq=>⟨λt=>?_,?_⟩⟩
    ·unfold zw at p3 ⊢;rw[x8 b] at p3;exact p3
    ·rw[yM m] at t;exact(wZ m).2 (h.1 t)
    ·rw[zj];refine Or.inl ⟨u,(yx m).2 ?_,by rw[<-zy G];exact p4 q⟩;rcases s with s|⟨s,q3⟩
     ·exact Or.inl s
     ·refine Or.inr ⟨s,aU (H:=frz L H) (D.imp id Or.inl) (Sj λj hj=>by rw[Nat.zero_add];exact o9.2 (p2 j (by rw[Z.len] at hj;exact hj))) ?_⟩;rw[mY D];exact(wt D).y _ q3
   ·exact absurd s.2 ((wt D).mk _ _ _)
  ·rw[if_neg p] at hm;unfold AK at h ⊢;simp only[p,r,Bool.false_eq_true,if_false] at h ⊢;exact(bY P ops y).swap hm h⟩
theorem uq(hP:wI P)(y:Ky)(C:List Nat)(a:(ur N ops&&tz (de P ops y C) ops)=true)
  (h:SL (AK P ops y C) (Q .normal) ops.toList f H):AW P X N (.region id ops true) Q f H:=by
 simp only[Bool.and_eq_true] at a;exact uo hP.mx hP.by_ (IC P ops y C) a.1 a.2 h
def t5 (P:Program)(H:Hp)(d:Nat)(e:Eff)(k:AV->Hp->Prop): Prop:=∃L n v A,rS n A/\(∀i,i∈L->H i≠none)/\(∀j,j<n->H (dk d j)=none)/\mkK P H L n v A e/\∀q,k (v (dk d) q) (hsi (dk d) (frz L H) 0 (A (dk d) q))
section
variable {P:Program} {y:Ky} {C:List Nat} {K:Fr -> Hp -> Prop} {f:Fr} {H:Hp}
theorem L6: SL (AK P ops y C) K [] f H=K f H:=rfl
theorem N3{l:List Oper}: SL (AK P ops y C) K (o::l) f H=if isC C o=true then gd ops f o=some true/\t5 P H (o.dst.getD 0) (zw P o f H) (λu H'=>SL (AK P ops y C) K l (zl f o.dst u) H')
  else(gd ops f o=some true->okS P y f o)/\AG true P ops o f H (SL (AK P ops y C) K l):=rfl
theorem Et{l:List Operand}{ts:Array TypeId}{c:Operand}{dst:Option Nat}{ty:TypeId}{a:String}{b:Array Edge}{g}: t5 P H d (zw P ⟨dst,.call ⟨.value c,l.toArray,ts⟩,ty,a,b,g⟩ f H) k=t5 P H d (acl P (ev f c::l.map (ev f))) k:=by
 simp[zw,yj,Op.operands,Call.operands,z8]
theorem Eu {d g:Nat}{a as:List AV}: t5 P H d (acl P (.fn g a::as)) k=t5 P H d (.req (vQ P g) (.call g (as++a))) k:=rfl
theorem Ew{c:Prop}{e:Eff}: t5 P H d (.req c e) k=(c/\t5 P H d e k):=by
 unfold t5;apply propext;constructor
 ·rintro⟨L,n,v,A,b,j,g,a,h⟩;have a:c/\mkK P H L n v A e:=a;exact⟨a.1,L,n,v,A,b,j,g,a.2,h⟩
 ·rintro⟨m,L,n,v,A,b,j,g,a,h⟩;exact⟨L,n,v,A,b,j,g,(show c/\mkK P H L n v A e from⟨m,a⟩),h⟩
end
theorem L7{g n:Nat}{l l':List AV}(h:KG P g n (λ_=>l') (λ_=>[]) v A)
  (a:rS n A) (hs:svl H [] l l') (hn:wv (dk d) H 0 n) (q:∀q,k (v (dk d) q) (hsi (dk d) H 0 (A (dk d) q))):t5 P H d (.call g l) k :=
 ⟨[],n,v,A,a,λ_ hi=>by simp at hi,λj b=>by have:=oP hn (Nat.zero_le j) (by omega);exact this,⟨l',h,hs⟩,λz=>by rw[sM];exact q z⟩
def oC (H:Hp): List Id->Prop
 |[]=>True
 |i::L=>H i≠none/\oC H L
theorem ID: oC H []=True:=rfl
theorem IE: oC H (i::L)=(H i≠none/\oC H L):=rfl
theorem cZ {H:Hp}: ∀ {L:List Id},oC H L->∀i,i∈L->H i≠none
 |[],_,i,hi=>by simp at hi
 |j::L,h,i,hi=>by
  rcases List.mem_cons.1 hi with rfl|hi
  ·exact h.1
  ·exact cZ h.2 i hi
attribute [go_sem] ID IE
theorem N4{g n:Nat}{l l':List AV}(L:List Id)(h:KG P g n (λ_=>l') (λ_=>[]) v A)
  (a:rS n A) (hs:svl H L l l') (b:oC H L) (hn:wv (dk d) H 0 n) (q:∀q,k (v (dk d) q) (hsi (dk d) (frz L H) 0 (A (dk d) q))):t5 P H d (.call g l) k :=
 ⟨L,n,v,A,a,cZ b,λj c=>by have:=oP hn (Nat.zero_le j) (by omega);exact this,⟨l',h,hs⟩,q⟩
attribute [go_sem] L6 N3 Et Eu Ew
def slI (i:Id): AV->Prop
 |.sl i' _ _ _ _=>i'=i
 |_=>False
def apZ (y:Ky)(f:Fr): Operand->Prop
 |.tmp s=>(match y.ad.lookup s with|some (j,_)=>slI j (f s)|none=>nso (f s)=true)
 |z=>nso (ev f z)=true
def rq (y:Ky)(f:Fr): Op->Prop
 |.call ⟨.builtin .append,as,_⟩=>(match as.toList with
  |[.tmp s,z]=>(match y.ad.lookup s with|some (a,_)=>slI a (f s)/\a≠mkS/\apZ y f z|none=>True)
  |_=>True)
 |_=>True
def apS (y:Ky)(k i:Oper): Bool:=match k.op with
 |.call ⟨.builtin .append,as,_⟩=>(match as.toList with
  |[.tmp s,z]=>(match i.op with
   |.store _ (.tmp s') _=>(match y.ad.lookup s,y.ad.lookup s' with
    |some (a,_),some (b,_)=>a != b&&(match z with|.tmp s2=>(match y.ad.lookup s2 with|some (j,_)=>j != b|none=>true)|_=>true)
    |_,_=>false)
   |_=>false)
  |_=>false)
 |_=>false
def lpS (y:Ky)(k i:Oper): Bool:=match i.op with
 |.call ⟨.builtin .append,as,_⟩=>(match as.toList with
  |[.tmp s,_]=>(match k.op with
   |.load _ (.tmp s')=>(match y.ad.lookup s,y.ad.lookup s' with
    |some (a,_),some (b,_)=>a != b
    |_,_=>false)
   |_=>false)
  |_=>false)
 |_=>false
def AY (P:Program)(ops:Array Oper)(y:Ky)(o:Oper)(f:Fr)(H:Hp)(K:Fr->Hp->Prop): Prop:=(gd ops f o=some true->okS P y f o/\rq y f o.op)/\AD P ops o f H K
def Q7 (P:Program)(ops:Array Oper)(y:Ky)(k i:Oper): Bool:=k.apart ops i&&(ic (zm k.op) (zm i.op)||xF P y k i||xF P y i k||apS y k i||lpS y k i)
theorem Q8 {H H':Hp}{s:Nat}{z:AV}(h:nso z=true\/∃j,slI j z/\H' j=H j): qc H' s z=qc H s z:=by
 rcases h with h|⟨j,h,e⟩
 ·exact cT h
 ·cases z<;>try exact h.elim
  have h:_=j:=h;subst h;simp only[qc,e]
theorem N5{H H':Hp}{t:TypeId}{a j:Id}{b sz n cap:Nat}{z:AV}{ob:Nat->Nat->Ob}{w:Nat->Nat->AV}(hm:a≠mkS)(g:nso z=true\/∃j,slI j z/\H' j=H j)(c:H' a=H a)(h:(xw P d H t (.sl a b sz n cap) z).Mk j ob w):
  (xw P d H' t (.sl a b sz n cap) z).Mk j ob w:=by
 have e:xw P d H' t (.sl a b sz n cap) z=xw P d H t (.sl a b sz n cap) z:=by
  unfold xw;simp only[Q8 (H:=H) (H':=H') g,if_neg hm,c]
 rw[e];exact h
theorem Sl{k i:Oper}(h:apS y k i=true)(q:rq y f k.op): ∃as ts a b sz n cap z s' t x p,k.op = .call ⟨.builtin .append,as,ts⟩/\yj f k = [.sl a b sz n cap,z]/\i.op = .store t (.tmp s') x/\y.ad.lookup s'=some p/\a≠p.1/\a≠mkS/\(nso z=true\/∃j,slI j z/\j≠p.1):=by
 obtain⟨dst,op,ty,u,D,g⟩:=k;simp only at q ⊢;unfold apS at h;simp only at h;split at h
 ·rename_i as ts;split at h
  ·rename_i s z w;split at h
   ·rename_i t s' x hi;split at h
    ·rename_i a O b S G I;simp only[Bool.and_eq_true,bne_iff_ne] at h;unfold rq at q;simp only[w,G] at q;obtain⟨m,M,e⟩:=q;have c:yj f ⟨dst,.call ⟨.builtin .append,as,ts⟩,ty,u,D,g⟩ = [f s,ev f z]:=by
      unfold yj;simp[Op.operands,Call.operands,w];rfl
     cases v:f s<;>rw[v] at m<;>try exact m.elim
     rename_i B F sz n cap;have m:B=a:=m;subst m;refine⟨as,ts,B,F,sz,n,cap,ev f z,s',t,x,_,rfl,by rw[c,v],hi,I,h.1,M,?_⟩;cases z with
     |tmp s2 =>
      simp only[apZ] at e;have r:=h.2;simp only at r;cases hl:y.ad.lookup s2 with
      |none=>rw[hl] at e;exact Or.inl e
      |some J =>
       rw[hl] at e r;exact Or.inr ⟨J.1,e,by simpa using r⟩
     |_=>exact Or.inl e
    ·cases h
   ·cases h
  ·cases h
 ·cases h
theorem N6{k i:Oper}(h3:k.apart ops i=true)(hf:apS y k i=true)
  (hk:gd ops f k=some true->rq y f k.op) (hi:gd ops f i=some true->okS P y f i) (K:Fr->Hp->Prop)
  (h:AD P ops k f H (λf' H'=>AD P ops i f' H' K)):AD P ops i f H (λf' H'=>AD P ops k f' H' K):=by
 obtain⟨F,G,I⟩:=Oper.apart_spec h3;rw[zj] at h;rcases h with⟨uk,r,h⟩|⟨B,D,Z,r,h⟩
 ·-- the append is left out
  have W:gd ops f k=some false/\uk=nul:=by
   rcases r with r|⟨g,r⟩
   ·exact r
   ·exfalso;obtain⟨as,ts,a,b,sz,n,cap,z,s',t,x,p,e1,e2,_,_,_,hm,_⟩:=Sl hf (hk g);unfold zw at r;rw[e1,e2] at r;rcases @rO P (k.dst.getD 0) H as ts a b sz n cap z with⟨t,t',_,e⟩|e
    ·rw[e] at r;exact Pk hm r.2
    ·rw[e] at r;exact r
  rw[zj] at h;rcases h with⟨ui,Y,h⟩|⟨j,ob,v,Y,h⟩
  ·rw[yx F] at Y;rw[zj];refine Or.inl ⟨ui,Y,?_⟩;rw[zj];exact Or.inl ⟨uk,(yx I).2 (Or.inl W),by rw[<-zy G];exact h⟩
  ·rw[y7 F] at Y;rw[zj];refine Or.inr ⟨j,ob,v,Y,λb c=>?_⟩;rw[zj];exact Or.inl ⟨uk,(yx I).2 (Or.inl W),by rw[<-zy G];exact h b c⟩
 ·obtain⟨as,ts,a,b,sz,n,cap,z,s',t,x,p,e1,e2,V,e4,O,hm,hz⟩:=Sl hf (hk r.1);have s:=r.2;have M:∀H',zw P k f H'=z8 P (k.dst.getD 0) H' (.call ⟨.builtin .append,as,ts⟩) [.sl a b sz n cap,z]:=λH'=>by unfold zw;rw[e1,e2]
  rw[M] at s;obtain⟨tt,h9,h7,eA⟩:∃t t',ts.toList = [t,t']/\z8 P (k.dst.getD 0) H (.call ⟨.builtin .append,as,ts⟩) [.sl a b sz n cap,z] = .req (t'=t) (xw P (k.dst.getD 0) H t (.sl a b sz n cap) z):=by
   rcases @rO P (k.dst.getD 0) H as ts a b sz n cap z with e|e
   ·exact e
   ·rw[e] at s;exact s.elim
  rw[eA] at s;have h4:B=a:=(fw hm s.2).1;subst h4;have h5:∀H',H' B=H B->(∀j,slI j z->H' j=H j)->MO P ops k f H' B D Z:=λH' q U=>by
   refine⟨r.1,?_⟩;rw[M];have:z8 P (k.dst.getD 0) H' (.call ⟨.builtin .append,as,ts⟩) [.sl B b sz n cap,z] = .req (h9=tt) (xw P (k.dst.getD 0) H' tt (.sl B b sz n cap) z):=by
    show ws P (k.dst.getD 0) H' .append ts [.sl B b sz n cap,z]=_;unfold ws;simp only[h7]
   rw[this];exact⟨s.1,N5 hm (hz.imp id fun ⟨j,r1,_⟩=>⟨j,r1,U j r1⟩) q s.2⟩
  have h8:∀ {H':Hp} {o:Ob},∀j,slI j z->(ze H p.1 o) j=H j:=fun {H' o} j hj=>by
   rcases hz with hz|⟨j',r1,r2⟩
   ·cases z<;>first|exact hj.elim|cases hz
   ·have:j=j':=by
     cases z<;>try exact hj.elim
     exact(show _=j from hj).symm.trans r1
    subst this;unfold ze;rw[if_neg r2]
  have h':∀b c,(gd ops f i=some false/\K (zl (zl f k.dst (Z b c)) i.dst nul) (ze H B (D b c))) \/
    ∃o:Ob,MO P ops i f H p.1 (λ_ _=>o) (λ_ _=>.any)/\K (zl (zl f k.dst (Z b c)) i.dst .any) (ze (ze H B (D b c)) p.1 o):=λb c=>by
   rcases zj.1 (h b c) with⟨u,q,U⟩|⟨j,ob,v,q,U⟩
   ·rw[yx F] at q;rcases q with q|⟨g,q⟩
    ·rw[q.2] at U;exact Or.inl ⟨q.1,U⟩
    ·unfold zw at q;rw[V] at q;exact absurd q eZ
   ·rw[y7 F] at q;have J:=q.2;unfold zw at J;rw[V] at J;obtain⟨b0,hb,r0,jj,v',ow,row,c0,n0,a1,ha,_,_,_,_,h6,hv⟩:=pT J;have T:tC y f s':=by have:=hi q.1;unfold okS at this;rw[V] at this;exact this
    have S:yj f i = [f s',ev f x]:=by unfold yj;rw[V];rfl
    rw[S] at a1;injection a1 with a1 _;unfold tC at T
    rw[e4,a1] at T
    obtain⟨rfl,rfl⟩:=T
    subst h6 hv;refine Or.inr ⟨_,⟨q.1,?_⟩,U 0 0⟩;unfold zw;rw[V];exact lO J (by unfold ze;rw[if_neg (Ne.symm O)])
  rcases h' 0 0 with⟨g,_⟩|⟨o,m,_⟩
  ·rw[zj];refine Or.inl ⟨nul,Or.inl ⟨g,rfl⟩,?_⟩;rw[zj];refine Or.inr ⟨B,D,Z,(y7 I).2 r,λb c=>?_⟩;rcases h' b c with⟨_,w⟩|⟨o,m,_⟩
   ·rw[<-zy G];exact w
   ·have:=m.1;rw[g] at this;cases this
  ·rw[zj];refine Or.inr ⟨p.1,_,_,m,λ_ _=>?_⟩;rw[zj];refine Or.inr ⟨B,D,Z,(y7 I).2 (h5 _ (by unfold ze;rw[if_neg O]) (h8 (H':=H))),λb c=>?_⟩;rcases h' b c with⟨g,_⟩|⟨o',m',w⟩
   ·have:=m.1;rw[g] at this;cases this
   ·obtain⟨_,eo,_⟩:=uy m.2 m'.2;have eo:o=o':=congrFun (congrFun eo 0) 0;subst eo;rw[<-zy G,<-vB O];exact w
theorem N7{k i:Oper}(Z:k.apart ops i=true)(p:lpS y k i=true)
  (hk:gd ops f k=some true->okS P y f k) (hi:gd ops f i=some true->rq y f i.op) (K:Fr->Hp->Prop)
  (h:AD P ops k f H (λW H'=>AD P ops i W H' K)):AD P ops i f H (λW H'=>AD P ops k W H' K):=by
 obtain⟨B,D,F⟩:=Oper.apart_spec Z;obtain⟨as,ts,s,z,s',x,a,T,b,U,V,e2,O,l1,l2,Y⟩:∃as ts s z s' x a T b U,i.op = .call ⟨.builtin .append,as,ts⟩/\as.toList = [.tmp s,z]/\k.op = .load x (.tmp s')/\y.ad.lookup s=some (a,T)/\y.ad.lookup s'=some (b,U)/\a≠b:=by
  unfold lpS at p;split at p
  ·rename_i as ts h5;split at p
   ·rename_i s z hz;split at p
    ·rename_i x s' h4;split at p
     ·rename_i a T b U l1 l2;exact⟨as,ts,s,z,s',x,a,T,b,U,h5,hz,h4,l1,l2,by simpa using p⟩
     ·cases p
    ·cases p
   ·cases p
  ·cases p
 have r:zm k.op=0\/zm k.op=1:=Or.inr (by rw[O];rfl);have h7:gd ops f i=some true->∃G sz n cap,yj f i = [.sl a G sz n cap,ev f z]/\a≠mkS:=λg=>by
  have q:=hi g;unfold rq at q;rw[V] at q;simp only[e2,l1] at q;obtain⟨M,q2,_⟩:=q;have c:yj f i = [f s,ev f z]:=by unfold yj;rw[V];simp[Op.operands,Call.operands,e2];rfl
  cases I:f s<;>rw[I] at M<;>try exact M.elim
  rename_i i0 G sz n cap;have M:i0=a:=M;subst M;exact⟨G,sz,n,cap,by rw[c,I],q2⟩
 rw[zj] at h;rcases h with⟨uk,S,h⟩|⟨j,ob,v,S,_⟩
 ·rw[zj] at h;rcases h with⟨ui,u,h⟩|⟨ii,J,vi,u,h⟩
  ·rw[yx B] at u;rw[zj];refine Or.inl ⟨ui,u,?_⟩;rw[zj];exact Or.inl ⟨uk,(yx F).2 S,by rw[<-zy D];exact h⟩
  ·rw[y7 B] at u;obtain⟨G,sz,n,cap,eA,hm⟩:=h7 u.1;have w:=u.2;unfold zw at w;rw[V,eA] at w;have h3:ii=a:=by
    rcases @rO P (i.dst.getD 0) H as ts a G sz n cap (ev f z) with⟨t,t',_,e⟩|e
    ·rw[e] at w;exact(fw hm w.2).1
    ·rw[e] at w;exact w.elim
   subst h3;rw[zj];refine Or.inr ⟨ii,J,vi,u,λb' c'=>?_⟩;rw[zj];refine Or.inl ⟨uk,(yx F).2 ((ig λg=>?_).1 S),by rw[<-zy D];exact h b' c'⟩;have m:tC y f s':=by have:=hk g;unfold okS at this;rw[O] at this;exact this
   have c:yj f k = [f s']:=by unfold yj;rw[O];rfl
   have he:zw P k f (ze H ii (J b' c'))=zw P k f H:=by
    unfold zw;rw[O,c];show yT P x _ (f s')=yT P x H (f s');unfold tC at m
    rw[l2] at m
    cases h6:f s'<;>rw[h6] at m<;>try exact m.elim
    obtain⟨rfl,rfl⟩:=m
    unfold yT;simp only[xS,ze,if_neg (Ne.symm Y)]
   rw[he];have hn:NM (zw P k f H):=wt r;exact⟨λq=>hn.y _ q,λq=>hn.y _ q⟩
 ·exact absurd S.2 ((wt r).mk _ _ _)
theorem Yu{d:Option Nat}{v:AV}(h:∀t,d=some t->t∉Oper.looksAt ops o): rq y (zl f d v) o.op↔rq y f o.op:=by
 have hs:∀x∈o.op.operands.toList,ev (zl f d v) x=ev f x:=λx hx=>by
  cases d with
  |none=>rfl
  |some t =>
   cases x with
   |tmp s =>
    show xb f t v s=f s;unfold xb;rw[if_neg];rintro rfl;exact h s rfl (List.mem_append_left _ (List.mem_filterMap.2 ⟨_,hx,rfl⟩))
   |_=>rfl
 obtain⟨dst,op,ty,m,n,g⟩:=o;simp only at hs ⊢;unfold rq;split
 ·rename_i as ts;split
  ·rename_i s z e;have c:=hs (.tmp s) (by simp[Op.operands,Call.operands,e]);have b:=hs z (by simp[Op.operands,Call.operands,e]);have c:zl f d v s=f s:=c;have j:apZ y (zl f d v) z↔apZ y f z:=by
    unfold apZ;cases z with
    |tmp s2 =>
     have b:zl f d v s2=f s2:=b;simp only[b]
    |_=>simp only[b]
   rw[c];cases y.ad.lookup s with
   |none=>exact Iff.rfl
   |some a=>simp only[j]
  ·exact Iff.rfl
 ·exact Iff.rfl
theorem fI{k i:Oper}(g:k.apart ops i=true)
  (j:(gd ops f k=some true->okS P y f k/\rq y f k.op)->(gd ops f i=some true->okS P y f i/\rq y f i.op)->∀K,AD P ops k f H (λc H'=>AD P ops i c H' K)->AD P ops i f H (λc H'=>AD P ops k c H' K))
  (h:AY P ops y k f H (λc H'=>AY P ops y i c H' K)):AY P ops y i f H (λc H'=>AY P ops y k c H' K):=by
 obtain⟨a,m,b⟩:=Oper.apart_spec g;have hi:gd ops f i=some true->okS P y f i/\rq y f i.op:=λe=>by
  obtain⟨u,H',q⟩:=h.2.some;have:=q.1 (by rw[yM a];exact e)
  exact⟨(wZ a).1 this.1,(Yu a).1 this.2⟩
 have n:=j h.1 hi K (h.2.mono λ_ _ q=>q.2);refine⟨hi,n.mono' λu H' q=>⟨λe=>?_,q⟩⟩;rw[yM b] at e;have:=h.1 e
 exact⟨(wZ b).2 this.1,(Yu b).2 this.2⟩
theorem IF (P:Program)(ops:Array Oper)(y:Ky): vu P ops (AY P ops y) (Q7 P ops y):=⟨λh k=>⟨h.1,h.2.mono k⟩,λh=>h.2.as,λhm h=>by
 unfold Q7 at hm;simp only[Bool.and_eq_true,Bool.or_eq_true] at hm;obtain⟨a,(((j|e)|e)|e)|e⟩:=hm
 ·exact fI a (λ_ _ K q=>kY a j q) h
 ·exact fI a (λb c K q=>db a e (λg=>(b g).1) (λg=>(c g).1) K q) h
 ·exact fI a (λb c K q=>dc a e (λg=>(b g).1) (λg=>(c g).1) K q) h
 ·exact fI a (λb c K q=>N6 a e (λg=>(b g).2) (λg=>(c g).1) K q) h
 ·exact fI a (λb c K q=>N7 a e (λg=>(b g).1) (λg=>(c g).2) K q) h⟩
theorem lm(hP:wI P)(y:Ky)(a:(ur N ops&&tz (Q7 P ops y) ops)=true)
  (h:SL (AY P ops y) (Q .normal) ops.toList f H):AW P X N (.region id ops true) Q f H:=by
 simp only[Bool.and_eq_true] at a;exact uo hP.mx hP.by_ (IF P ops y) a.1 a.2 h
section
variable {P:Program} {y:Ky} {K:Fr -> Hp -> Prop} {f:Fr} {H:Hp}
theorem L8: SL (AY P ops y) K [] f H=K f H:=rfl
theorem N8{l:List Oper}: SL (AY P ops y) K (o::l) f H=((gd ops f o=some true->okS P y f o/\rq y f o.op)/\AG true P ops o f H (SL (AY P ops y) K l)):=rfl
end
theorem Ex {s:Nat}: List.lookup s ([]:List (Nat×Id×Nat))=none:=rfl
theorem Ey {s t:Nat}{p:Id×Nat}{l:List (Nat×Id×Nat)}: List.lookup s ((t,p)::l)=if s=t then some p else List.lookup s l:=by
 simp only[List.lookup];by_cases e:s=t
 ·simp[e]
 ·have:(s==t)=false:=by simpa using e
  rw[if_neg e,this]
attribute [go_sem] L8 N8 rq apZ slI nso Ex Ey
theorem pQ{c:Code}(i:Id)(k:AW P X N c Q f (qH H i)): AW P X N c Q f H:=λa w r=>by
 have hs:∀j o,qH H i j=some o->H j=some o:=λj o h=>by
  unfold qH at h;split at h
  ·cases h
  ·exact h
 have g:∀b,own (qH H i) b->own H b:=λb ⟨j,o,p,s⟩=>⟨j,o,hs j o p,s⟩
 refine wp_mono (k a w ⟨λt=>(r.tm t).wide λb hb=>hb.imp id (g b),r.hp.grown (Ev.refl _ _) λj o h=>⟨o,hs j o h,rfl,rfl,rfl,rfl,rfl,id⟩,r.df,r.sz⟩) λe a' w' ⟨n,m,q,u,ev⟩=>⟨n,m,q,u,Ev.trans ⟨rfl,rfl,rfl,Nat.le_refl _,λb _ h=>⟨λz=>h (g b z),rfl⟩⟩ ev⟩
theorem yR{f j n:Nat}{l l':List AV}{K:AV->Hp->Prop}(L b:List Id)
  (h:KG P f n (λ_=>l') (λ_=>[]) v A') (k:∀q,K (v (ji b) q) (hsi (ji b) (ug L H) 0 (A' (ji b) q))) (e:Nat.beq j f=true:=by first|rfl|(simp only[Nat.beq_refl];done)|fail) (hi:vX n (ji b):=by decide +kernel) (hn:∀q,(A' (ji b) q).length=n:=by exact λ_=>rfl) (hfz:∀q,(A' (ji b) q).all (λo=>!o.fz)=true:=by exact λ_=>rfl)
  (hs:SVL H L l l':=by first|((try simp only[Sa.a,Sa.c,yh,sx,List.map_nil,Fm.a,Fm.c,Pr.a,Pr.c,Mo.a,Mo.c,Me.a,Me.c,Po.a,Po.c]);(repeat'(first|with_reducible exact SVL.nil|with_reducible refine SVL.cons ?_ ?_|with_reducible exact SV.refl _ _ _|with_reducible refine SV.agg ?_|exact SV.own rfl rfl rfl rfl (by first|exact Nat.le_refl _|(simp;done)) (by decide) (List.take_of_length_le (by simp))|exact SV.nil _ _ _));done)|fail) (g:wv (ji b) (ug L H) 0 n:=by first|(go_simp;done)|fail):wu false P j l H K:=Nat.eq_of_beq_eq_true e▸L0 L (ji b) h hi hn hfz hs g k
theorem dJ{f b:Nat}{l l':List AV}{v:AV}{K:AV->Hp->Prop}(L:List Id)(h:K1 P f l' v)(k:K v (ug L H))(e:Nat.beq b f=true:=by first|rfl|(simp only[Nat.beq_refl];done)|fail)(hs:SVL H L l l':=by first|((try simp only[Sa.a,Sa.c,yh,sx,List.map_nil,Fm.a,Fm.c,Pr.a,Pr.c,Mo.a,Mo.c,Me.a,Me.c,Po.a,Po.c]);(repeat'(first|with_reducible exact SVL.nil|with_reducible refine SVL.cons ?_ ?_|with_reducible exact SV.refl _ _ _|with_reducible refine SV.agg ?_|exact SV.own rfl rfl rfl rfl (by first|exact Nat.le_refl _|(simp;done)) (by decide) (List.take_of_length_le (by simp))|exact SV.nil _ _ _));done)|fail): wu false P b l H K:=Nat.eq_of_beq_eq_true e▸L4 L h hs k
theorem j8{g a n:Nat}(h:KG P g n (λ_=>l) (λ_=>[]) v A)
  (q:∀q,k (v (dk d) q) (hsi (dk d) H 0 (A (dk d) q))) (e:Nat.beq a g=true:=by first|rfl|(simp only[Nat.beq_refl];done)|fail) (b:rS n A:=by exact⟨λ_ _=>rfl,λ_ _=>rfl,λ_ _=>rfl⟩) (hn:wv (dk d) H 0 n:=by first|(go_simp;done)|fail):t5 P H d (.call a l) k:=Nat.eq_of_beq_eq_true e▸L7 h b (svl.refl _ _ _) hn q
theorem rT{g a n:Nat}{l l':List AV}(L:List Id)(h:KG P g n (λ_=>l') (λ_=>[]) v A)
  (q:∀q,k (v (dk d) q) (hsi (dk d) (frz L H) 0 (A (dk d) q))) (e:Nat.beq a g=true:=by first|rfl|(simp only[Nat.beq_refl];done)|fail) (b:rS n A:=by exact⟨λ_ _=>rfl,λ_ _=>rfl,λ_ _=>rfl⟩) (hs:svl H L l l':=by(repeat'(first|exact jv|refine rN ?_ ?_|exact aq|exact WW|exact au rfl rfl rfl rfl (Nat.le_of_ble_eq_true rfl) (by decide) rfl))<;>fail) (c:oC H L:=by first|(go_simp;done)|fail) (hn:wv (dk d) H 0 n:=by first|(go_simp;done)|fail):t5 P H d (.call a l) k:=Nat.eq_of_beq_eq_true e▸N4 L h b hs c hn q
theorem KG.one{f n:Nat}(k:Nat)(h:KG P f n (λ_=>l) (λ_=>[]) v A')(ob:Nat×Nat->Ob)(F:Id->Nat×Nat->AV)
  (S:∀q,(A' ιu q)[k]?=some (ob (q k))) (W:∀i j p X w u,RV X w (F i p) u->RV X w (F j p) u) (Y:∀q,yK (hpi ιu (A' ιu q)) [ιu k] (v ιu q) (F (ιu k) (q k))) :
  KG P f 1 (λ_=>l) (λ_=>[]) (λι q=>F (ι 0) (q 0)) (λ_ q=>[ob (q 0)]):=λX w cl ι hi V O=>by
 refine(h X w cl ιu ιu_inj V O).mono λe w' ⟨q,T,U,k1,D,B⟩=>?_;have g:hpi ιu (A' ιu q) (ιu k)=some (ob (q k)):=jc (n:=(A' ιu q).length) ιu_inj (Nat.le_refl _) (S q);have m:∀i o,hpi ι [ob (q k)] i=some o->o=ob (q k):=λi o c=>by
  simp only[hsi,ze] at c;split at c
  ·injection c with c;exact c.symm
  ·cases c
 have x:∀z,zp X (hpi ι [ob (q k)]) z->lK X (hpi ιu (A' ιu q)) [ιu k] z:=λz r=>by
  rcases r with r|⟨i,o,s,t,I,J⟩
  ·exact Or.inl r
  ·obtain rfl:=m i o s;exact Or.inr ⟨ιu k,_,by simp,g,t,I,J⟩
 refine⟨λ_=>q k,T,U,(W _ _ _ _ _ _ (sN D (Y q) k1)).wide x,⟨λi o c=>?_,λi o c M=>?_,λi i' o o' s t _ _ _=>?_,D.xs,D.gl.wide λz r=>yQ (x z r)⟩,B.os,B.tape,B.output,B.size,λz r hn=>⟨fun ⟨i,o,s,t,I,J⟩=>?_,(B.block z r hn).2⟩⟩
 ·obtain rfl:=m i o c;obtain⟨Z,m2⟩:=D.ob _ _ g;refine⟨Z,λM=>?_⟩;obtain⟨G,p1,p2,p3,p4⟩:=m2 M;exact⟨G,p1,p2,p3,RR.mono ⟨rfl,rfl,rfl,Nat.le_refl _,λz _ r=>⟨λy=>r (yQ (x z y)),rfl⟩⟩ _ _ _ (λ_ _ h=>h) _ p4⟩
 ·obtain rfl:=m i o c;exact D.nx _ _ g M
 ·simp only[hsi,ze] at s t;split at s
  ·split at t
   ·rename_i a b;rw[a,b]
   ·cases t
  ·cases s
 ·obtain rfl:=m i o s;exact(B.block z r hn).1 ⟨ιu k,_,g,t,I,J⟩
def AF (P:Program)(ops:Array Oper)(y:Ky)(C:List Nat)(o:Oper)(f:Fr)(H:Hp)(K:Fr->Hp->Prop): Prop:=if isC C o=true then AS P ops o f H K else AX P ops y o f H K
def Q9 (P:Program)(ops:Array Oper)(y:Ky)(C:List Nat)(k i:Oper): Bool:=!isC C k&&!isC C i&&Zd P ops y k i
theorem IG (P:Program)(ops:Array Oper)(y:Ky)(C:List Nat): vu P ops (AF P ops y C) (Q9 P ops y C):=⟨λh k=>by
  unfold AF at *;split at h<;>rename_i a
  ·rw[if_pos a];exact h.mono k
  ·rw[if_neg a];exact⟨h.1,h.2.mono k⟩,λh=>by
  unfold AF at h;split at h
  ·exact h
  ·exact h.2.as,fun {k i f H K} hm h=>by
  unfold Q9 at hm;simp only[Bool.and_eq_true,Bool.not_eq_true'] at hm;obtain⟨⟨b,c⟩,e⟩:=hm;simp only[AF,b,c] at h ⊢;exact(bY P ops y).swap e h⟩
theorem rX(hP:wI P)(y:Ky)(C:List Nat)(a:(ur N ops&&tz (Q9 P ops y C) ops)=true)
  (h:SL (AF P ops y C) (Q .normal) ops.toList f H):AW P X N (.region id ops true) Q f H:=by
 simp only[Bool.and_eq_true] at a;exact uo hP.mx hP.by_ (IG P ops y C) a.1 a.2 h
theorem L9: SL (AF P ops y C) K [] f H=K f H:=rfl
theorem N9{l:List Oper}: SL (AF P ops y C) K (o::l) f H=if isC C o=true then AG false P ops o f H (SL (AF P ops y C) K l)
  else(gd ops f o=some true->okS P y f o)/\AG true P ops o f H (SL (AF P ops y C) K l):=rfl
attribute [go_sem] L9 N9
def okZ (P:Program)(y:Ky)(R:List Nat)(f:Fr)(o:Oper): Prop:=okS P y f o/\v9 y f o.op/\okR R f o.op
theorem Vq{R:List Nat}{d:Option Nat}{v:AV}(h:∀t,d=some t->t∉Oper.looksAt ops o): okZ P y R (zl f d v) o↔okZ P y R f o:=by
 unfold okZ;rw[wZ h,rP h,pK h]
def QC (P:Program)(ops:Array Oper)(y:Ky)(R C:List Nat)(k i:Oper): Bool :=
 if isC C k then !isC C i&&k.apart ops i&&decide (zm i.op<=2)&&(zm k.op==3) else if isC C i then k.apart ops i&&decide (zm k.op<=1)&&(zm i.op==3) else ZV P ops y R k i
def AJ (P:Program)(ops:Array Oper)(y:Ky)(R C:List Nat)(o:Oper)(f:Fr)(H:Hp)(K:Fr->Hp->Prop): Prop:=if isC C o=true then
  gd ops f o=some true/\∃L n v A,rS n A/\(∀i,i∈L->H i≠none)/\(∀j,j<n->H (dk (o.dst.getD 0) j)=none)/\mkK P H L n v A (zw P o f H)/\∀q,K (zl f o.dst (v (dk (o.dst.getD 0)) q)) (hsi (dk (o.dst.getD 0)) (frz L H) 0 (A (dk (o.dst.getD 0)) q))
 else AZ P ops y R o f H K
theorem AJ.as{R C:List Nat}(h:AJ P ops y R C o f H K): AS P ops o f H K:=by
 unfold AJ at h;split at h
 ·obtain⟨a,L,n,v,A,j,m,b,c,g⟩:=h;unfold AS;rw[a];exact⟨λ_=>Yt j b g c,λe=>by cases e⟩
 ·exact h.2.as
theorem AJ.mono{R C:List Nat}{K a:Fr->Hp->Prop}(h:AJ P ops y R C o f H K)(k:∀f H,K f H->a f H): AJ P ops y R C o f H a:=by
 unfold AJ at *;split at h<;>rename_i b
 ·rw[if_pos b];obtain⟨c,L,n,v,A,m,p,e,g,j⟩:=h;exact⟨c,L,n,v,A,m,p,e,g,λq=>k _ _ (j q)⟩
 ·rw[if_neg b];exact⟨h.1,h.2.mono k⟩
theorem UG (P:Program)(ops:Array Oper)(y:Ky)(R C:List Nat): vu P ops (AJ P ops y R C) (QC P ops y R C):=⟨λh k=>h.mono k,λh=>h.as,fun {k i f H K} hm h=>by
 unfold QC at hm;by_cases r:isC C k=true
 ·-- the call first
  rw[if_pos r] at hm;simp only[Bool.and_eq_true,Bool.not_eq_true',decide_eq_true_eq,beq_iff_eq] at hm;obtain⟨⟨⟨p,U⟩,hd⟩,h9⟩:=hm;obtain⟨b,G,m⟩:=Oper.apart_spec U;unfold AJ at h ⊢;rw[if_pos r] at h;rw[if_neg (by rw[p];simp)];simp only[p,Bool.false_eq_true,if_false] at h;obtain⟨h1,L,n,v,A,Z,hL,h2,h3,h4⟩:=h;generalize h6:dk (k.dst.getD 0)=ι at *;have V:∀x j,ι j≠.l x:=λx=>by rw[<-h6];exact Pv
  have h8:vX n ι:=by rw[<-h6];exact Yq
  have q0:Nat->Nat×Nat:=λ_=>(0,0)
  have ha:gd ops f i=some true->okZ P y R f i:=λt=>(Vq b).1 ((h4 q0).1 (by rw[yM b];exact t));refine⟨ha,?_⟩;have hb:∀x,H (.l x)=none->Id.l x∉L:=λx hx c=>hL _ c hx;have T:∀ui,VO P ops i f H ui->(∀q,K (zl (zl f k.dst (v ι q)) i.dst ui) (hsi ι (frz L H) 0 (A ι q)))->AD P ops i f H (λf' H'=>if isC C k=true then gd ops f' k=some true/\∃L n v A,rS n A/\(∀i,i∈L->H' i≠none)/\(∀j,j<n->H' (ι j)=none)/\mkK P H' L n v A (zw P k f' H')/\∀q,K (zl f' k.dst (v ι q)) (hsi ι (frz L H') 0 (A ι q)) else AZ P ops y R k f' H' K):=λui s B=>by
   rw[zj];refine Or.inl ⟨ui,s,?_⟩;rw[if_pos r];refine⟨by rw[yM m];exact h1,L,n,v,A,Z,hL,h2,?_,λq=>by rw[<-zy G];exact B q⟩;unfold zw at h3 ⊢;rw[x8 m];exact h3
  by_cases h5:zm i.op=2
  ·have W:∀q,(∃u,VO P ops i f (hsi ι (frz L H) 0 (A ι q)) u/\K (zl (zl f k.dst (v ι q)) i.dst u) (hsi ι (frz L H) 0 (A ι q))) \/
     ∃J a v',MO P ops i f (hsi ι (frz L H) 0 (A ι q)) J a v'/\∀O S,K (zl (zl f k.dst (v ι q)) i.dst (v' O S)) (ze (hsi ι (frz L H) 0 (A ι q)) J (a O S)):=λq=>by
    rcases zj.1 (h4 q).2 with⟨u,s,B⟩|⟨J,a,v',s,B⟩
    ·exact Or.inl ⟨u,(yx b).1 s,B⟩
    ·exact Or.inr ⟨J,a,v',(y7 b).1 s,B⟩
   by_cases t:gd ops f i=some true
   ·have hm:∀q,∃a v',MO P ops i f H (.l (i.dst.getD 0)) a v'/\H (.l (i.dst.getD 0))=none /\
      ∀O S,K (zl (zl f k.dst (v ι q)) i.dst (v' O S)) (ze (hsi ι (frz L H) 0 (A ι q)) (.l (i.dst.getD 0)) (a O S)):=λq=>by
     rcases W q with⟨u,(z|z),_⟩|⟨J,a,v',z,w⟩
     ·rw[t] at z;cases z.1
     ·exact absurd z.2 ((wN h5).1 _)
     ·obtain⟨w1,w2,w3,w4⟩:=(wN h5).2 _ _ _ z.2;subst w1;have hn:H (.l (i.dst.getD 0))=none:=by rw[rR λj _=>V _ _,o9] at w3;exact w3
      exact⟨a,v',⟨t,w4 H hn⟩,hn,w⟩
    obtain⟨hc,v0,m0,n0,_⟩:=hm q0;rw[zj];refine Or.inr ⟨_,hc,v0,m0,λO S=>?_⟩;rw[if_pos r];refine⟨by rw[yM m];exact h1,L,n,v,A,Z,λJ h7=>?_,λj hj=>?_,?_,λq=>?_⟩
    ·show ze _ _ _ _≠_;unfold ze;split
     ·simp
     ·exact hL J h7
    ·show ze _ _ _ _=_;unfold ze;rw[if_neg (V _ j)];exact h2 j hj
    ·unfold zw at h3 ⊢;rw[x8 m,Zj (H':=H) h9];exact Ys (HLe.set n0 _) h3
    ·obtain⟨a,v',m1,_,w⟩:=hm q;obtain⟨_,rfl,rfl⟩:=uy m0.2 m1.2;rw[<-zy G,Yr (hb _ n0),<-iL (V _)];exact w O S
   ·have M:∀q,gd ops f i=some false/\K (zl (zl f k.dst (v ι q)) i.dst nul) (hsi ι (frz L H) 0 (A ι q)):=λq=>by
     rcases W q with⟨u,(z|z),w⟩|⟨_,_,_,z,_⟩
     ·rw[z.2] at w;exact⟨z.1,w⟩
     ·exact absurd z.1 t
     ·exact absurd z.1 t
    exact T nul (Or.inl ⟨(M q0).1,rfl⟩) λq=>(M q).2
  have F:zm i.op=0\/zm i.op=1:=(by omega)
  have I:NM (z8 P (i.dst.getD 0) H i.op (yj f i)):=wt F;have W:∀q,∃u,VO P ops i f (hsi ι (frz L H) 0 (A ι q)) u/\K (zl (zl f k.dst (v ι q)) i.dst u) (hsi ι (frz L H) 0 (A ι q)):=λq=>by
   rcases zj.1 (h4 q).2 with⟨u,s,B⟩|⟨J,a,v',s,B⟩
   ·exact⟨u,(yx b).1 s,B⟩
   ·exact absurd ((y7 b).1 s).2 ((wt F).mk _ _ _)
  cases t:gd ops f i with
  |none =>
   obtain⟨u,(z|z),_⟩:=W q0
   ·rw[t] at z;cases z.1
   ·rw[t] at z;cases z.1
  |some g =>
   cases g with
   |false =>
    refine T nul (Or.inl ⟨t,rfl⟩) λq=>?_;obtain⟨u,(z|z),B⟩:=W q
    ·rw[z.2] at B;exact B
    ·rw[t] at z;cases z.1
   |true =>
    have hy:∀q,∃u,(z8 P (i.dst.getD 0) (hsi ι (frz L H) 0 (A ι q)) i.op (yj f i)).Y P (hsi ι (frz L H) 0 (A ι q)) u/\K (zl (zl f k.dst (v ι q)) i.dst u) (hsi ι (frz L H) 0 (A ι q)):=λq=>by
     obtain⟨u,(z|z),B⟩:=W q
     ·rw[t] at z;cases z.1
     ·exact⟨u,z.2,B⟩
    have he:∀q,z8 P (i.dst.getD 0) (hsi ι (frz L H) 0 (A ι q)) i.op (yj f i)=z8 P (i.dst.getD 0) H i.op (yj f i):=by
     rcases F with e|e
     ·exact λq=>qG _ e
     ·exact λq=>(fH e Z h8 (λq=>by obtain⟨u,z,_⟩:=hy q;exact⟨u,z⟩) q).trans (mY (Or.inr e))
    obtain⟨u0,w1,_⟩:=hy q0;rw[he] at w1;refine T u0 (Or.inr ⟨t,I.y _ w1⟩) λq=>?_;obtain⟨u,w2,w3⟩:=hy q;rw[he] at w2;rw[I.uniq (P:=P) (H:=H) _ _ (I.y _ w1) (I.y _ w2)];exact w3
 ·rw[if_neg r] at hm;by_cases p:isC C i=true
  ·rw[if_pos p] at hm;simp only[Bool.and_eq_true,decide_eq_true_eq,beq_iff_eq] at hm;obtain⟨⟨U,hi⟩,hf⟩:=hm;obtain⟨b,G,m⟩:=Oper.apart_spec U;have D:zm k.op=0\/zm k.op=1:=(by omega)
   unfold AJ at h ⊢;rw[if_neg r] at h;rw[if_pos p];simp only[p,r,if_true,Bool.false_eq_true,if_false] at h ⊢;rcases zj.1 h.2 with⟨u,s,B⟩|⟨J,a,v',s,_⟩
   ·obtain⟨p1,L,n,v,A,Z,hL,p2,p3,p4⟩:=B;refine⟨by rw[yM b] at p1;exact p1,L,n,v,A,Z,hL,p2,?_,λq=>⟨λt=>?_,?_⟩⟩
    ·unfold zw at p3 ⊢;rw[x8 b] at p3;exact p3
    ·rw[yM m] at t;exact(Vq m).2 (h.1 t)
    ·rw[zj];refine Or.inl ⟨u,(yx m).2 ?_,by rw[<-zy G];exact p4 q⟩;rcases s with s|⟨s,q3⟩
     ·exact Or.inl s
     ·refine Or.inr ⟨s,aU (H:=frz L H) (D.imp id Or.inl) (Sj λj hj=>by rw[Nat.zero_add];exact o9.2 (p2 j (by rw[Z.len] at hj;exact hj))) ?_⟩;rw[mY D];exact(wt D).y _ q3
   ·exact absurd s.2 ((wt D).mk _ _ _)
  ·rw[if_neg p] at hm;unfold AJ at h ⊢;simp only[p,r,Bool.false_eq_true,if_false] at h ⊢;exact(U5 P ops y R).swap hm h⟩
section
variable {P:Program} {y:Ky} {R C:List Nat} {K:Fr -> Hp -> Prop} {f:Fr} {H:Hp}
theorem LE: SL (AJ P ops y R C) K [] f H=K f H:=rfl
theorem NB{l:List Oper}: SL (AJ P ops y R C) K (o::l) f H=if isC C o=true then gd ops f o=some true/\t5 P H (o.dst.getD 0) (zw P o f H) (λu H'=>SL (AJ P ops y R C) K l (zl f o.dst u) H')
  else(gd ops f o=some true->okS P y f o/\v9 y f o.op/\okR R f o.op)/\AG true P ops o f H (SL (AJ P ops y R C) K l):=rfl
end
attribute [go_sem] LE NB
def AU (P:Program)(ops:Array Oper)(y:Ky)(R C D:List Nat)(o:Oper)(f:Fr)(H:Hp)(K:Fr->Hp->Prop): Prop:=if isC D o=true then AS P ops o f H K else AJ P ops y R C o f H K
def QD (P:Program)(ops:Array Oper)(y:Ky)(R C D:List Nat)(k i:Oper): Bool:=!isC D k&&!isC D i&&QC P ops y R C k i
theorem UI (P:Program)(ops:Array Oper)(y:Ky)(R C D:List Nat): vu P ops (AU P ops y R C D) (QD P ops y R C D):=⟨λh k=>by
  unfold AU at *;split at h<;>rename_i a
  ·rw[if_pos a];exact h.mono k
  ·rw[if_neg a];exact(UG P ops y R C).mono h k,λh=>by
  unfold AU at h;split at h
  ·exact h
  ·exact(UG P ops y R C).as h,fun {k i f H K} hm h=>by
  unfold QD at hm;simp only[Bool.and_eq_true,Bool.not_eq_true'] at hm;obtain⟨⟨b,c⟩,e⟩:=hm;simp only[AU,b,c] at h ⊢;exact(UG P ops y R C).swap e h⟩
theorem LH{R C D:List Nat}: SL (AU P ops y R C D) K [] f H=K f H:=rfl
theorem ND{R C D:List Nat}{l:List Oper}: SL (AU P ops y R C D) K (o::l) f H=if isC D o=true then AG false P ops o f H (SL (AU P ops y R C D) K l)
  else if isC C o=true then gd ops f o=some true/\t5 P H (o.dst.getD 0) (zw P o f H) (λu H'=>SL (AU P ops y R C D) K l (zl f o.dst u) H')
  else(gd ops f o=some true->okS P y f o/\v9 y f o.op/\okR R f o.op)/\AG true P ops o f H (SL (AU P ops y R C D) K l):=rfl
attribute [go_sem] LH ND
theorem NG{k i:Oper}(s:k.apart ops i=true)(z:gd ops f k=some true->∃e:Eff,NM e/\∀H,zw P k f H=e)(K:Fr->Hp->Prop)
  (h:AD P ops k f H (λr H'=>AS P ops i r H' K)):AS P ops i f H (λr H'=>AD P ops k r H' K):=by
 obtain⟨a,m,p⟩:=Oper.apart_spec s;have F:∀H' u,VO P ops k f H u->VO P ops k f H' u:=λH' u q=>by
  rcases q with q|⟨g,q⟩
  ·exact Or.inl q
  ·obtain⟨e,n,j⟩:=z g;rw[j] at q;exact Or.inr ⟨g,by rw[j];exact n.y _ q⟩
 rw[zj] at h;rcases h with⟨t,c,h⟩|⟨G,D,I,c,h⟩
 ·have b:∀v H',K (zl (zl f k.dst t) i.dst v) H'->AD P ops k (zl f i.dst v) H' K:=λv H' q=>by
   rw[zj];exact Or.inl ⟨t,(yx p).2 (F _ _ c),by rw[<-zy m];exact q⟩
  unfold AS at h ⊢;rw[yM a] at h;split<;>rename_i B<;>rw[B] at h
  ·refine⟨λe=>?_,λe=>b _ _ (h.2 e)⟩;have w:=h.1 e;have x:=x8 (v:=t) (f:=f) a;unfold yj at x;rw[x] at w;exact Eff.mono w λv H' q=>b v H' q
  ·exact h
 ·obtain⟨e,n,j⟩:=z c.1;have:=c.2
  rw[j] at this;exact absurd this (n.mk _ _ _)
theorem AS.mono'{K a:Fr->Hp->Prop}(h:AS P ops o f H K)(k:∀u H',K (zl f o.dst u) H'->a (zl f o.dst u) H'): AS P ops o f H a:=by
 unfold AS at *;split<;>rename_i b<;>rw[b] at h
 ·exact⟨λe=>Eff.mono (h.1 e) λv H=>k _ _,λe=>k _ _ (h.2 e)⟩
 ·exact h
def QK (P:Program)(ops:Array Oper)(y:Ky)(R C D:List Nat)(k i:Oper): Bool:=QD P ops y R C D k i||(!isC D k&&!isC C k&&isC D i&&k.apart ops i&&(iF R k||zm k.op==0))
theorem Hi (P:Program)(ops:Array Oper)(y:Ky)(R C D:List Nat): vu P ops (AU P ops y R C D) (QK P ops y R C D):=⟨(UI P ops y R C D).mono,(UI P ops y R C D).as,fun {k i f H K} hm h=>by
 unfold QK at hm;simp only[Bool.or_eq_true,Bool.and_eq_true,Bool.not_eq_true',beq_iff_eq] at hm;rcases hm with hm|⟨⟨⟨⟨p,r⟩,s⟩,c⟩,b⟩
 ·exact(UI P ops y R C D).swap hm h
 ·obtain⟨m,n,a⟩:=Oper.apart_spec c;simp only[AU,AJ,p,r,s,if_true,if_false,Bool.false_eq_true] at h ⊢;obtain⟨j,t⟩:=h;refine AS.mono' (NG c (λg=>b.elim (λb=>nS b (j g).2.2) λb=>⟨zw P k f (λ_=>none),wt (Or.inl b),λH=>qG _ b⟩) K t) λu H' q=>⟨λe=>?_,q⟩
  rw[yM a] at e;have:=j e
  exact⟨(wZ a).2 this.1,(rP a).2 this.2.1,(pK a).2 this.2.2⟩⟩
theorem lk(hP:wI P)(y:Ky)(R C D:List Nat)(a:(ur N ops&&tz (QK P ops y R C D) ops)=true)
  (h:SL (AU P ops y R C D) (Q .normal) ops.toList f H):AW P X N (.region id ops true) Q f H:=by
 simp only[Bool.and_eq_true] at a;exact uo hP.mx hP.by_ (Hi P ops y R C D) a.1 a.2 h
theorem gz{l l':List AV}(h:tR H E l l'): t9 H E [l] [l']:=⟨h,rfl⟩
theorem mi{a b:AV}{l r:List AV}(h:yK H E a b)(k:tR H E l r): tR H E (a::l) (b::r):=by simp only[tR];exact⟨h,k⟩
theorem dR{b sz n cap:Nat}{o:Ob}(a:i∉E)(hi:H i=some o)(hb:o.b=b)(c:o.cap=cap)(g:o.sz=sz)(hn:n<=o.rows.length)(e:o.rows.take n=rows): yK H E (.sl i b sz n cap) (.vec sz rows):=by
 simp only[yK,hi];exact⟨a,hb,c,g,trivial,hn,e⟩
end Go.Proofs.YtllodfoldffonaaGreatDoor.AM
