/- A part of the proof. -/
import Derived.Test.YtllodfoldffonaaGreatDoorQ05
namespace Go.Proofs.YtllodfoldffonaaGreatDoor.AM
open Go.RowKit
set_option linter.unusedSimpArgs false
set_option linter.unusedVariables false
set_option maxRecDepth 100000
set_option maxHeartbeats 16000000
variable {A:(Nat->Id)->List Ob}{A':(Nat->Id)->(Nat->Nat×Nat)->List Ob}{As:List Ob}{H:Hp}{K:AV->Hp->Prop}{L:List Id}{N:Nat}{P:Program}{Q:AQ}{X:Nat->Prop}{af:Array Edge}{c:Code}{d:Nat}{f:Fr}{g:Nat}{i:Id}{k:AV->Hp->Prop}{l:List AV}{l':(Nat->Id)->List AV}{n:Nat}{o:Ob}{ops:Array Oper}{pos:String}{rows:List (List AV)}{t:TypeId}{ty:TypeId}{v:(Nat->Id)->(Nat->Nat×Nat)->AV}{w:World}{ι:Nat->Id}
theorem wA(hP:wI P)(y:Ky)(C:List Nat){id:Nat}(a:(ur N ops&&tz (de P ops y C) ops)=true)
  (h:SL (AC P ops y C) (Q .normal) ops.toList f H):AW P X N (.region id ops true) Q f H:=by
 simp only[Bool.and_eq_true] at a;exact uo hP.mx hP.by_ (JR P ops y C) a.1 a.2 h
def qd (P:Program)(H:Hp)(d:Nat)(e:Eff)(k:AV->Hp->Prop): Prop:=∃ob v,mkC P H e ob v/\∀b c,k (v (.l d) b c) (ze H (.l d) (ob b c))
section
variable {P:Program} {y:Ky} {C:List Nat} {K:Fr -> Hp -> Prop} {f:Fr} {H:Hp}
theorem MG: SL (AC P ops y C) K [] f H=K f H:=rfl
theorem OG{o:Oper}{l:List Oper}: SL (AC P ops y C) K (o::l) f H=if isC C o=true then gd ops f o=some true/\H (.l (o.dst.getD 0))=none/\qd P H (o.dst.getD 0) (zw P o f H) (λu H'=>SL (AC P ops y C) K l (zl f o.dst u) H')
  else(gd ops f o=some true->okS P y f o)/\AG true P ops o f H (SL (AC P ops y C) K l):=rfl
theorem FL{op:Op}{g}: isC C ⟨some d,op,ty,pos,af,g⟩=C.contains d:=rfl
theorem FM {op:Op}{g}: isC C ⟨none,op,ty,pos,af,g⟩=false:=rfl
theorem FN{l:List Operand}{ts:Array TypeId}{c:Operand}{dst:Option Nat}{g}: qd P H d (zw P ⟨dst,.call ⟨.value c,l.toArray,ts⟩,ty,pos,af,g⟩ f H) k=qd P H d (acl P (ev f c::l.map (ev f))) k:=by
 simp[zw,yj,Op.operands,Call.operands,z8]
theorem FO {d g:Nat}{a as:List AV}: qd P H d (acl P (.fn g a::as)) k=qd P H d (.req (vQ P g) (.call g (as++a))) k:=rfl
theorem FP{c:Prop}{e:Eff}: qd P H d (.req c e) k=(c/\qd P H d e k):=by
 unfold qd;apply propext;constructor
 ·rintro⟨ob,v,a,b⟩;have a:c/\mkC P H e ob v:=a;exact⟨a.1,ob,v,a.2,b⟩
 ·rintro⟨h,ob,v,j,b⟩;exact⟨ob,v,(show c/\mkC P H e ob v from⟨h,j⟩),b⟩
end
theorem JS{l l':List AV}{s:Nat}{v:Id->Nat->Nat->AV}(h:KO P g l' s t rows v)(hs:svl H [] l l')
  (q:∀b c,k (v (.l d) b c) (ze H (.l d) ⟨b,c,s,t,rows,false⟩)):qd P H d (.call g l) k:=⟨_,v,⟨l',s,t,rows,h,hs,rfl⟩,q⟩
theorem xM{s:Nat}{v:Id->Nat->Nat->AV}(h:KO P g l s t rows v)
  (q:∀b c,k (v (.l d) b c) (ze H (.l d) ⟨b,c,s,t,rows,false⟩)):qd P H d (.call g l) k:=JS h (svl.refl _ _ _) q
attribute [go_sem] MG OG FL FM FN FO FP
theorem RV.split{sz:Nat}{l:List (List AV)}{c:Value}(h:RV X w (.vec sz l) c): (l = []/\RV X w .nils c)\/RV X w (.nv sz l) c:=by
 simp only[RV] at *;obtain⟨a,cap,rfl,b,e,j,m⟩:=h;cases a with
 |none =>
  left;obtain rfl:=j rfl;obtain rfl:l = []:=List.eq_nil_of_length_eq_zero (by omega);exact⟨rfl,rfl⟩
 |some p=>exact Or.inr ⟨p,cap,rfl,b,e,m p rfl⟩
theorem K1.nv{f sz:Nat}{l:List (List AV)}{as:List AV}{v:AV}(h:l = []->K1 P f (.nils::as) v)(j:K1 P f (.nv sz l::as) v): K1 P f (.vec sz l::as) v:=λX w cl a hl=>by
 simp only[RL] at hl;obtain⟨c,r,rfl,k1,b⟩:=hl;rcases k1.split with⟨e,k⟩|k
 ·exact h e X w _ a (by simp only[RL];exact⟨c,r,rfl,k,b⟩)
 ·exact j X w _ a (by simp only[RL];exact⟨c,r,rfl,k,b⟩)
theorem KO.nils{f s:Nat}(h:K1 P f l .nils): KO P f l s t [] (λi b c=>.sl i b s 0 c):=λX w cl q hl=>by
 refine(h X w cl q hl).mono λe w' ⟨x,D,k1,a⟩=>⟨0,0,x,D,a,λh=>absurd rfl h,λi=>⟨?_,λj o r=>?_,λj o r E=>?_,λj F o G m p _ _ _=>(uZ m).1.trans (uZ p).1.symm,λb hb=>Nat.lt_of_lt_of_le (q.1 b hb) a.size,((q.2.mono (F':=X) ⟨a.os,a.tape,a.output,a.size,λb hb hn=>⟨hn,(a.block b hb (by simp)).2⟩⟩)).wide λz u=>by
   rcases u with u|⟨j,o,m,p,_⟩
   ·exact u
   ·obtain⟨rfl,rfl⟩:=uZ m;exact absurd rfl p⟩⟩
 ·simp only[RV] at k1 ⊢;subst k1;exact⟨Nat.le_refl _,by omega,none,rfl,Or.inr trivial⟩
 ·obtain⟨rfl,rfl⟩:=uZ r;exact⟨λ_=>rfl,λh=>absurd rfl h⟩
 ·obtain⟨rfl,rfl⟩:=uZ r;exact absurd rfl E
theorem KO.nv{f sz s:Nat}{l:List (List AV)}{as:List AV}{v:Id->Nat->Nat->AV}(h:l = []->KO P f (.nils::as) s t rows v)(j:KO P f (.nv sz l::as) s t rows v): KO P f (.vec sz l::as) s t rows v:=λX w cl a hl=>by
 simp only[RL] at hl;obtain⟨c,r,rfl,k1,b⟩:=hl;rcases k1.split with⟨e,k⟩|k
 ·exact h e X w _ a (by simp only[RL];exact⟨c,r,rfl,k,b⟩)
 ·exact j X w _ a (by simp only[RL];exact⟨c,r,rfl,k,b⟩)
theorem WF(h:H i=none)(s:o.cap=0): own (ze H i o)=own H:=by
 funext b
 apply propext;constructor
 ·rintro⟨j,p,a,m,q,r⟩;unfold ze at a;split at a
  ·injection a with a;subst a;exact absurd s m
  ·exact⟨j,p,a,m,q,r⟩
 ·rintro⟨j,p,a,m,q,r⟩;refine⟨j,p,?_,m,q,r⟩;unfold ze;rw[if_neg (λe=>by rw[e,h] at a;cases a)];exact a
theorem sS(t:Nat)(i:Id)(sz:Nat)(ty:TypeId)(hn:f t = .nils)(hi:H i=none)
  (h:AW P X N c Q (xb f t (.sl i 0 sz 0 0)) (ze H i ⟨0,0,sz,ty,[],false⟩)):AW P X N c Q f H:=λa w r=>by
 have D:=WF (o:=⟨0,0,sz,ty,[],false⟩) hi rfl;have x:zp X (ze H i ⟨0,0,sz,ty,[],false⟩)=zp X H:=by funext b;unfold zp;rw[D]
 have z:=h a w ⟨λs=>?_,⟨λj o m=>?_,λj o m q=>?_,λj E o F m p q u e=>?_,r.hp.xs,by rw[x];exact r.hp.gl⟩,r.df,r.sz⟩
 ·rw[D] at z;exact z
 ·rw[x];unfold xb;split
  ·rename_i e;subst e;have:=r.tm s;rw[hn] at this
   simp only[RV] at this ⊢;exact⟨Nat.le_refl _,by omega,none,this,Or.inr trivial⟩
  ·exact r.tm s
 ·rw[x];unfold ze at m;split at m
  ·injection m with m;subst m;exact⟨λ_=>rfl,λh=>absurd rfl h⟩
  ·exact r.hp.ob j o m
 ·unfold ze at m;split at m
  ·injection m with m;subst m;exact absurd rfl q
  ·exact r.hp.nx j o m q
 ·unfold ze at m p;split at m
  ·injection m with m;subst m;exact absurd rfl q
  ·split at p
   ·injection p with p;subst p;exact absurd rfl u
   ·exact r.hp.inj j E o F m p q u e
theorem Zk {a b:Type}{f:a->b}{l:List a}: List.take l.length (List.map f l)=List.map f l:=List.take_of_length_le (by simp)
theorem Zl {a b:Type}{f:a->b}{l:List a}{x:b}: List.take (l.length+1) (List.map f l++[x])=List.map f l++[x]:=List.take_of_length_le (by simp)
theorem Tx {a:Type}{l:List a}: List.take l.length l=l:=List.take_length
attribute [go_sem] Zk Zl Tx
attribute [go_sem] G0
theorem bh {F:Nat->Prop}{w:World}{k:Id}{sz:Nat}: ∀ {row:List AV} {cs:List Value} (j:Nat),RL F w row cs->row[j]?=some .nils->RL F w (row.set j (.sl k 0 sz 0 0)) cs
 |[],_,j,_,h=>by simp at h
 |a::row,cs,0,h,hj=>by
  simp only[RL] at h;obtain⟨c,r,rfl,k1,b⟩:=h;simp only[List.getElem?_cons_zero,Option.some.injEq] at hj;subst hj;simp only[List.set_cons_zero,RL];refine⟨c,r,rfl,?_,b⟩;simp only[RV] at k1 ⊢;exact⟨Nat.le_refl _,by omega,none,k1,Or.inr trivial⟩
 |a::row,cs,j+1,h,hj=>by
  simp only[RL] at h;obtain⟨c,r,rfl,k1,b⟩:=h;simp only[List.set_cons_succ,RL];exact⟨c,r,rfl,k1,bh j b (by simpa using hj)⟩
theorem wR(i k:Id)(j sz:Nat)(ty:TypeId){b cap z:Nat}{row:List AV}(hi:H i=some ⟨b,cap,z,t,[row],false⟩)(hn:row[j]?=some .nils)(R:H k=none)
  (h:AW P X N c Q f (ze (ze H i ⟨b,cap,z,t,[row.set j (.sl k 0 sz 0 0)],false⟩) k ⟨0,0,sz,ty,[],false⟩)):AW P X N c Q f H:=λa w r=>by
 have T:k≠i:=λe=>by rw[e,hi] at R;cases R
 have V:own (ze H i ⟨b,cap,z,t,[row.set j (.sl k 0 sz 0 0)],false⟩)=own H:=by
  funext z'
  apply propext;constructor
  ·rintro⟨q,p,u,E,I,F⟩;unfold ze at u;split at u
   ·rename_i e;injection u with u;subst u;exact⟨i,_,hi,E,rfl,F⟩
   ·exact⟨q,p,u,E,I,F⟩
  ·rintro⟨q,p,u,E,I,F⟩;by_cases e:q=i
   ·subst e;rw[hi] at u;injection u with u;subst u;exact⟨q,⟨b,cap,z,t,[row.set j (.sl k 0 sz 0 0)],false⟩,by unfold ze;rw[if_pos rfl],E,rfl,F⟩
   ·exact⟨q,p,by unfold ze;rw[if_neg e];exact u,E,I,F⟩
 have S:ze H i ⟨b,cap,z,t,[row.set j (.sl k 0 sz 0 0)],false⟩ k=none:=by unfold ze;rw[if_neg T];exact R
 have U:=WF (o:=⟨0,0,sz,ty,[],false⟩) S rfl;rw[V] at U;have O:zp X (ze (ze H i ⟨b,cap,z,t,[row.set j (.sl k 0 sz 0 0)],false⟩) k ⟨0,0,sz,ty,[],false⟩)=zp X H:=by funext b;unfold zp;rw[U]
 have u:=h a w ⟨λs=>by rw[O];exact r.tm s,⟨λq o m=>?_,λq o m x=>?_,λq q' o o' m W x M e=>?_,r.hp.xs,by rw[O];exact r.hp.gl⟩,r.df,r.sz⟩
 ·rw[U] at u;exact u
 ·rw[O];unfold ze at m;split at m
  ·injection m with m;subst m;exact⟨λ_=>rfl,λh=>absurd rfl h⟩
  ·split at m
   ·injection m with m;subst m;obtain⟨m1,m2⟩:=r.hp.ob i _ hi;refine⟨λe=>by have:=m1 e;simp at this,λe=>?_⟩;obtain⟨G,Y,p2,p3,p4⟩:=m2 e;refine⟨G,Y,p2,p3,?_⟩;simp only[RR] at p4 ⊢;obtain⟨q1,⟨cs,q2,q3⟩,_⟩:=p4;exact⟨by simpa using q1,⟨cs,bh j q2 hn,q3⟩,trivial⟩
   ·exact r.hp.ob q o m
 ·unfold ze at m;split at m
  ·injection m with m;subst m;exact absurd rfl x
  ·split at m
   ·injection m with m;subst m;exact r.hp.nx i ⟨b,cap,z,t,[row],false⟩ hi x
   ·exact r.hp.nx q o m x
 ·have D:∀q o,ze (ze H i ⟨b,cap,z,t,[row.set j (.sl k 0 sz 0 0)],false⟩) k ⟨0,0,sz,ty,[],false⟩ q=some o->o.cap≠0->∃p,H q=some p/\p.cap≠0/\p.b=o.b:=λq o m x=>by
   unfold ze at m;split at m
   ·injection m with m;subst m;exact absurd rfl x
   ·split at m
    ·rename_i e;injection m with m;subst m;subst e;exact⟨_,hi,x,rfl⟩
    ·exact⟨o,m,x,rfl⟩
  obtain⟨p,Y,p2,p3⟩:=D q o m x;obtain⟨p',Z,h5,h6⟩:=D q' o' W M;exact r.hp.inj q q' p p' Y Z p2 h5 (by rw[p3,h6,e])
theorem eQ {F F':Nat->Prop}{w:World}{a v:AV}(e:∀b,F' b->F b)(h:∀u,RV F w a u->RV F' w v u): ∀ {row:List AV} {cs:List Value} (j:Nat),RL F w row cs->row[j]?=some a->RL F' w (row.set j v) cs
 |[],_,j,_,hj=>by simp at hj
 |x::row,cs,0,hr,hj=>by
  simp only[RL] at hr;obtain⟨c,r,rfl,k1,m⟩:=hr;simp only[List.getElem?_cons_zero,Option.some.injEq] at hj;subst hj;simp only[List.set_cons_zero,RL];exact⟨c,r,rfl,h c k1,vP e m⟩
 |x::row,cs,j+1,hr,hj=>by
  simp only[RL] at hr;obtain⟨c,r,rfl,k1,m⟩:=hr;simp only[List.set_cons_succ,RL];exact⟨c,r,rfl,k1.wide e,eQ e h j m (by simpa using hj)⟩
theorem RR.wide {F F':Nat->Prop}(a:∀b,F' b->F b){b off sz:Nat}{l:List (List AV)}(h:RR F w b off sz l): RR F' w b off sz l :=
 RR.mono ⟨rfl,rfl,rfl,Nat.le_refl _,λz _ e=>⟨λy=>e (a z y),rfl⟩⟩ _ _ _ (λ_ _ h=>h) _ h
theorem pB {F F':Nat->Prop}{w:World}{a v:AV}(e:∀b,F' b->F b)(h:∀u,RV F w a u->RV F' w v u){b sz:Nat}: ∀ {l:List (List AV)} {off:Nat} (r j:Nat) {row:List AV},RR F w b off sz l->l[r]?=some row->row[j]?=some a->RR F' w b off sz (l.set r (row.set j v))
 |[],off,r,j,row,_,hr,_=>by simp at hr
 |x::l,off,0,j,row,hl,hr,hj=>by
  simp only[RR] at hl;obtain⟨k1,⟨cs,m,p⟩,q⟩:=hl;simp only[List.getElem?_cons_zero,Option.some.injEq] at hr;subst hr;simp only[List.set_cons_zero,RR];exact⟨by simpa using k1,⟨cs,eQ e h j m hj,p⟩,q.wide e⟩
 |x::l,off,r+1,j,row,hl,hr,hj=>by
  simp only[RR] at hl;obtain⟨k1,⟨cs,m,p⟩,q⟩:=hl;simp only[List.set_cons_succ,RR];exact⟨k1,⟨cs,vP e m,p⟩,pB e h r j q (by simpa using hr) hj⟩
theorem y8(L:List Id)(i:Id)(r j:Nat){row:List AV}{a v:AV}(hi:H i=some o)(V:o.rows[r]?=some row)(hj:row[j]?=some a)(T:i∉L)(hs:SV H L a v)
  (k:AW P X N c Q f (ze (frz L H) i { o with rows:=o.rows.set r (row.set j v) })):AW P X N c Q f H:=λac w rl=>by
 have x:frz L H i=some o:=by unfold frz;rw[if_neg T];exact hi
 have ho:own (ze (frz L H) i { o with rows:=o.rows.set r (row.set j v) })=own (frz L H):=by
  funext z
  apply propext;constructor
  ·rintro⟨q,p,m,E,F,G⟩;unfold ze at m;split at m
   ·rename_i e;injection m with m;subst m;exact⟨i,o,x,E,F,G⟩
   ·exact⟨q,p,m,E,F,G⟩
  ·rintro⟨q,p,m,E,F,G⟩;by_cases e:q=i
   ·subst e;rw[x] at m;injection m with m;subst m;exact⟨q,{ o with rows:=o.rows.set r (row.set j v) },by unfold ze;rw[if_pos rfl],E,F,G⟩
   ·exact⟨q,p,by unfold ze;rw[if_neg e];exact m,E,F,G⟩
 have S:zp X (ze (frz L H) i { o with rows:=o.rows.set r (row.set j v) })=zp X (frz L H):=by funext b;unfold zp;rw[ho]
 have D:∀z,zp X (frz L H) z->zp X H z:=λz q=>q.imp id x7;have I:=rl.hp.frz (L:=L);refine wp_mono (k ac w ⟨λu=>by rw[S];exact(rl.tm u).wide D,⟨λq p h=>?_,λq p h t=>?_,λq q' p M h U t R e=>?_,rl.hp.xs,by rw[S];exact rl.hp.gl.wide D⟩,rl.df,rl.sz⟩) λe a' w' ⟨f',H',q,r',ev⟩=>⟨f',H',q,r',ev.os,ev.tape,ev.output,ev.size,λz I hn=>ev.block z I λh=>hn (x7 (by rw[ho] at h;exact h))⟩
 ·rw[S];unfold ze at h;split at h
  ·injection h with h;subst h;obtain⟨m1,m2⟩:=rl.hp.ob i o hi;refine⟨λe=>by rw[m1 e] at V;simp at V,λe=>?_⟩;obtain⟨O,p1,p2,p3,p4⟩:=m2 e;exact⟨O,p1,p2,by simpa using p3,pB D (λu hu=>hs X w u rl.hp hu) r j p4 V hj⟩
  ·exact I.ob q p h
 ·unfold ze at h;split at h
  ·injection h with h;subst h;exact rl.hp.nx i o hi t
  ·exact I.nx q p h t
 ·have s:∀q p,ze (frz L H) i { o with rows:=o.rows.set r (row.set j v) } q=some p->p.cap≠0->∃M,frz L H q=some M/\M.cap≠0/\M.b=p.b:=λq p h t=>by
   unfold ze at h;split at h
   ·rename_i e;injection h with h;subst h;subst e;exact⟨o,x,t,rfl⟩
   ·exact⟨p,h,t,rfl⟩
  obtain⟨u,u1,u2,u3⟩:=s q p h t;obtain⟨u',W,Y,Z⟩:=s q' M U R;exact I.inj q q' u u' u1 W u2 Y (by rw[u3,Z,e])
theorem SV.own{b sz n cap:Nat}(q:H i=some o)(a:o.b=b)(e:o.cap=cap)(h:o.sz=sz)(j:n<=o.rows.length)(m:i∈L)(p:o.rows.take n=rows): SV H L (.sl i b sz n cap) (.vec sz rows) :=
 bW (p▸Or.inr (Or.inr ⟨i,b,sz,n,cap,o,rfl,q,a,e,h,j,Or.inl m,rfl⟩))
def hsi (ι:Nat->Id)(H:Hp): Nat->List Ob->Hp
 |_,[]=>H
 |k,o::As=>ze (hsi ι H (k+1) As) (ι k) o
abbrev hpi (ι:Nat->Id)(As:List Ob): Hp:=hsi ι (λ_=>none) 0 As
def vX (n:Nat)(ι:Nat->Id): Prop:=∀j,j<n->∀k,k<n->ι j=ι k->j=k
theorem im {ι:Nat->Id}{H:Hp}{i:Id}{o:Ob}: ∀ {As:List Ob} {k:Nat},hsi ι H k As i=some o->(∃j:Nat,i=ι (k+j)/\As[j]?=some o)\/((∀j,j<As.length->ι (k+j)≠i)/\H i=some o)
 |[],k,h=>Or.inr ⟨λj m=>by simp at m,h⟩
 |p::As,k,h=>by
  simp only[hsi,ze] at h;split at h
  ·rename_i e;injection h with h;subst h;exact Or.inl ⟨0,e,rfl⟩
  ·rename_i e;rcases im h with⟨j,a,b⟩|⟨a,b⟩
   ·exact Or.inl ⟨j+1,by rw[a];congr 1;omega,by simpa using b⟩
   ·refine Or.inr ⟨λj m=>?_,b⟩;cases j with
    |zero=>exact λz=>e z.symm
    |succ j=>have:=a j (by simpa using m);rwa[show k+(j+1)=k+1+j by omega]
theorem dg {ι:Nat->Id}{H:Hp}{o:Ob}: ∀ {As:List Ob} {k j:Nat},(∀a b,k<=a->k<=b->a<k+As.length->b<k+As.length->ι a=ι b->a=b)->As[j]?=some o->hsi ι H k As (ι (k+j))=some o
 |[],k,j,_,h=>by simp at h
 |p::As,k,0,_,h=>by simp at h;subst h;simp[hsi,ze]
 |p::As,k,j+1,hi,h=>by
  have t:=(List.getElem?_eq_some_iff.1 h).1;simp only[hsi,ze];rw[if_neg (λe=>by have:=hi _ _ (by omega) (Nat.le_refl k) (by omega) (by simp) e;omega)];rw[show k+(j+1)=k+1+j by omega];exact dg (λa b m q r s e=>hi a b (by omega) (by omega) (by simp;omega) (by simp;omega) e) (by simpa using h)
theorem pU(h:hpi ι As i=some o): ∃j:Nat,i=ι j/\As[j]?=some o:=by
 rcases im h with⟨j,a,b⟩|⟨_,h⟩
 ·exact⟨j,by rw[a,Nat.zero_add],b⟩
 ·cases h
theorem jc{j:Nat}(hi:vX n ι)(hn:As.length<=n)(h:As[j]?=some o): hpi ι As (ι j)=some o:=by
 have:=dg (ι:=ι) (H:=λ_=>none) (k:=0) (j:=j) (λa b _ _ m p e=>hi a (by omega) b (by omega) e) h
 rwa[Nat.zero_add] at this
def KG (P:Program)(f n:Nat)(l:(Nat->Id)->List AV)(A:(Nat->Id)->List Ob)(v:(Nat->Id)->(Nat->Nat×Nat)->AV)(A':(Nat->Id)->(Nat->Nat×Nat)->List Ob): Prop :=
 ∀(X:Nat->Prop) w cl (ι:Nat->Id),vX n ι->HOk X (hpi ι (A ι)) w->RL (zp X (hpi ι (A ι))) w (l ι) cl->Calls P f cl.toArray w λe w'=>∃q a,e = .returned a/\RV (zp X (hpi ι (A' ι q))) w' (v ι q) a/\HOk X (hpi ι (A' ι q)) w' /\
  Ev (own (hpi ι (A ι))) w (own (hpi ι (A' ι q))) w'
def AR (H:Hp)(l l':List AV): Prop:=∀X w cl,HOk X H w->RL (zp X H) w l cl->RL (zp X H) w l' cl
theorem AR.refl: AR H l l:=λ_ _ _ _ h=>h
theorem QY{f n m:Nat}(ι:Nat->Id)
  (h:KG P f n l' A v A') (hi:vX n ι) (hm:(A ι).length=m) (hp:m<=n) (hn:∀q,(A' ι q).length=n) (hA:∀(j:Nat) o,(A ι)[j]?=some o->H (ι j)=some o) (hk:∀k,m<=k->k<n->H (ι k)=none)
  (hfz:∀q,(A' ι q).all (λo=>!o.fz)=true) (hl:AR H l (l' ι)) (k:∀q,K (v ι q) (hsi ι H 0 (A' ι q))):wu false P f l H K:=λX w cl F hf=>by
 have s:∀ {i:Id} {o:Ob},hpi ι (A ι) i=some o->∃j:Nat,j<m/\i=ι j/\(A ι)[j]?=some o/\H i=some o:=fun {i o} r=>by
  obtain⟨j,rfl,u⟩:=pU r;exact⟨j,by rw[<-hm];exact(List.getElem?_eq_some_iff.1 u).1,rfl,u,hA j o u⟩
 obtain⟨Y,hY⟩:∃Y:Nat->Prop,Y=λz=>X z\/∃i o,(∀j,j<m->ι j≠i)/\H i=some o/\o.cap≠0/\o.fz=false/\o.b=z:=⟨_,rfl⟩
 have h6:∀z,zp Y (hpi ι (A ι)) z->zp X H z:=λz a=>by
  rcases a with a|⟨i,o,I,D,M,O⟩
  ·rw[hY] at a;rcases a with a|⟨i,o,_,I,D,M,O⟩
   ·exact Or.inl a
   ·exact Or.inr ⟨i,o,I,D,M,O⟩
  ·obtain⟨j,_,rfl,_,u⟩:=s I;exact Or.inr ⟨_,o,u,D,M,O⟩
 have he:HOk Y (hpi ι (A ι)) w:=by
  refine⟨λi o hi=>?_,λi o hi t hy=>?_,λi S o G hi r t R e=>?_,λz a=>?_,F.gl.wide h6⟩
  ·obtain⟨j,_,rfl,_,u⟩:=s hi;obtain⟨k1,k2⟩:=F.ob _ o u;refine⟨k1,λt=>?_⟩;obtain⟨U,p1,p2,p3,p4⟩:=k2 t;exact⟨U,p1,p2,p3,RR.mono ⟨rfl,rfl,rfl,Nat.le_refl _,λz _ a=>⟨λy=>a (h6 z y),rfl⟩⟩ _ _ _ (λ_ _ h=>h) _ p4⟩
  ·obtain⟨j,ha,rfl,_,u⟩:=s hi;rw[hY] at hy;rcases hy with hy|⟨S,G,I,D,M,O,h5⟩
   ·exact F.nx _ o u t hy
   ·have:=F.inj S _ G o D u M t h5
    subst this;exact I j ha rfl
  ·obtain⟨j,_,rfl,_,u⟩:=s hi;obtain⟨j',_,rfl,_,hg⟩:=s r;exact F.inj _ _ o G u hg t R e
  ·rw[hY] at a;rcases a with a|⟨i,o,_,I,D,M,rfl⟩
   ·exact F.xs z a
   ·exact F.lt I D
 refine(h Y w cl ι hi he (vP h6 (hl X w cl F hf))).mono λe w' ⟨q,cv,e1,k1,k2,k3⟩=>?_;have ze:∀i o,hsi ι H 0 (A' ι q) i=some o->(hpi ι (A' ι q) i=some o/\∃j:Nat,i=ι j/\(A' ι q)[j]?=some o)\/((∀j,j<n->ι j≠i)/\H i=some o):=λi o r=>by
  rcases im r with⟨j,p,E⟩|⟨p,E⟩
  ·rw[Nat.zero_add] at p;exact Or.inl ⟨by rw[p];exact jc hi (Nat.le_of_eq (hn q)) E,j,p,E⟩
  ·exact Or.inr ⟨λj u=>by have:=p j (by rw[hn q];exact u);rwa[Nat.zero_add] at this,E⟩
 have V:∀z,zp X (hsi ι H 0 (A' ι q)) z->zp Y (hpi ι (A' ι q)) z:=λz a=>by
  rcases a with a|⟨i,o,I,D,M,O⟩
  ·exact Or.inl (by rw[hY];exact Or.inl a)
  ·rcases ze i o I with⟨p,_⟩|⟨p,E⟩
   ·exact Or.inr ⟨i,o,p,D,M,O⟩
   ·exact Or.inl (by rw[hY];exact Or.inr ⟨i,o,λj u=>p j (by omega),E,D,M,O⟩)
 have x:∀z,own (hpi ι (A ι)) z->own H z:=λz ⟨i,o,I,D,M,O⟩=>by
  obtain⟨j,_,rfl,_,u⟩:=s I;exact⟨_,o,u,D,M,O⟩
 have h7:Ev (own H) w (own (hsi ι H 0 (A' ι q))) w':=by
  refine⟨k3.os,k3.tape,k3.output,k3.size,λz a h9=>⟨fun ⟨i,o,I,D,M,O⟩=>?_,(k3.block z a λq=>h9 (x z q)).2⟩⟩;rcases ze i o I with⟨p,_⟩|⟨p,E⟩
  ·exact(k3.block z a λq=>h9 (x z q)).1 ⟨i,o,p,D,M,O⟩
  ·exact h9 ⟨i,o,E,D,M,O⟩
 have W:∀i o,(∀j,j<n->ι j≠i)->H i=some o->o.cap≠0->¬own (hpi ι (A ι)) o.b:=λi o r ho t=>by
  rintro⟨S,G,I,D,M,O⟩;obtain⟨j,ha,rfl,_,u⟩:=s I;have:=F.inj _ i G o u ho D t O
  subst this;exact r j (by omega) rfl
 have h8:∀i o,hpi ι (A' ι q) i=some o->o.fz=false:=λi o r=>by
  obtain⟨j,rfl,u⟩:=pU r;have:=List.all_eq_true.1 (hfz q) o (List.mem_of_getElem? u)
  simpa using this
 refine⟨v ι q,hsi ι H 0 (A' ι q),cv,k q,e1,k1.wide V,⟨λi o hi=>?_,λi o hi t=>?_,λi S o G hi r t R e=>?_,λz a=>Nat.lt_of_lt_of_le (F.xs z a) k3.size,F.gl.mono h7.fb⟩,h7⟩
 ·rcases ze i o hi with⟨p,_⟩|⟨p,E⟩
  ·obtain⟨m1,m2⟩:=k2.ob i o p;refine⟨m1,λt=>?_⟩;obtain⟨U,p1,p2,p3,p4⟩:=m2 t;exact⟨U,p1,p2,p3,RR.mono ⟨rfl,rfl,rfl,Nat.le_refl _,λz _ a=>⟨λy=>a (V z y),rfl⟩⟩ _ _ _ (λ_ _ h=>h) _ p4⟩
  ·obtain⟨m1,m2⟩:=F.ob i o E;refine⟨m1,λt=>?_⟩;obtain⟨U,p1,p2,p3,p4⟩:=m2 t;have hb:=(k3.block o.b (F.lt E t) (W i o p E t)).2;exact⟨U,by rw[hb];exact p1,p2,p3,RR.mono h7.fb _ _ _ (λ_ _=>tW hb) _ p4⟩
 ·rcases ze i o hi with⟨p,_⟩|⟨p,E⟩
  ·exact λhx=>k2.nx i o p t (by rw[hY];exact Or.inl hx)
  ·exact F.nx i o E t
 ·have T:∀i S o G,hpi ι (A' ι q) i=some o->(∀j,j<n->ι j≠S)->H S=some G->o.cap≠0->G.cap≠0->o.b=G.b->False:=λi S o G a1 a2 a3 a4 a5 a6 =>
   (k3.block G.b (F.lt a3 a5) (W S G a2 a3 a5)).1 ⟨i,o,a1,a4,h8 i o a1,a6⟩
  rcases ze i o hi with⟨p,_⟩|⟨p,E⟩<;>rcases ze S G r with⟨Z,_⟩|⟨Z,hd⟩
  ·exact k2.inj i S o G p Z t R e
  ·exact(T _ _ _ _ p Z hd t R e).elim
  ·exact(T _ _ _ _ Z p E R t e.symm).elim
  ·exact F.inj i S o G E hd t R e
def obq (o a:Ob): Prop:=a.b=o.b/\a.cap=o.cap/\a.sz=o.sz/\a.ty=o.ty/\a.fz=o.fz/\a.rows.length=o.rows.length/\∀X w b off sz,RR X w b off sz o.rows->RR X w b off sz a.rows
def yy:List Ob->List Ob->Prop
 |[],l=>l = []
 |o::l,l'=>∃a r,l'=a::r/\obq o a/\yy l r
theorem obq.refl (o:Ob): obq o o:=⟨rfl,rfl,rfl,rfl,rfl,rfl,λ_ _ _ _ _ h=>h⟩
theorem yy.get:∀ {l l':List Ob},yy l l'->∀ {j:Nat} {a:Ob},l'[j]?=some a->∃o,l[j]?=some o/\obq o a
 |[],l',h,j,a,hj=>by simp only[yy] at h;subst h;simp at hj
 |o::l,l',h,j,a,hj=>by
  simp only[yy] at h;obtain⟨p,r,rfl,b,e⟩:=h;cases j with
  |zero=>simp at hj;subst hj;exact⟨o,rfl,b⟩
  |succ j=>simpa using e.get (by simpa using hj)
theorem yy.len:∀ {l l':List Ob},yy l l'->l'.length=l.length
 |[],l',h=>by simp only[yy] at h;subst h;rfl
 |o::l,l',h=>by simp only[yy] at h;obtain⟨p,r,rfl,b,a⟩:=h;simp[a.len]
theorem nJ {ι b:Nat->Id}{As a:List Ob}(hi:vX n ι)(hn:As.length<=n)(x:yy As a){z:Nat}(h:own (hpi b a) z): own (hpi ι As) z:=by
 obtain⟨i,o,r,s,t,u⟩:=h;obtain⟨j,rfl,w⟩:=pU r;obtain⟨p,hp,e,m,D,E,q,F,G⟩:=x.get w;exact⟨ι j,p,jc hi hn hp,by rw[<-m];exact s,by rw[<-q];exact t,by rw[<-e];exact u⟩
theorem dh {ι a:Nat->Id}{As b:List Ob}(hi:vX n ι)(Y:vX n a)(hn:As.length<=n)(T:yy As b)(h:HOk X (hpi ι As) w): HOk X (hpi a b) w:=by
 have x:∀z,zp X (hpi a b) z->zp X (hpi ι As) z:=λz q=>q.imp id (nJ hi hn T);have m:∀i o,hpi a b i=some o->∃j p,i=a j/\j<n/\hpi ι As (ι j)=some p/\obq p o:=λi o t=>by
  obtain⟨j,rfl,Z⟩:=pU t;obtain⟨p,hp,e⟩:=T.get Z;exact⟨j,p,rfl,Nat.lt_of_lt_of_le (List.getElem?_eq_some_iff.1 hp).1 hn,jc hi hn hp,e⟩
 refine⟨λi o t=>?_,λi o t r=>?_,λi i' o o' t W r M e=>?_,h.xs,h.gl.wide x⟩
 ·obtain⟨j,p,rfl,_,hp,u,s,S,U,e5,I,V⟩:=m i o t;obtain⟨k1,k2⟩:=h.ob _ p hp;refine⟨λr=>?_,λr=>?_⟩
  ·rw[s] at r;rw[k1 r] at I;exact List.length_eq_zero_iff.1 I
  ·rw[s] at r;obtain⟨E,m1,m2,m3,m4⟩:=k2 r;refine⟨E,by rw[u,U];exact m1,by rw[s,S];exact m2,by rw[I,s];exact m3,?_⟩;rw[u,S];exact RR.mono ⟨rfl,rfl,rfl,Nat.le_refl _,λz _ hz=>⟨λy=>hz (x z y),rfl⟩⟩ _ _ _ (λ_ _ h=>h) _ (V _ _ _ _ _ m4)
 ·obtain⟨j,p,rfl,_,hp,u,s,_⟩:=m i o t;rw[u];exact h.nx _ p hp (by rw[<-s];exact r)
 ·obtain⟨j,p,rfl,O,hp,u,s,_⟩:=m i o t;obtain⟨j',p',rfl,D,R,F,G,_⟩:=m i' o' W;have:=h.inj _ _ p p' hp R (by rw[<-s];exact r) (by rw[<-G];exact M) (by rw[<-u,<-F,e])
  rw[hi j O j' D this]
def di (H:Hp)(E:List Id)(a:Nat->Id): Nat->List Ob->Prop
 |_,[]=>True
 |k,o::l=>(∃p,H (a k)=some p/\p.b=o.b/\p.cap=o.cap/\p.sz=o.sz/\p.ty=o.ty/\p.fz=o.fz/\t9 H E p.rows o.rows)/\di H E a (k+1) l
theorem Zm {H:Hp}{E:List Id}{a:Nat->Id}: ∀ {l:List Ob} {k j:Nat} {o:Ob},di H E a k l->l[j]?=some o->∃p,H (a (k+j))=some p/\p.b=o.b/\p.cap=o.cap/\p.sz=o.sz/\p.ty=o.ty/\p.fz=o.fz/\t9 H E p.rows o.rows
 |[],k,j,o,_,hj=>by simp at hj
 |p::l,k,0,o,h,hj=>by simp at hj;subst hj;exact h.1
 |p::l,k,j+1,o,h,hj=>by
  have:=Zm (j:=j) h.2 (by simpa using hj)
  rwa[show k+1+j=k+(j+1) by omega] at this
def ji (L:List Id): Nat->Id:=λk=>L.getD k (.u (.u (.l k)))
def Zn (P:Program)(rs:List ResultVar)(n:Nat)(v:(Nat->Id)->(Nat->Nat×Nat)->AV)(A':(Nat->Id)->(Nat->Nat×Nat)->List Ob): AQ
 |.ret,f,H|.normal,f,H=>(match vy P f H rs with|some l=>∃(L:List Id)(q:Nat->Nat×Nat),vX n (ji L)/\di H L (ji L) 0 (A' (ji L) q)/\yK H L (vI l) (v (ji L) q)/\(A' (ji L) q).length=L.length|none=>False)
 |_,_,_=>False
def ιu:Nat->Id:=λk=>.u (.l k)
theorem ιu_inj: vX n ιu:=λj _ k _ e=>by injection e with e;injection e
theorem KG.avc (B:List Nat)(hP:wI P){f n:Nat}{fn:Func}{l:(Nat->Id)->List AV}{rs:List ResultVar}(hf:P.funcs[f]?=some fn)(hb:fn.body=some c)(hN:fn.ntmps=N)(hr:fn.results.toList=rs)(hl:(l ιu).length<=N)
  (ho:yS N B c=true) (R:∀ι,(A ι).length<=n) (t:∀ι q,(A' ι q).length=n) (S:∀ι a,yy (A ι) (A a)) (I:∀ι a q,yy (A' ι q) (A' a q)) (he:∀ι a X w cl,RL X w (l ι) cl->RL X w (l a) cl) (hg:∀ι a q X w u,RV X w (v ι q) u->RV X w (v a q) u)
  (h:∀X,AM.avc P X N B c (stQ P X N B [] (Zn P rs n v A')) (fr0 0 (l ιu)) (hpi ιu (A ιu))):KG P f n l A v A':=λX w cl ι hi hH h9=>by
 have G:∀z,own (hpi ιu (A ιu)) z->own (hpi ι (A ι)) z:=λz=>nJ hi (R _) (S _ _);have hd:∀z,own (hpi ι (A ι)) z->own (hpi ιu (A ιu)) z:=λz=>nJ ιu_inj (R _) (S _ _);refine gI hf hb hN hl (dh hi ιu_inj (R _) (S _ _) hH) (vP (λz q=>q.imp id (G z)) (he _ _ _ _ _ h9)) (tX hP ho (h X)) λe f' H' a' w' q F ev=>?_;have h6:(match vy P f' H' rs with|some l=>∃(L:List Id)(q:Nat->Nat×Nat),vX n (ji L)/\di H' L (ji L) 0 (A' (ji L) q)/\yK H' L (vI l) (v (ji L) q)/\(A' (ji L) q).length=L.length|none=>False)->bodyPost P fn (λe w'=>∃q cv,e = .returned cv/\RV (zp X (hpi ι (A' ι q))) w' (v ι q) cv/\HOk X (hpi ι (A' ι q)) w' /\
  Ev (own (hpi ι (A ι))) w (own (hpi ι (A' ι q))) w') .ret a' w':=λq=>by
  split at q
  ·rename_i lr ha;obtain⟨L,q,hj,hG,hv,hL⟩:=q;obtain⟨u,m1,m2⟩:=ph F hr ha;have m:∀i o,hpi (ji L) (A' (ji L) q) i=some o->∃j,i=ji L j/\j<n/\ji L j∈L/\∃p,H' (ji L j)=some p/\p.b=o.b/\p.cap=o.cap/\p.sz=o.sz/\p.ty=o.ty/\p.fz=o.fz/\t9 H' L p.rows o.rows:=λi o M=>by
    obtain⟨j,rfl,Y⟩:=pU M;have Z:=(List.getElem?_eq_some_iff.1 Y).1;have:=Zm hG Y
    rw[Nat.zero_add] at this;refine⟨j,rfl,by rw[<-t (ji L) q];exact Z,?_,this⟩;unfold ji;rw[List.getD_eq_getElem?_getD,List.getElem?_eq_getElem (by rw[<-hL];exact Z)];exact List.getElem_mem _
   have O:∀z,zp X (hpi (ji L) (A' (ji L) q)) z->lK X H' L z:=λz E=>by
    rcases E with E|⟨i,o,M,T,U,V⟩
    ·exact Or.inl E
    ·obtain⟨j,rfl,_,D,p,p0,x,r,p3,p4,p5,p6⟩:=m i o M;exact Or.inr ⟨_,p,D,p0,by rw[r];exact T,by rw[p5];exact U,by rw[x];exact V⟩
   have h8:HOk X (hpi (ji L) (A' (ji L) q)) w':=by
    refine⟨λi o hi=>?_,λi o hi W=>?_,λi i' o o' M T U V e=>?_,F.hp.xs,F.hp.gl.wide λz y=>yQ (O z y)⟩
    ·obtain⟨j,rfl,_,D,p,p0,x,r,p3,p4,p5,p6⟩:=m i o hi;obtain⟨k1,k2⟩:=F.hp.ob _ p p0;have s:=ie p6;refine⟨λW=>?_,λW=>?_⟩
     ·rw[k1 (by rw[r];exact W)] at s;exact List.length_eq_zero_iff.1 s
     ·obtain⟨h7,m1,m2,m3,m4⟩:=k2 (by rw[r];exact W);refine⟨h7,by rw[<-x,<-p4];exact m1,by rw[m2,r,p3],by rw[s,<-r];exact m3,?_⟩;rw[<-x,<-p3];exact RR.mono ⟨rfl,rfl,rfl,Nat.le_refl _,λz _ E=>⟨λy=>E (O z y),rfl⟩⟩ _ _ _ (λ_ _ h=>h) _ (eX F.hp p6 m4)
    ·obtain⟨j,rfl,_,D,p,p0,x,r,p3,p4,p5,p6⟩:=m i o hi;rw[<-x];exact F.hp.nx _ p p0 (by rw[r];exact W)
    ·obtain⟨j,rfl,hu,_,p,p0,x,r,_⟩:=m i o M;obtain⟨j',rfl,ht,_,p',hk,hm,hq,_⟩:=m i' o' T;exact F.hp.inj _ _ p p' p0 hk (by rw[r];exact U) (by rw[hq];exact V) (by rw[x,hm,e])
   have h5:∀z,own (hpi ι (A' ι q)) z->own (hpi (ji L) (A' (ji L) q)) z:=λz=>nJ hj (Nat.le_of_eq (t _ _)) (I _ _ _);refine⟨F.df,u,m1,q,u,rfl,(hg _ _ _ _ _ _ (sN F.hp hv m2)).wide λz E=>O z (E.imp id (h5 z)),dh hj hi (Nat.le_of_eq (t _ _)) (I _ _ _) h8,ev.os,ev.tape,ev.output,ev.size,λz E hn=>?_⟩;have hb:=ev.block z E λh=>hn (G z h);refine⟨λh=>hb.1 ?_,hb.2⟩;obtain⟨i,o,M,T,U,V⟩:=h5 z h;obtain⟨j,rfl,_,D,p,p0,x,r,p3,p4,p5,p6⟩:=m i o M;exact⟨_,p,p0,by rw[r];exact T,by rw[p5];exact U,by rw[x];exact V⟩
  ·exact q.elim
 cases e with
 |ret=>exact h6 q
 |normal=>exact h6 q
 |_=>exact q.elim
section
variable {P:Program} {f:Fr} {H:Hp} {rs:List ResultVar} {n:Nat} {v:(Nat -> Id) -> (Nat -> Nat×Nat) -> AV} {A':(Nat -> Id) -> (Nat -> Nat×Nat) -> List Ob}
theorem FQ:Zn P rs n v A' .ret f H=(match vy P f H rs with|some l=>∃(L:List Id)(q:Nat->Nat×Nat),vX n (ji L)/\di H L (ji L) 0 (A' (ji L) q)/\yK H L (vI l) (v (ji L) q)/\(A' (ji L) q).length=L.length|none=>False):=rfl
theorem FR:Zn P rs n v A' .normal f H=(match vy P f H rs with|some l=>∃(L:List Id)(q:Nat->Nat×Nat),vX n (ji L)/\di H L (ji L) 0 (A' (ji L) q)/\yK H L (vI l) (v (ji L) q)/\(A' (ji L) q).length=L.length|none=>False):=rfl
theorem JT{k:Nat}: hsi ι H k []=H:=rfl
theorem JU{k:Nat}: hsi ι H k (o::As)=ze (hsi ι H (k+1) As) (ι k) o:=rfl
theorem FS {a:Id}: ji (a::L) 0=a:=rfl
theorem FT {a b:Id}: ji (a::b::L) 1=b:=rfl
theorem FU {a b c:Id}: ji (a::b::c::L) 2=c:=rfl
theorem ιu_k {k:Nat}: ιu k = .u (.l k):=rfl
end
attribute [go_sem] FQ FR JT JU FS FT FU ιu_k
theorem VI {X:Nat->Prop}{w:World}{j m:List AV}(hl:m.length=j.length)(h:∀cs,RL X w j cs->RL X w m cs){b sz:Nat}: ∀ {l:List (List AV)} {off:Nat} (r:Nat),RR X w b off sz (l.set r j)->RR X w b off sz (l.set r m)
 |[],off,r,hr=>by simpa using hr
 |x::l,off,0,hr=>by
  simp only[List.set_cons_zero,RR] at hr ⊢;obtain⟨k1,⟨cs,a,p⟩,e⟩:=hr;exact⟨by rw[hl];exact k1,⟨cs,h cs a,p⟩,e⟩
 |x::l,off,r+1,hr=>by
  simp only[List.set_cons_succ,RR] at hr ⊢;obtain⟨k1,a,e⟩:=hr;exact⟨k1,a,VI hl h r e⟩
theorem Mj(t:Nat){b sz n cap:Nat}(hn:f t = .sl i b sz n cap)(h:AW P X N c Q (xb f t (.so i b sz 0 n cap)) H): AW P X N c Q f H:=λa w r =>
 h a w ⟨λs=>by
  unfold xb;split
  ·rename_i e;subst e;have:=r.tm s;rw[hn] at this
   simp only[RV] at this ⊢;simpa using this
  ·exact r.tm s,r.hp,r.df,r.sz⟩
def sW (ι:Nat->Id)(H:Hp): Nat->List Ob->Prop
 |_,[]=>True
 |k,o::As=>H (ι k)=some o/\sW ι H (k+1) As
def wv (ι:Nat->Id)(H:Hp): Nat->Nat->Prop
 |_,0=>True
 |k,c+1=>H (ι k)=none/\wv ι H (k+1) c
theorem pV {ι:Nat->Id}{H:Hp}: ∀ {As:List Ob} {k j:Nat} {o:Ob},sW ι H k As->As[j]?=some o->H (ι (k+j))=some o
 |[],k,j,o,_,hj=>by simp at hj
 |p::As,k,0,o,h,hj=>by simp at hj;subst hj;exact h.1
 |p::As,k,j+1,o,h,hj=>by
  have:=pV (j:=j) h.2 (by simpa using hj)
  rwa[show k+1+j=k+(j+1) by omega] at this
theorem oP {ι:Nat->Id}{H:Hp}: ∀ {c k j:Nat},wv ι H k c->k<=j->j<k+c->H (ι j)=none
 |0,k,j,_,h1,h2=>by omega
 |c+1,k,j,h,h1,h2=>by
  rcases Nat.eq_or_lt_of_le h1 with rfl|a
  ·exact h.1
  ·exact oP h.2 a (by omega)
theorem Ua{f n:Nat}(ι:Nat->Id)(m c:Nat)
  (h:KG P f n l' A v A') (hi:vX n ι) (hm:(A ι).length=m) (r:m+c=n) (hn:∀q,(A' ι q).length=n) (hfz:∀q,(A' ι q).all (λo=>!o.fz)=true) (e:sW ι H 0 (A ι)) (a:wv ι H m c)
  (hl:AR H l (l' ι)) (k:∀q,K (v ι q) (hsi ι H 0 (A' ι q))):wu false P f l H K :=
 QY ι h hi hm (by omega) hn (λj o p=>by have:=pV e p;rwa[Nat.zero_add] at this) (λj b s=>oP a b (by omega)) hfz hl k
theorem JV{k:Nat}: sW ι H k []=True:=rfl
theorem JW{k:Nat}: sW ι H k (o::As)=(H (ι k)=some o/\sW ι H (k+1) As):=rfl
theorem JX{k:Nat}: wv ι H k 0=True:=rfl
theorem JY{k:Nat}: wv ι H k 1=(H (ι k)=none):=by simp[wv]
theorem JZ{k:Nat}: wv ι H k 2=(H (ι k)=none/\H (ι (k+1))=none):=by simp[wv]
attribute [go_sem] JV JW JX JY JZ
theorem yy.nil:yy [] []:=rfl
theorem yy.cons {o a:Ob}{l l':List Ob}(h:obq o a)(k:yy l l'): yy (o::l) (a::l'):=⟨_,_,rfl,h,k⟩
theorem obq.row {b cap sz:Nat}{fz:Bool}{r:Nat}{a e:List AV}(hl:e.length=a.length)(h:∀X w cs,RL X w a cs->RL X w e cs): obq ⟨b,cap,sz,ty,rows.set r a,fz⟩ ⟨b,cap,sz,ty,rows.set r e,fz⟩ :=
 ⟨rfl,rfl,rfl,rfl,rfl,by simp,λ_ _ _ _ _ j=>VI hl (λ_ k=>h _ _ _ k) r j⟩
instance {n:Nat}{ι:Nat->Id}: Decidable (vX n ι):=by unfold vX;infer_instance
def qH (H:Hp)(i:Id): Hp:=λj=>if j=i then none else H j
theorem Ia{i j:Id}: qH H i j=if j=i then none else H j:=rfl
attribute [go_sem] Ia
theorem sT(i j E:Id)(r I:Nat){o p:Ob}{row:List AV}{b sz n cap:Nat}(hi:H i=some o)(V:H j=none)(hp:H E=some p)(W:E≠i)(hr:p.rows[r]?=some row)(U:row[I]?=some (.sl i b sz n cap))
  (k:AW P X N c Q f (ze (ze (qH H i) j o) E { p with rows:=p.rows.set r (row.set I (.sl j b sz n cap)) })):AW P X N c Q f H:=λac w rl=>by
 have h8:j≠E:=λe=>by rw[e,hp] at V;cases V
 generalize x:ze (ze (qH H i) j o) E { p with rows:=p.rows.set r (row.set I (.sl j b sz n cap)) }=H' at k;have t:∀q s,H' q=some s->(q=E/\s = { p with rows:=p.rows.set r (row.set I (.sl j b sz n cap)) })\/(q=j/\s=o)\/(q≠E/\q≠j/\q≠i/\H q=some s):=λq s h=>by
  rw[<-x] at h;unfold ze at h;split at h
  ·injection h with h;exact Or.inl ⟨by assumption,h.symm⟩
  ·split at h
   ·injection h with h;exact Or.inr (Or.inl ⟨by assumption,h.symm⟩)
   ·unfold qH at h;split at h
    ·cases h
    ·exact Or.inr (Or.inr ⟨by assumption,by assumption,by assumption,h⟩)
 have D:∀q s,H' q=some s->∃F p0,H F=some p0/\p0.b=s.b/\p0.cap=s.cap/\p0.fz=s.fz/\(F=q\/(F=i/\q=j)):=λq s h=>by
  rcases t q s h with⟨rfl,rfl⟩|⟨rfl,rfl⟩|⟨_,_,_,h⟩
  ·exact⟨q,p,hp,rfl,rfl,rfl,Or.inl rfl⟩
  ·exact⟨i,s,hi,rfl,rfl,rfl,Or.inr ⟨rfl,rfl⟩⟩
  ·exact⟨q,s,h,rfl,rfl,rfl,Or.inl rfl⟩
 have ho:own H'=own H:=by
  funext z
  apply propext;constructor
  ·rintro⟨q,s,m,R,S,T⟩;obtain⟨F,p0,e1,e2,e3,e4,_⟩:=D q s m;exact⟨F,p0,e1,by rw[e3];exact R,by rw[e4];exact S,by rw[e2];exact T⟩
  ·rintro⟨q,s,m,R,S,T⟩;by_cases e:q=i
   ·subst e;rw[hi] at m;injection m with m;subst m;exact⟨j,o,by rw[<-x];unfold ze;rw[if_neg h8,if_pos rfl],R,S,T⟩
   ·by_cases e':q=E
    ·subst e';rw[hp] at m;injection m with m;subst m;exact⟨q,{ p with rows:=p.rows.set r (row.set I (.sl j b sz n cap)) },by rw[<-x];unfold ze;rw[if_pos rfl],R,S,T⟩
    ·exact⟨q,s,by rw[<-x];unfold ze qH;rw[if_neg e',if_neg (λh6=>by rw[h6,V] at m;cases m),if_neg e];exact m,R,S,T⟩
 have hf:zp X H'=zp X H:=by funext z;unfold zp;rw[ho]
 refine wp_mono (k ac w ⟨λu=>by rw[hf];exact rl.tm u,⟨λq s O=>?_,λq s O U=>?_,λq q' Z p2 O Y U h7 e=>?_,rl.hp.xs,by rw[hf];exact rl.hp.gl⟩,rl.df,rl.sz⟩) λe a' w' ⟨f',H2,q,r',ev⟩=>⟨f',H2,q,r',by rw[ho] at ev;exact ev⟩
 ·rw[hf];rcases t q s O with⟨rfl,rfl⟩|⟨rfl,rfl⟩|⟨_,_,_,h⟩
  ·obtain⟨m1,m2⟩:=rl.hp.ob q p hp;refine⟨λe=>by rw[m1 e] at hr;simp at hr,λe=>?_⟩;obtain⟨h5,Z,p2,p3,p4⟩:=m2 e;exact⟨h5,Z,p2,by simpa using p3,pB (λ_ h=>h) (λu hu=>by simpa only[RV] using hu) r I p4 hr U⟩
  ·exact rl.hp.ob i s hi
  ·exact rl.hp.ob q s h
 ·obtain⟨F,p0,e1,e2,e3,_⟩:=D q s O;rw[<-e2];exact rl.hp.nx F p0 e1 (by rw[e3];exact U)
 ·obtain⟨a,pa,a1,a2,a3,_,G⟩:=D q Z O;obtain⟨d,pd,d1,d2,d3,_,M⟩:=D q' p2 Y;have:=rl.hp.inj a d pa pd a1 d1 (by rw[a3];exact U) (by rw[d3];exact h7) (by rw[a2,d2,e])
  subst this;rcases G with G|⟨G,a6⟩<;>rcases M with M|⟨M,d6⟩
  ·rw[<-G,<-M]
  ·-- q=i,and i is no name any more
   subst G;subst M;rcases t a Z O with⟨m,_⟩|⟨m,_⟩|⟨_,_,m,_⟩
   ·exact absurd m.symm W
   ·rw[m,V] at hi;cases hi
   ·exact absurd rfl m
  ·subst G;subst M;rcases t a p2 Y with⟨m,_⟩|⟨m,_⟩|⟨_,_,m,_⟩
   ·exact absurd m.symm W
   ·rw[m,V] at hi;cases hi
   ·exact absurd rfl m
  ·rw[a6,d6]
theorem VJ{b sz n cap:Nat}{row:List AV}{a v:AV}(r j:Nat)(D:H i=some o)(T:o.b=b)(U:o.cap=cap)(V:o.sz=sz)(F:o.rows[r]?=some row)(Z:row[j]?=some a)(hs:SV H L a v)(h4:n<=o.rows.length)(W:i∈L)
  (Y:(o.rows.set r (row.set j v)).take n=rows):SV H L (.sl i b sz n cap) (.vec sz rows):=λX w u x E=>by
 subst T U V Y;simp only[RV] at E ⊢;obtain⟨k1,k2,ad,rfl,t⟩:=E;have hl:((o.rows.set r (row.set j v)).take n).length=n:=by simp;omega
 rw[hl];have m:o.cap≠0:=λe=>by rw[(x.ob i o D).1 e] at F;simp at F
 have hn:¬zp X (frz L H) o.b:=by
  rintro(q|⟨q,p,s,M,G,I⟩)
  ·exact x.nx i o D m q
  ·obtain⟨p',O,R,S,_,_,_,e7⟩:=pD q p s;have:=x.inj q i p' o O D (by rw[S];exact M) m (by rw[R,I])
   subst this;unfold frz at s;rw[if_pos W,D] at s;simp at s;rw[<-s] at G;cases G
 refine⟨ad,o.cap,rfl,k1,k2,λe=>?_,λq e h7=>?_⟩
 ·rcases t with rfl|t
  ·cases e
  ·exact t
 ·rcases t with rfl|t
  ·injection e with e;subst e;obtain⟨c,s,M,G,I⟩:=(x.ob i o D).2 m;exact⟨o.b,0,rfl,(Array.getElem?_eq_some_iff.1 s).1,hn,(pB (λz h=>h.imp id x7) (λu E=>hs X w u x E) r j I F Z).take n⟩
  ·exact absurd t m
theorem SV.agg{l l':List AV}(h:SVL H L l l'): SV H L (.agg l) (.agg l'):=λX w u b a=>by
 simp only[RV] at a ⊢;obtain⟨cs,e,k⟩:=a;exact⟨cs,e,h.rl b k⟩
theorem SVL.nil: SVL H L [] []:=rfl
theorem SVL.cons{a b:AV}{l l':List AV}(h:SV H L a b)(k:SVL H L l l'): SVL H L (a::l) (b::l'):=⟨_,_,rfl,h,k⟩
theorem Ub{l l':List AV}{v:AV}(L:List Id)(h:K1 P g l' v)(hs:SVL H L l l')(a:mu v=true)(q:k v H): wu false P g l H k:=aS L h hs a q
theorem Xm(i:Id)(hi:H i=some o)(h:o.rows.length<=o.cap->AW P X N c Q f H): AW P X N c Q f H:=λa w r=>by
 refine h ?_ a w r;by_cases b:o.cap=0
 ·rw[(r.hp.ob i o hi).1 b];simp
 ·obtain⟨_,_,_,k,_⟩:=(r.hp.ob i o hi).2 b;exact k
def m7 (Q:AQ): AQ
 |.goto _,_,_=>False
 |e,f,H=>Q e f H
theorem ul(h:AW P X N c (m7 Q) f H): AW P X N (.scope c) Q f H:=λa w r =>
 wp_scope_straight (wp_mono (h a w r) λe a' w' ⟨b,H',q,j,v⟩=>by
  cases e
  case goto l=>exact q.elim
  all_goals exact⟨b,H',q,j,v⟩)
def jg (l:Nat)(J:Fr->Hp->Prop)(Q:AQ): AQ
 |.goto l',f,H=>l'=l/\J f H
 |e,f,H=>Q e f H
theorem Rg{c j:Code}(l:Nat)(J:Fr->Hp->Prop)(u:findLabel c l=some j)(h:AW P X N c (jg l J Q) f H)(k:∀b H',J b H'->AW P X N j (m7 Q) b H'): AW P X N (.scope c) Q f H:=λa w r=>by
 refine wp_scope_jumps l (λa' w'=>∃b H',J b H'/\Rel X N b H' a' w'/\Ev (own H) w (own H') w') (λ_ _=>0) u (wp_mono (h a w r) λe a' w' ⟨b,H',q,m,v⟩=>?_) λs E ⟨t,p,x,z,D⟩=>wp_mono (k t p x s E z) λe a' w' ⟨b,H',q,m,v⟩=>?_
 ·cases e
  case goto l'=>exact⟨q.1,b,H',q.2,m,v⟩
  all_goals exact⟨b,H',q,m,v⟩
 ·cases e
  case goto l'=>exact q.elim
  all_goals exact⟨b,H',q,m,D.trans v⟩
section
variable {P:Program} {X:Nat -> Prop} {N:Nat} {B:List Nat} {c:Code} {Q:AQ} {f:Fr} {H:Hp} {J:Fr -> Hp -> Prop} {l l':Nat}
theorem R7:avc P X N B (.scope c) Q f H=AW P X N (.scope c) Q f H:=rfl
theorem FV:m7 Q .normal f H=Q .normal f H:=rfl
theorem FW:m7 Q .ret f H=Q .ret f H:=rfl
theorem FX:m7 Q (.exit l) f H=Q (.exit l) f H:=rfl
theorem FY:m7 Q (.goto l) f H=False:=rfl
theorem FZ:jg l J Q .normal f H=Q .normal f H:=rfl
theorem Ea:jg l J Q .ret f H=Q .ret f H:=rfl
theorem Eb:jg l J Q (.exit l') f H=Q (.exit l') f H:=rfl
theorem Ec:jg l J Q (.goto l') f H=(l'=l/\J f H):=rfl
end
attribute [go_sem] R7 FV FW FX FY FZ Ea Eb Ec
section
variable {P:Program}
theorem zi {f j n:Nat}(L:List Id)(m c:Nat)
  (h:KG P f n l' A v A') (k:∀q,K (v (ji L) q) (hsi (ji L) H 0 (A' (ji L) q))) (e:Nat.beq j f=true:=by first|rfl|(simp only[Nat.beq_refl];done)|fail) (hl:AR H l (l' (ji L)):=by exact AR.refl) (hi:vX n (ji L):=by decide +kernel) (hm:(A (ji L)).length=m:=by rfl) (b:m+c=n:=by rfl) (hn:∀q,(A' (ji L) q).length=n:=by exact λ_=>rfl) (hfz:∀q,(A' (ji L) q).all (λo=>!o.fz)=true:=by exact λ_=>rfl)
  (p:sW (ji L) H 0 (A (ji L)):=by first|(go_simp;done)|fail) (a:wv (ji L) H m c:=by first|(go_simp;done)|fail):wu false P j l H K:=Nat.eq_of_beq_eq_true e▸Ua (ji L) m c h hi hm b hn hfz p a hl k
theorem gL{m:Bool}{g a:Nat}{l l':List AV}{v:AV}(L:List Id)(h:K1 P g l' v)(q:k v H)(e:Nat.beq a g=true:=by first|rfl|(simp only[Nat.beq_refl];done)|fail)(hs:svl H L l l':=by(repeat'(first|exact jv|refine rN ?_ ?_|exact aq|exact WW|exact au rfl rfl rfl rfl (Nat.le_of_ble_eq_true rfl) (by decide) rfl))<;>fail)(b:mu v=true:=by rfl): wu m P a l H k:=Nat.eq_of_beq_eq_true e▸VU L h hs b q
theorem nK {g b:Nat}{l l':List AV}{v:AV}(L:List Id)(h:K1 P g l' v)(q:k v H)(e:Nat.beq b g=true:=by first|rfl|(simp only[Nat.beq_refl];done)|fail)(hs:SVL H L l l':=by first|((try simp only[Sa.a,Sa.c,yh,sx,List.map_nil,Fm.a,Fm.c,Pr.a,Pr.c,Mo.a,Mo.c,Me.a,Me.c,Po.a,Po.c]);(repeat'(first|with_reducible exact SVL.nil|with_reducible refine SVL.cons ?_ ?_|with_reducible exact SV.refl _ _ _|with_reducible refine SV.agg ?_|exact SV.own rfl rfl rfl rfl (by first|exact Nat.le_refl _|(simp;done)) (by decide) (List.take_of_length_le (by simp))|exact SV.nil _ _ _));done)|fail)(j:mu v=true:=by rfl): wu false P b l H k:=Nat.eq_of_beq_eq_true e▸Ub L h hs j q
theorem xX {f m:Nat}{l l':List AV}{As a:List Ob}{v:AV}(is:List Id)(h:KP P f l' As v a)(q:k v (sq H is a))(e:Nat.beq m f=true:=by first|rfl|(simp only[Nat.beq_refl];done)|fail)(p:is.map H=As.map some:=by first|(go_simp;done)|fail)(j:is.Nodup:=by decide)(hfz:As.all (λo=>!o.fz&&(o.cap != 0))=true:=by rfl)
  (hb:a.map (λo=>(o.b,o.cap,o.fz))=As.map (λo=>(o.b,o.cap,o.fz)):=by first|(simp only[List.map_cons,List.map_nil];done)|fail)
  (hl:pel H l l':=by(repeat'(first|exact O7|refine R4 ?_ ?_|exact JO|exact MC|refine JQ ?_|exact OC|refine MF ?_|refine OD ?_|exact JN|exact O8|exact JP rfl rfl rfl rfl (Nat.le_of_ble_eq_true rfl) rfl rfl))<;>fail):wu false P m l H k:=Nat.eq_of_beq_eq_true e▸JE is h p j hfz hb hl q
theorem yU(L:List Id)(i:Id)(r j:Nat){row:List AV}{a v:AV}(k:AW P X N c Q f (ze (frz L H) i { o with rows:=o.rows.set r (row.set j v) }))
  (hi:H i=some o:=by rfl) (h:o.rows[r]?=some row:=by rfl) (e:row[j]?=some a:=by rfl) (b:i∉L:=by decide) (hs:SV H L a v:=by exact SV.own rfl rfl rfl rfl (by simp) (by decide) (List.take_of_length_le (by simp))):AW P X N c Q f H:=y8 L i r j hi h e b hs k
theorem OB{E:List Id}{x:Option Ob}{b c s:Nat}{fz:Bool}(h:x=some ⟨b,c,s,t,rows,fz⟩:=by rfl): ∃p,x=some p/\p.b=b/\p.cap=c/\p.sz=s/\p.ty=t/\p.fz=fz/\t9 H E p.rows rows:=⟨_,h,rfl,rfl,rfl,rfl,rfl,xi _ _ _⟩
end
end Go.Proofs.YtllodfoldffonaaGreatDoor.AM
