/- A part of the proof. -/
import Derived.Test.YtllodfoldffonaaGreatDoorQ04
namespace Go.Proofs.YtllodfoldffonaaGreatDoor.AM
open Go.RowKit
set_option linter.unusedSimpArgs false
set_option linter.unusedVariables false
set_option maxRecDepth 100000
set_option maxHeartbeats 16000000
variable {B:List Nat}{H:Hp}{K:Fr->Hp->Prop}{L:List Id}{N:Nat}{P:Program}{Q:AQ}{X:Nat->Prop}{af:Array Edge}{d:Nat}{dst:Option Nat}{f:Fr}{g:Nat->AV}{i:Id}{is:List Id}{k:Nat}{l:List AV}{n:Nat}{o:Oper}{ob:Nat->Nat->Ob}{op:Op}{ops:Array Oper}{pos:String}{rows:List (List AV)}{s:Nat}{t:TypeId}{ty:TypeId}{v:AV}{w:Nat->Nat->AV}
theorem KO.k1{f:Nat}{v:Id->Nat->Nat->AV}{v':AV}(h:KO P f l s t rows v)(u:∀b c,yK (hpl [(.l 0,⟨b,c,s,t,rows,false⟩)]) [] (v (.l 0) b c) v'): K1 P f l v':=λX w cl r a =>
 (h X w cl r a).mono λe w' ⟨b,c,m,p,k1,x,j⟩=>⟨m,p,(sN (j (.l 0)).2 (u b c) (j (.l 0)).1).wide λz q=>Or.inl q,k1⟩
section
variable {P:Program} {f:Fr} {H:Hp} {rs:List ResultVar} {s:Nat} {t:TypeId} {rows:List (List AV)} {v:Id -> Nat -> Nat -> AV}
theorem Fx:Za P rs s t rows v .ret f H=(match vy P f H rs with|some l=>∃j b c,H j=some ⟨b,c,s,t,rows,false⟩/\yK H [j] (vI l) (v j b c)|none=>False):=rfl
theorem Fy:Za P rs s t rows v .normal f H=(match vy P f H rs with|some l=>∃j b c,H j=some ⟨b,c,s,t,rows,false⟩/\yK H [j] (vI l) (v j b c)|none=>False):=rfl
end
attribute [go_sem] Fx Fy
def vJ (As:List Ob): Hp:=λi=>match i with
 |.u (.l k)=>As[k]?
 |_=>none
def KP (P:Program)(f:Nat)(l:List AV)(As:List Ob)(v:AV)(As':List Ob): Prop :=
 ∀(X:Nat->Prop) w cl,HOk X (vJ As) w->RL (zp X (vJ As)) w l cl->Calls P f cl.toArray w λe w'=>∃a,e = .returned a/\RV (zp X (vJ As')) w' v a/\HOk X (vJ As') w'/\Ev (own (vJ As)) w (own (vJ As')) w'
theorem wg {As:List Ob}{o:Ob}(h:vJ As i=some o): ∃k:Nat,i = .u (.l k)/\As[k]?=some o:=by
 unfold vJ at h;split at h
 ·exact⟨_,rfl,h⟩
 ·cases h
def pfl:List AV->List AV->Prop
 |[],l=>l = []
 |a::l,l'=>∃b r,l'=b::r/\(a=b\/∃i j c s r o,a = .ptr i c s r o/\b = .ptr j c s r o)/\pfl l r
theorem Tq {X:Nat->Prop}{w:World}: ∀ {l l':List AV} {cs:List Value},pfl l l'->RL X w l cs->RL X w l' cs
 |[],l',cs,h,k=>by simp only[pfl] at h;subst h;exact k
 |a::l,l',cs,h,k=>by
  simp only[pfl] at h;obtain⟨b,r,rfl,e,m⟩:=h;simp only[RL] at k ⊢;obtain⟨c,q,rfl,k1,p⟩:=k;refine⟨c,q,rfl,?_,Tq m p⟩;rcases e with rfl|⟨i,j,u,s,r,o,rfl,rfl⟩
  ·exact k1
  ·simpa only[RV] using k1
def pe (H:Hp)(a a':AV): Prop :=
 (∃i j b s r o,a = .ptr i b s r o/\a' = .ptr j b s r o)\/(∃i j b s n c,a = .sl i b s n c/\a' = .sl j b s n c)\/sv H [] a a'\/∃g m e,a = .fn g m/\a' = .fn g e/\pfl m e
def pel (H:Hp): List AV->List AV->Prop
 |[],l=>l = []
 |a::l,l'=>∃b r,l'=b::r/\pe H a b/\pel H l r
def sq (H:Hp)(is:List Id)(As:List Ob): Hp:=λi=>match (is.zip As).lookup i with
 |some o=>some o
 |none=>H i
theorem Xr: ∀ {As:List Ob} {i:Id} {o:Ob},(is.zip As).lookup i=some o->∃k:Nat,is[k]?=some i/\As[k]?=some o:=by
 induction is with
 |nil=>intro As i o h;simp at h
 |cons j is ih =>
  intro As i o h;cases As with
  |nil=>simp at h
  |cons a As =>
   simp only[List.zip_cons_cons,List.lookup_cons] at h;split at h
   ·rename_i e;injection h with h;subst h;exact⟨0,by simp at e;simp[e],rfl⟩
   ·obtain⟨k,b,c⟩:=ih h;exact⟨k+1,by simpa using b,by simpa using c⟩
theorem Xs: ∀ {As:List Ob} {i:Id},is.length=As.length->(is.zip As).lookup i=none->i∉is:=by
 induction is with
 |nil=>intro As i _ _ h;cases h
 |cons j is ih =>
  intro As i hl h;cases As with
  |nil=>simp at hl
  |cons a As =>
   simp only[List.zip_cons_cons,List.lookup_cons] at h;split at h
   ·cases h
   ·rename_i e;have:=ih (by simpa using hl) h
    simp at e;simp[e,this]
theorem JE{f:Nat}{l l':List AV}{As As':List Ob}{k:AV->Hp->Prop}(is:List Id)(h:KP P f l' As v As')(hA:is.map H=As.map some)(x1:is.Nodup)(hfz:As.all (λo=>!o.fz&&(o.cap != 0))=true)
  (hb:As'.map (λo=>(o.b,o.cap,o.fz))=As.map (λo=>(o.b,o.cap,o.fz))) (hl:pel H l l') (q:k v (sq H is As')):wu false P f l H k:=λX w cl O ht=>by
 have hm:is.length=As.length:=by simpa using congrArg List.length hA
 have hg:As'.length=As.length:=by simpa using congrArg List.length hb
 have x:∀(j:Nat) o,As[j]?=some o->∃i,is[j]?=some i/\H i=some o:=λj o J=>by
  have p:(is.map H)[j]?=(As.map some)[j]?:=by rw[hA]
  simp only[List.getElem?_map,J,Option.map_some] at p;cases hi:is[j]? with
  |none=>rw[hi] at p;cases p
  |some i=>rw[hi] at p;simp at p;exact⟨i,rfl,p⟩
 have hu:∀(j:Nat) o,As[j]?=some o->o.fz=false/\o.cap≠0:=λj o J=>by
  have:=List.all_eq_true.1 hfz o (List.mem_of_getElem? J)
  simpa using this
 have h7:∀(j:Nat) R,As'[j]?=some R->∃o,As[j]?=some o/\R.b=o.b/\R.cap=o.cap/\R.fz=o.fz:=λj R J=>by
  have p:(As'.map (λo=>(o.b,o.cap,o.fz)))[j]?=(As.map (λo=>(o.b,o.cap,o.fz)))[j]?:=by rw[hb]
  simp only[List.getElem?_map,J,Option.map_some] at p;cases hi:As[j]? with
  |none=>rw[hi] at p;cases p
  |some o=>rw[hi] at p;simp at p;exact⟨o,rfl,p⟩
 have hk:∀(j j':Nat) i,is[j]?=some i->is[j']?=some i->j=j':=λj j' i p A=>by
  obtain⟨a1,a2⟩:=List.getElem?_eq_some_iff.1 p;obtain⟨U,W⟩:=List.getElem?_eq_some_iff.1 A;exact(List.getElem_inj x1).1 (a2.trans W.symm)
 obtain⟨Y,hY⟩:∃Y:Nat->Prop,Y=λz=>X z\/∃i o,i∉is/\H i=some o/\o.cap≠0/\o.fz=false/\o.b=z:=⟨_,rfl⟩
 have h8:∀z,zp Y (vJ As) z->zp X H z:=λz C=>by
  rcases C with C|⟨i,o,p,A,S,M⟩
  ·rw[hY] at C;rcases C with C|⟨i,o,_,p,A,S,M⟩
   ·exact Or.inl C
   ·exact Or.inr ⟨i,o,p,A,S,M⟩
  ·obtain⟨j,rfl,J⟩:=wg p;obtain⟨i,_,hi⟩:=x j o J;exact Or.inr ⟨i,o,hi,A,S,M⟩
 have hr:HOk Y (vJ As) w:=by
  refine⟨λi o hi=>?_,λi o hi D hy=>?_,λi i' o R hi he D ha e=>?_,λz C=>?_,O.gl.wide h8⟩
  ·obtain⟨j,rfl,J⟩:=wg hi;obtain⟨i,_,hi⟩:=x j o J;obtain⟨k1,k2⟩:=O.ob i o hi;refine⟨k1,λD=>?_⟩;obtain⟨Z,p1,p2,p3,p4⟩:=k2 D;exact⟨Z,p1,p2,p3,RR.mono ⟨rfl,rfl,rfl,Nat.le_refl _,λz _ C=>⟨λy=>C (h8 z y),rfl⟩⟩ _ _ _ (λ_ _ h=>h) _ p4⟩
  ·obtain⟨j,rfl,J⟩:=wg hi;obtain⟨i,hv,hi⟩:=x j o J;rw[hY] at hy;rcases hy with hy|⟨i',R,p,A,S,M,h5⟩
   ·exact O.nx i o hi D hy
   ·have:=O.inj i' i R o A hi S D h5
    subst this;exact p (List.mem_of_getElem? hv)
  ·obtain⟨j,rfl,J⟩:=wg hi;obtain⟨j',rfl,hw⟩:=wg he;obtain⟨i1,a1,a2⟩:=x j o J;obtain⟨i2,U,W⟩:=x j' R hw;have:=O.inj i1 i2 o R a2 W D ha e
   subst this;rw[hk j j' i1 a1 U]
  ·rw[hY] at C;rcases C with C|⟨i,o,_,p,A,S,rfl⟩
   ·exact O.xs z C
   ·exact O.lt p A
 have h9:RL (zp Y (vJ As)) w l' cl:=by
  have xa:∀ {l l':List AV} {cl:List Value},pel H l l'->RL (zp X H) w l cl->RL (zp X H) w l' cl:=by
   intro l;induction l with
   |nil=>intro l' cl p A;simp only[pel] at p;subst p;simpa only[RL] using A
   |cons a l ih =>
    intro l' cl p A;simp only[pel] at p;obtain⟨b,r,rfl,p1,p2⟩:=p;simp only[RL] at A ⊢;obtain⟨c,rr,rfl,q1,q2⟩:=A;refine⟨c,rr,rfl,?_,ih p2 q2⟩;rcases p1 with⟨i,j,b,s,r,o,rfl,rfl⟩|⟨i,j,b,s,n,c,rfl,rfl⟩|p1|⟨g,m,m',rfl,rfl,p1⟩
    ·simpa only[RV] using q1
    ·simpa only[RV] using q1
    ·have:=bW p1 X w c O q1
     rw[sM] at this;exact this
    ·simp only[RV] at q1 ⊢;obtain⟨cs,e,k⟩:=q1;exact⟨cs,e,Tq p1 k⟩
  exact vP h8 (xa hl ht)
 refine(h Y w cl hr h9).mono λe w' ⟨cv,e1,k1,k2,k3⟩=>?_;have ze:∀i o,sq H is As' i=some o->(∃j:Nat,is[j]?=some i/\As'[j]?=some o)\/(i∉is/\H i=some o):=λi o hi=>by
  unfold sq at hi;split at hi
  ·rename_i R x2;injection hi with hi;subst hi;exact Or.inl (Xr x2)
  ·rename_i hn;exact Or.inr ⟨Xs (by rw[hm,hg]) hn,hi⟩
 have h6:∀z,zp X (sq H is As') z->zp Y (vJ As') z:=λz C=>by
  rcases C with C|⟨i,o,p,A,S,M⟩
  ·exact Or.inl (by rw[hY];exact Or.inl C)
  ·rcases ze i o p with⟨j,V,I⟩|⟨V,I⟩
   ·exact Or.inr ⟨.u (.l j),o,I,A,S,M⟩
   ·exact Or.inl (by rw[hY];exact Or.inr ⟨i,o,V,I,A,S,M⟩)
 have hq:∀z,own H z->z<w.heap.size:=λz ⟨i,o,p,A,_,M⟩=>M▸O.lt p A;have T:∀z,own (vJ As) z->own H z:=λz ⟨i,o,p,A,S,M⟩=>by
  obtain⟨j,rfl,J⟩:=wg p;obtain⟨i,_,hi⟩:=x j o J;exact⟨i,o,hi,A,S,M⟩
 have hd:Ev (own H) w (own (sq H is As')) w':=by
  refine⟨k3.os,k3.tape,k3.output,k3.size,λz C hn=>⟨fun ⟨i,o,p,A,S,M⟩=>?_,(k3.block z C λq=>hn (T z q)).2⟩⟩;rcases ze i o p with⟨j,V,I⟩|⟨V,I⟩
  ·obtain⟨o0,a1,a2,a3,a4⟩:=h7 j o I;obtain⟨i0,U,W⟩:=x j o0 a1;exact hn ⟨i0,o0,W,by rw[<-a3];exact A,by rw[<-a4];exact S,by rw[<-a2];exact M⟩
  ·exact hn ⟨i,o,I,A,S,M⟩
 have hf:∀i o,i∉is->H i=some o->o.cap≠0->w'.heap[o.b]?=w.heap[o.b]?:=λi o hi ho D =>
  (k3.block o.b (O.lt ho D) (by
   rintro⟨i',R,p,A,S,M⟩;obtain⟨j,rfl,J⟩:=wg p;obtain⟨i2,U,W⟩:=x j R J;have:=O.inj i2 i R o W ho A D M
   subst this;exact hi (List.mem_of_getElem? U))).2
 refine⟨v,sq H is As',cv,q,e1,k1.wide h6,⟨λi o hi=>?_,λi o hi D=>?_,λi i' o R hi he D ha e=>?_,λz C=>Nat.lt_of_lt_of_le (O.xs z C) k3.size,O.gl.mono hd.fb⟩,hd⟩
 ·rcases ze i o hi with⟨j,V,I⟩|⟨V,I⟩
  ·obtain⟨m1,m2⟩:=k2.ob (.u (.l j)) o I;refine⟨m1,λD=>?_⟩;obtain⟨Z,p1,p2,p3,p4⟩:=m2 D;exact⟨Z,p1,p2,p3,RR.mono ⟨rfl,rfl,rfl,Nat.le_refl _,λz _ C=>⟨λy=>C (h6 z y),rfl⟩⟩ _ _ _ (λ_ _ h=>h) _ p4⟩
  ·obtain⟨m1,m2⟩:=O.ob i o I;refine⟨m1,λD=>?_⟩;obtain⟨Z,p1,p2,p3,p4⟩:=m2 D;have hb:=hf i o V I D;exact⟨Z,by rw[hb];exact p1,p2,p3,RR.mono hd.fb _ _ _ (λ_ _=>tW hb) _ p4⟩
 ·rcases ze i o hi with⟨j,V,I⟩|⟨V,I⟩
  ·exact λhx=>k2.nx (.u (.l j)) o I D (by rw[hY];exact Or.inl hx)
  ·exact O.nx i o I D
 ·have hp:∀i o,sq H is As' i=some o->o.cap≠0->∃o0,H i=some o0/\o0.b=o.b/\o0.cap≠0:=λi o hi D=>by
   rcases ze i o hi with⟨j,V,I⟩|⟨V,I⟩
   ·obtain⟨o0,a1,a2,a3,a4⟩:=h7 j o I;obtain⟨i0,U,W⟩:=x j o0 a1;rw[V] at U;injection U with U;subst U;exact⟨o0,W,a2.symm,by rw[<-a3];exact D⟩
   ·exact⟨o,I,rfl,D⟩
  obtain⟨o1,a1,a2,a3⟩:=hp i o hi D;obtain⟨o2,U,W,b3⟩:=hp i' R he ha;exact O.inj i i' o1 o2 a1 U a3 b3 (by rw[a2,W,e])
def le:Nat->List Id
 |0=>[]
 |n+1=>.u (.l n)::le n
theorem M0: i∈le n↔∃k,k<n/\i = .u (.l k):=by
 induction n with
 |zero=>simp[le]
 |succ n ih =>
  simp only[le,List.mem_cons,ih];constructor
  ·rintro(rfl|⟨k,h,rfl⟩)
   ·exact⟨n,by omega,rfl⟩
   ·exact⟨k,by omega,rfl⟩
  ·rintro⟨k,h,rfl⟩;rcases Nat.lt_or_ge k n with a|a
   ·exact Or.inr ⟨k,a,rfl⟩
   ·obtain rfl:k=n:=(by omega)
    exact Or.inl rfl
def t9 (H:Hp)(E:List Id): List (List AV)->List (List AV)->Prop
 |[],l=>l = []
 |a::l,l'=>(match l' with|b::r=>tR H E a b/\t9 H E l r|[]=>False)
def m5 (H:Hp)(E:List Id): Nat->List Ob->Prop
 |_,[]=>True
 |k,o::l=>(match H (.u (.l k)) with|some p=>p.b=o.b/\p.cap=o.cap/\p.sz=o.sz/\p.ty=o.ty/\p.fz=o.fz/\t9 H E p.rows o.rows|none=>False)/\m5 H E (k+1) l
theorem Zb {H:Hp}{E:List Id}: ∀ {l:List Ob} {k j:Nat} {o:Ob},m5 H E k l->l[j]?=some o->∃p,H (.u (.l (k+j)))=some p/\p.b=o.b/\p.cap=o.cap/\p.sz=o.sz/\p.ty=o.ty/\p.fz=o.fz/\t9 H E p.rows o.rows
 |[],k,j,o,_,h=>by simp at h
 |a::l,k,0,o,c,h=>by
  simp only[m5] at c;simp at h;subst h;obtain⟨c,_⟩:=c;split at c
  ·exact⟨_,by assumption,c⟩
  ·exact c.elim
 |a::l,k,j+1,o,c,h=>by
  simp only[m5] at c;obtain⟨p,e,m⟩:=Zb (j:=j) c.2 (by simpa using h);exact⟨p,by rw[<-e];congr 3;omega,m⟩
theorem ie {H:Hp}{E:List Id}: ∀ {l l':List (List AV)},t9 H E l l'->l'.length=l.length
 |[],l',h=>by simp only[t9] at h;subst h;rfl
 |a::l,l',h=>by
  simp only[t9] at h;split at h
  ·simp[ie h.2]
  ·exact h.elim
theorem eX {X:Nat->Prop}{H:Hp}{E:List Id}{w:World}(e:HOk X H w){b sz:Nat}: ∀ {l l':List (List AV)} {off:Nat},t9 H E l l'->RR (zp X H) w b off sz l->RR (lK X H E) w b off sz l'
 |[],l',off,h,_=>by simp only[t9] at h;subst h;simp only[RR]
 |a::l,l',off,h,k=>by
  simp only[t9] at h;split at h
  ·rename_i c r;simp only[RR] at k ⊢;obtain⟨k1,⟨cs,j,m⟩,p⟩:=k;have:=kX e h.1 j
   exact⟨by rw[<-k1,j.length,<-this.length],⟨cs,this,m⟩,eX e h.2 p⟩
  ·exact h.elim
def Zc (P:Program)(rs:List ResultVar)(v:AV)(As':List Ob): AQ
 |.ret,f,H|.normal,f,H=>(match vy P f H rs with|some l=>yK H (le As'.length) (vI l) v/\m5 H (le As'.length) 0 As'|none=>False)
 |_,_,_=>False
theorem KP.avc (B:List Nat)(hP:wI P){f:Nat}{fn:Func}{c:Code}{As As':List Ob}{rs:List ResultVar}(hf:P.funcs[f]?=some fn)(hb:fn.body=some c)(hN:fn.ntmps=N)(hr:fn.results.toList=rs)(hl:l.length<=N)
  (ho:yS N B c=true) (h:∀X,AM.avc P X N B c (stQ P X N B [] (Zc P rs v As')) (fr0 0 l) (vJ As)):KP P f l As v As':=λX w cl hH h5=>by
 refine gI hf hb hN hl hH h5 (tX hP ho (h X)) λe f' H' a' w' q C ev=>?_;have T:(match vy P f' H' rs with|some l=>yK H' (le As'.length) (vI l) v/\m5 H' (le As'.length) 0 As'|none=>False)->bodyPost P fn (λe w'=>∃cv,e = .returned cv/\RV (zp X (vJ As')) w' v cv/\HOk X (vJ As') w'/\Ev (own (vJ As)) w (own (vJ As')) w') .ret a' w':=λq=>by
  split at q
  ·rename_i lr h7;obtain⟨q1,q2⟩:=q;obtain⟨u,m1,m2⟩:=ph C hr h7;have a:∀(j:Nat) o,As'[j]?=some o->∃p,H' (.u (.l j))=some p/\p.b=o.b/\p.cap=o.cap/\p.sz=o.sz/\p.ty=o.ty/\p.fz=o.fz/\t9 H' (le As'.length) p.rows o.rows:=λj o m=>by
    have:=Zb q2 m;rwa[Nat.zero_add] at this
   have I:∀z,zp X (vJ As') z->lK X H' (le As'.length) z:=λz D=>by
    rcases D with D|⟨i,o,J,M,O,R⟩
    ·exact Or.inl D
    ·obtain⟨j,rfl,m⟩:=wg J;obtain⟨p,p0,A,r,U,Y,V,W⟩:=a j o m;exact Or.inr ⟨_,p,M0.2 ⟨j,(List.getElem?_eq_some_iff.1 m).1,rfl⟩,p0,by rw[r];exact M,by rw[V];exact O,by rw[A];exact R⟩
   refine⟨C.df,u,m1,u,rfl,(sN C.hp q1 m2).wide I,⟨λi o hi=>?_,λi o hi S=>?_,λi i' o o' J M O R e=>?_,C.hp.xs,C.hp.gl.wide λz y=>yQ (I z y)⟩,ev.os,ev.tape,ev.output,ev.size,λz D hn=>⟨?_,(ev.block z D hn).2⟩⟩
   ·obtain⟨j,rfl,m⟩:=wg hi;obtain⟨p,p0,A,r,U,Y,V,W⟩:=a j o m;obtain⟨k1,k2⟩:=C.hp.ob _ p p0;have x:=ie W;refine⟨λS=>?_,λS=>?_⟩
    ·rw[k1 (by rw[r];exact S)] at x;exact List.length_eq_zero_iff.1 x
    ·obtain⟨Z,m1,m2,m3,m4⟩:=k2 (by rw[r];exact S);refine⟨Z,by rw[<-A,<-Y];exact m1,by rw[m2,r,U],by rw[x,<-r];exact m3,?_⟩;rw[<-A,<-U];exact RR.mono ⟨rfl,rfl,rfl,Nat.le_refl _,λz _ D=>⟨λy=>D (I z y),rfl⟩⟩ _ _ _ (λ_ _ h=>h) _ (eX C.hp W m4)
   ·obtain⟨j,rfl,m⟩:=wg hi;obtain⟨p,p0,A,r,U,Y,V,W⟩:=a j o m;rw[<-A];exact C.hp.nx _ p p0 (by rw[r];exact S)
   ·obtain⟨j,rfl,m⟩:=wg J;obtain⟨j',rfl,h6⟩:=wg M;obtain⟨p,p0,A,r,_⟩:=a j o m;obtain⟨p',h8,h9,ha,_⟩:=a j' o' h6;exact C.hp.inj _ _ p p' p0 h8 (by rw[r];exact O) (by rw[ha];exact R) (by rw[A,h9,e])
   ·rintro⟨i,o,J,M,O,R⟩;obtain⟨j,rfl,m⟩:=wg J;obtain⟨p,p0,A,r,U,Y,V,W⟩:=a j o m;exact(ev.block z D hn).1 ⟨_,p,p0,by rw[r];exact M,by rw[V];exact O,by rw[A];exact R⟩
  ·exact q.elim
 cases e with
 |ret=>exact T q
 |normal=>exact T q
 |_=>exact q.elim
section
variable {P:Program} {f:Fr} {H:Hp} {rs:List ResultVar} {v:AV} {As':List Ob} {E:List Id} {o:Ob} {l:List Ob} {As:List Ob}
theorem Fz:Zc P rs v As' .ret f H=(match vy P f H rs with|some l=>yK H (le As'.length) (vI l) v/\m5 H (le As'.length) 0 As'|none=>False):=rfl
theorem F0:Zc P rs v As' .normal f H=(match vy P f H rs with|some l=>yK H (le As'.length) (vI l) v/\m5 H (le As'.length) 0 As'|none=>False):=rfl
theorem M3: vJ As (.u (.l k))=As[k]?:=rfl
theorem M8: vJ As (.l k)=none:=rfl
end
attribute [go_sem] Fz F0 M3 M8 m5 t9 le pe pel
attribute [go_sem] eS eqT
theorem SV.ptr{b sz r j:Nat}{o:Ob}{row:List AV}(a:H i=some o)(D:o.b=b)(I:o.sz=sz)(u:o.rows[r]?=some row)(J:i∈L)(M:j=0): SV H L (.ptr i b sz r j) (.rp row):=λX w v h k=>by
 subst D I M;simp only[RV] at k ⊢;subst k;obtain⟨k1,x⟩:=h.ob i o a;have m:o.cap≠0:=λe=>by rw[k1 e] at u;simp at u
 obtain⟨C,Y,Z,q3,T⟩:=x m;obtain⟨W,cs,R,A⟩:=T.get u;refine⟨_,_,cs,rfl,h.lt a m,λq=>?_,vP (λb q=>q.imp id x7) R,by rw[Nat.zero_add] at A;exact A⟩;rcases q with q|⟨j,p,k1,x,z,O⟩
 ·exact h.nx i o a m q
 ·obtain⟨S,c,U,V,_,_,_,z7⟩:=pD j p k1;have e:=h.inj j i S o c a (by rw[V];exact x) m (by rw[U,O]);subst e;rw[a] at c;injection c with c;subst c;unfold frz at k1;rw[if_pos J,a] at k1;simp at k1;rw[<-k1] at z;cases z
theorem z5{c:Code}(L:List Id)(t:Nat)(h:SV H L (f t) v)(k:AW P X N c Q (xb f t v) (frz L H)): AW P X N c Q f H:=λa w r=>by
 have j:HOk X (frz L H) w:=r.hp.frz;refine wp_mono (k a w ⟨λu=>?_,j,r.df,r.sz⟩) λe a' w' ⟨b,H',q,x,ev⟩=>⟨b,H',q,x,ev.os,ev.tape,ev.output,ev.size,λz p hn=>ev.block z p λm=>hn (x7 m)⟩
 unfold xb;split
 ·rename_i e;subst e;exact h X w _ r.hp (r.tm _)
 ·exact(r.tm u).wide λz q=>q.imp id x7
structure Ky where
 ad:List (Nat×Id×Nat)
 cl:Bool
def VV (i:Id)(j:Nat): AV->Prop
 |.ptr i' _ _ _ j'=>i'=i/\j'=j
 |_=>False
def tC (y:Ky)(f:Fr)(s:Nat): Prop:=match y.ad.lookup s with|some (i,j)=>VV i j (f s)|none=>True
def nsl:AV->Bool
 |.sl ..=>false
 |_=>true
def tD:Eff->Prop
 |.req _ e=>tD e
 |.call _ l=>l.all nsl=true
 |_=>True
def okS (P:Program)(y:Ky)(f:Fr)(o:Oper): Prop:=match o.op with
 |.load _ (.tmp s)=>tC y f s
 |.store _ (.tmp s) _=>tC y f s
 |.call c=>(match c.callee with|.value _=>y.cl=true->tD (acl P (yj f o))|_=>True)
 |_=>True
def AX (P:Program)(ops:Array Oper)(y:Ky)(o:Oper)(f:Fr)(H:Hp)(K:Fr->Hp->Prop): Prop:=(gd ops f o=some true->okS P y f o)/\AD P ops o f H K
def M9 (P:Program)(y:Ky)(s:Nat)(t:TypeId)(s':Nat)(a:TypeId): Bool:=match y.ad.lookup s,y.ad.lookup s',xN P t,xN P a with
 |some (i,j),some (i',j'),some n,some n'=>i != i'||decide (j+max n 1<=j')||decide (j'+n'<=j)
 |_,_,_,_=>false
def xF (P:Program)(y:Ky)(o st:Oper): Bool:=match st.op with
 |.store t (.tmp s) _=>(match o.op with
  |.load t' (.tmp s')=>M9 P y s' t' s t
  |_=>zm o.op==0||zm o.op==2||(zm o.op==3&&y.cl))
 |_=>false
def Zd (P:Program)(ops:Array Oper)(y:Ky)(k i:Oper): Bool:=k.apart ops i&&(ic (zm k.op) (zm i.op)||xF P y k i||xF P y i k)
theorem wZ{y:Ky}{d:Option Nat}(h:∀t,d=some t->t∉Oper.looksAt ops o): okS P y (zl f d v) o↔okS P y f o:=by
 have hs:∀s,Operand.tmp s∈o.op.operands.toList->zl f d v s=f s:=λs hs=>by
  cases d with
  |none=>rfl
  |some t =>
   show xb f t v s=f s;unfold xb;rw[if_neg];rintro rfl;exact h s rfl (List.mem_append_left _ (List.mem_filterMap.2 ⟨_,hs,rfl⟩))
 have a:=x8 (f:=f) (v:=v) h;obtain⟨dst,op,ty,pos,af,g⟩:=o;simp only at hs;unfold okS;cases op<;>try exact Iff.rfl
 ·rename_i t x;cases x<;>try exact Iff.rfl
  rename_i s;simp only[tC];rw[hs s (by simp[Op.operands])]
 ·rename_i t x z;cases x<;>try exact Iff.rfl
  rename_i s;simp only[tC];rw[hs s (by simp[Op.operands])]
 ·simp only[a]
theorem AD.mono'{K j:Fr->Hp->Prop}(h:AD P ops o f H K)(k:∀u H',K (zl f o.dst u) H'->j (zl f o.dst u) H'): AD P ops o f H j:=by
 rw[zj] at *;rcases h with⟨u,a,e⟩|⟨i,ob,v,a,e⟩
 ·exact Or.inl ⟨u,a,k _ _ e⟩
 ·exact Or.inr ⟨i,ob,v,a,λb c=>k _ _ (e b c)⟩
theorem AD.some(h:AD P ops o f H K): ∃u H',K (zl f o.dst u) H':=by
 rw[zj] at h;rcases h with⟨u,b,a⟩|⟨i,ob,v,b,a⟩
 ·exact⟨_,_,a⟩
 ·exact⟨_,_,a 0 0⟩
theorem VW{l l':List AV}(hn:xN P t=some n)(hl:l.length=l'.length)(h:∀k,k<max n 1->l[k]?=l'[k]?): tj P t l=tj P t l':=by
 unfold tj;split
 ·rw[hn];simp only[hl];congr 3
  apply List.ext_getElem?;intro k;rw[List.getElem?_take,List.getElem?_take];split
  ·exact h k (by omega)
  ·rfl
 ·have a:=h 0 (by omega);cases l<;>cases l'<;>simp at a hl ⊢;exact a
 ·rfl
theorem pT{x z:Operand}(h:(z8 P d H (.store t x z) l).Mk i ob w):
  ∃b sz r j v o row c n,l = [.ptr i b sz r j,v]/\H i=some o/\o.rows[r]?=some row/\yo v=some c/\xN P t=some n/\(o.b=b/\o.sz=sz/\o.fz=false/\c.length=n/\j+n<=row.length)/\ob=(λ_ _=>{ o with rows:=o.rows.set r (row.take j++(c++row.drop (j+n))) })/\w=λ_ _=>.any:=by
 match l,h with
 |[],h=>exact h.elim
 |[_],h=>exact h.elim
 |_::_::_::_,h=>exact h.elim
 |[p,v],h =>
  have a:(t6 P t H p v).Mk i ob w:=h;unfold t6 at a;split at a<;>try exact a.elim
  split at a<;>try exact a.elim
  split at a<;>try exact a.elim
  rename_i b sz r j _ o D _ _ _ row c n e m q;obtain⟨u,rfl,A,C⟩:=a;exact⟨b,sz,r,j,v,o,row,c,n,rfl,D,e,m,q,u,A,C⟩
theorem lO{H H':Hp}{x z:Operand}(h:(z8 P d H (.store t x z) l).Mk i ob w)(A:H' i=H i): (z8 P d H' (.store t x z) l).Mk i ob w:=by
 obtain⟨b,sz,r,j,v,o,row,c,n,rfl,C,a,e,m,p,q,u⟩:=pT h;show(t6 P t H' (.ptr i b sz r j) v).Mk i ob w;unfold t6;simp only[A,C,a,e,m];exact⟨p,rfl,q,u⟩
theorem Tr{i p:Id}{b sz r j x a n m:Nat}{o:Ob}{row c:List AV}(A:H p=some o)(z:o.rows[x]?=some row)(hn:xN P t=some n)(D:c.length=m)(I:a+m<=row.length)
  (h:i≠p\/j+max n 1<=a\/a+m<=j):yT P t (ze H p { o with rows:=o.rows.set x (row.take a++(c++row.drop (a+m))) }) (.ptr i b sz r j)=yT P t H (.ptr i b sz r j):=by
 unfold yT;by_cases hi:i=p
 ·subst hi;simp only[xS,ze,if_true,A];by_cases hb:o.b=b/\o.sz=sz
  ·rw[if_pos hb,if_pos hb];by_cases e:x=r
   ·subst e;have u:=(List.getElem?_eq_some_iff.1 z).1;rw[z,List.getElem?_set_self u];simp only[Option.map_some];refine VW hn ?_ λk J=>?_
    ·simp only[List.length_drop,List.length_append,List.length_take];omega
    ·rw[List.getElem?_drop,List.getElem?_drop];rcases Nat.lt_or_ge (j+k) a with q|q
     ·rw[List.getElem?_append_left (by simp;omega),List.getElem?_take,if_pos q]
     ·have C:a+m<=j:=by rcases h with h|h|h;exact absurd rfl h;omega;exact h
      rw[List.getElem?_append_right (by simp;omega),List.getElem?_append_right (by simp;omega),List.getElem?_drop];simp only[List.length_take];congr 1;omega
   ·rw[List.getElem?_set_ne e]
  ·rw[if_neg hb,if_neg hb]
 ·simp only[xS,ze,if_neg hi]
theorem Ts {H H':Hp}{L j:List Id}: ∀ {l l':List AV},l.all nsl=true->svl H L l l'->svl H' j l l'
 |[],l',_,h=>by simpa only[svl] using h
 |a::l,l',hn,h=>by
  simp only[List.all_cons,Bool.and_eq_true] at hn;simp only[svl] at *;obtain⟨b,r,e,c,m⟩:=h;refine⟨b,r,e,?_,Ts hn.2 m⟩;rcases c with c|c|⟨i,b,sz,n,cap,o,k1,p⟩
  ·exact Or.inl c
  ·exact Or.inr (Or.inl c)
  ·rw[k1] at hn;cases hn.1
theorem eY{H H':Hp}{u:AV}: ∀ {e:Eff},tD e->(∀i o v,¬e.Mk i o v)->(NM e\/∃c f l,e = .req c (.call f l))->e.Y P H u->e.Y P H' u:=by
 intro e hn hm hs h;rcases hs with hs|⟨c,f,l,rfl⟩
 ·exact hs.y _ h
 ·obtain⟨a,L,l',b,j,m⟩:=h;exact⟨a,L,l',b,Ts hn j,m⟩
theorem m6{y:Ky}{o st:Oper}{j:Id}(x:xF P y o st=true)(S:okS P y f o)(V:okS P y f st)(hw:(zw P st f H).Mk j ob w):
  (∃p q,H j=some p/\ob=λ_ _=>q)/\(∀u,(zw P o f H).Y P H u↔(zw P o f (ze H j (ob 0 0))).Y P (ze H j (ob 0 0)) u)/\(∀M m v,(zw P o f H).Mk M m v↔(zw P o f (ze H j (ob 0 0))).Mk M m v):=by
 unfold xF at x;split at x<;>try exact(by cases x)
 rename_i t s z T;have hd:(z8 P (st.dst.getD 0) H (.store t (.tmp s) z) (yj f st)).Mk j ob w:=by rw[<-T];exact hw
 obtain⟨b,sz,r,jj,v,ow,row,c,n,hl,U,h7,hc,hn,I,h6,hi⟩:=pT hd;refine⟨⟨ow,_,U,h6⟩,?_⟩;have hj:∀k,(ze H j (ob 0 0)) k=none↔H k=none:=λk=>by
  unfold ze;split
  ·rename_i e;subst e;rw[U];simp
  ·exact Iff.rfl
 have h1:zw P o f (ze H j (ob 0 0))=zw P o f H->NM (zw P o f H)->(∀u,(zw P o f H).Y P H u↔(zw P o f (ze H j (ob 0 0))).Y P (ze H j (ob 0 0)) u)/\(∀M m v,(zw P o f H).Mk M m v↔(zw P o f (ze H j (ob 0 0))).Mk M m v):=λhe h4=>by
  rw[he];exact⟨λu=>⟨λh=>h4.y _ h,λh=>h4.y _ h⟩,λ_ _ _=>Iff.rfl⟩
 have h9:(zm o.op==0||zm o.op==2||(zm o.op==3&&y.cl))=true->(∀u,(zw P o f H).Y P H u↔(zw P o f (ze H j (ob 0 0))).Y P (ze H j (ob 0 0)) u)/\(∀M m v,(zw P o f H).Mk M m v↔(zw P o f (ze H j (ob 0 0))).Mk M m v):=λA=>by
  simp only[Bool.or_eq_true,Bool.and_eq_true,beq_iff_eq] at A;rcases A with(A|A)|⟨A,ha⟩
  ·exact h1 (qG _ A) (wt (Or.inl A))
  ·refine⟨λu=>⟨λh=>absurd h ((wN A).1 u),λh=>absurd h ((wN A).1 u)⟩,λM m v=>⟨λh=>?_,λh=>?_⟩⟩
   ·obtain⟨q1,q2,q3,q4⟩:=(wN A).2 _ _ _ h;exact q4 _ ((hj _).2 q3)
   ·obtain⟨q1,q2,q3,q4⟩:=(wN A).2 _ _ _ h;exact q4 _ ((hj _).1 q3)
  ·have h2:∃Z,o.op = .call Z/\∃v,Z.callee = .value v:=by
    cases a:o.op<;>rw[a] at A<;>simp[zm] at A;rename_i Z;refine⟨Z,rfl,?_⟩;obtain⟨callee,args,ts⟩:=Z;cases callee<;>simp at A
    ·exact⟨_,rfl⟩
    ·rename_i b;cases b<;>simp at A
   obtain⟨Z,R,vv,W⟩:=h2;have he:∀H',zw P o f H'=acl P (yj f o):=λH'=>by
    unfold zw;rw[R];simp only[z8,W]
   have h5:tD (acl P (yj f o)):=by
    unfold okS at S;rw[R] at S;simp only[W] at S;exact S ha
   have h8:NM (acl P (yj f o))\/∃c g l,acl P (yj f o) = .req c (.call g l):=by
    unfold acl;split
    ·exact Or.inr ⟨_,_,_,rfl⟩
    ·exact Or.inr ⟨_,_,_,rfl⟩
    ·exact Or.inl NM.no
   have h3:∀i o' v,¬(acl P (yj f o)).Mk i o' v:=λi o' v q=>by
    have:=aV (P:=P) (d:=0) (H:=H) (l:=yj f o) A i o' v
    rw[R] at this;simp only[z8,W] at this;exact this q
   rw[he,he];exact⟨λu=>⟨λh=>eY h5 h3 h8 h,λh=>eY h5 h3 h8 h⟩,λ_ _ _=>Iff.rfl⟩
 split at x
 ·rename_i t' s' a;have D:tC y f s':=by unfold okS at S;rw[a] at S;exact S
  have C:tC y f s:=by unfold okS at V;rw[T] at V;exact V
  have O:yj f o = [f s']:=by unfold yj;rw[a];rfl
  have J:yj f st = [f s,ev f z]:=by unfold yj;rw[T];rfl
  rw[J] at hl;injection hl with hb hg;unfold M9 at x;split at x<;>try exact(by cases x)
  rename_i i1 j1 i2 j2 m1 m2 e1 e2 e3 e4;unfold tC at D C;rw[e1] at D;rw[e2] at C;rw[hb] at C;obtain⟨rfl,rfl⟩:=C;rw[hn] at e4;injection e4 with e4;subst e4;refine h1 ?_ ?_
  ·unfold zw;rw[a,O];show yT P t' _ (f s')=yT P t' H (f s');cases hp:f s'<;>rw[hp] at D<;>try exact D.elim
   obtain⟨rfl,rfl⟩:=D
   rw[h6];refine Tr U h7 e3 I.2.2.2.1 I.2.2.2.2 ?_;simp only[Bool.or_eq_true,bne_iff_ne,decide_eq_true_eq] at x;rcases x with(x|x)|x
   ·exact Or.inl x
   ·exact Or.inr (Or.inl x)
   ·exact Or.inr (Or.inr x)
  ·unfold zw;rw[a];exact wt (Or.inr rfl)
 ·exact h9 x
theorem Ze{y:Ky}{o st:Oper}(h:xF P y o st=true): ∃t s z,st.op = .store t (.tmp s) z:=by
 unfold xF at h;split at h
 ·rename_i t s z a;exact⟨_,_,_,a⟩
 ·cases h
theorem eZ{H H':Hp}{x z:Operand}{u:AV}: ¬(z8 P d H (.store t x z) l).Y P H' u:=by
 intro h;match l,h with
 |[],h=>exact h
 |[_],h=>exact h
 |_::_::_::_,h=>exact h
 |[p,v],h =>
  have a:(t6 P t H p v).Y P H' u:=h;unfold t6 at a;split at a<;>try exact a.elim
  split at a<;>try exact a.elim
  split at a<;>try exact a.elim
  exact a.2
theorem gK{y:Ky}{o st:Oper}(h:xF P y o st=true): zm o.op<=3:=by
 unfold xF at h;split at h
 ·split at h
  ·rename_i a;rw[a];simp[zm]
  ·simp only[Bool.or_eq_true,Bool.and_eq_true,beq_iff_eq] at h;omega
 ·cases h
theorem da{v:Nat->Nat->AV}(c:zm op<=3)(h:(z8 P d H op l).Mk i ob v): zm op=2:=by
 have a:¬(zm op=0\/zm op=1):=λq=>(wt q).mk _ _ _ h;have b:¬zm op=3:=λq=>aV q _ _ _ h;omega
theorem VX{y:Ky}{k i:Oper}(j:k.apart ops i=true)
  (m:(gd ops f k=some true->okS P y f k)->(gd ops f i=some true->okS P y f i)->∀K,AD P ops k f H (λa H'=>AD P ops i a H' K)->AD P ops i f H (λa H'=>AD P ops k a H' K))
  (h:AX P ops y k f H (λa H'=>AX P ops y i a H' K)):AX P ops y i f H (λa H'=>AX P ops y k a H' K):=by
 obtain⟨b,p,c⟩:=Oper.apart_spec j;have hi:gd ops f i=some true->okS P y f i:=λe=>by
  obtain⟨u,H',q⟩:=h.2.some;exact(wZ b).1 (q.1 (by rw[yM b];exact e))
 have r:=m h.1 hi K (h.2.mono λ_ _ q=>q.2);refine⟨hi,r.mono' λu H' q=>⟨λe=>?_,q⟩⟩;rw[yM c] at e;exact(wZ c).2 (h.1 e)
theorem ig{H H':Hp}{u:AV}(h:gd ops f o=some true->((zw P o f H).Y P H u↔(zw P o f H').Y P H' u)): VO P ops o f H u↔VO P ops o f H' u:=by
 unfold VO;constructor
 ·rintro(q|⟨q,r⟩)
  ·exact Or.inl q
  ·exact Or.inr ⟨q,(h q).1 r⟩
 ·rintro(q|⟨q,r⟩)
  ·exact Or.inl q
  ·exact Or.inr ⟨q,(h q).2 r⟩
theorem db{y:Ky}{k i:Oper}(h4:k.apart ops i=true)(hf:xF P y k i=true)
  (hk:gd ops f k=some true->okS P y f k) (hi:gd ops f i=some true->okS P y f i) (K:Fr->Hp->Prop)
  (h:AD P ops k f H (λf' H'=>AD P ops i f' H' K)):AD P ops i f H (λf' H'=>AD P ops k f' H' K):=by
 obtain⟨C,D,I⟩:=Oper.apart_spec h4;obtain⟨t,s,z,Z⟩:=Ze hf;have h7:∀ {H' H2:Hp} {u:AV},¬(zw P i f H').Y P H2 u:=λq=>by unfold zw at q;rw[Z] at q;exact eZ q
 have h6:=gK hf;rw[zj] at h;rcases h with⟨uk,M,h⟩|⟨ik,a,vk,M,h⟩
 ·rw[zj] at h;rcases h with⟨ui,W,h⟩|⟨j,ob,v,W,h⟩
  ·rw[yx C] at W;rw[zj];refine Or.inl ⟨ui,W,?_⟩;rw[zj];exact Or.inl ⟨uk,(yx I).2 M,by rw[<-zy D];exact h⟩
  ·rw[y7 C] at W;rw[zj];refine Or.inr ⟨j,ob,v,W,λb c=>?_⟩;rw[zj];refine Or.inl ⟨uk,(yx I).2 ?_,by rw[<-zy D];exact h b c⟩;refine(ig λhg=>?_).1 M;obtain⟨⟨p,q,_,hq⟩,hY,_⟩:=m6 hf (hk hg) (hi W.1) W.2;have:=hY uk
   rw[hq] at this ⊢;exact this
 ·have h5:zm k.op=2:=da h6 M.2;obtain⟨q1,R,q3,q4⟩:=(wN h5).2 _ _ _ M.2;subst q1;have h':∀b c,(∃u,VO P ops i f (ze H (.l (k.dst.getD 0)) (a b c)) u/\K (zl (zl f k.dst (vk b c)) i.dst u) (ze H (.l (k.dst.getD 0)) (a b c))) \/
    ∃i' ob v,MO P ops i f (ze H (.l (k.dst.getD 0)) (a b c)) i' ob v/\∀x A,K (zl (zl f k.dst (vk b c)) i.dst (v x A)) (ze (ze H (.l (k.dst.getD 0)) (a b c)) i' (ob x A)):=λb c=>by
   have:=zj.1 (h b c)
   rcases this with⟨u,q1,R⟩|⟨i',ob,v,q1,R⟩
   ·exact Or.inl ⟨u,(yx C).1 q1,R⟩
   ·exact Or.inr ⟨i',ob,v,(y7 C).1 q1,R⟩
  by_cases hg:gd ops f i=some true
  ·have hm:∀b c,∃j ob v,MO P ops i f H j ob v/\j≠.l (k.dst.getD 0)/\∀x A,K (zl (zl f k.dst (vk b c)) i.dst (v x A)) (ze (ze H (.l (k.dst.getD 0)) (a b c)) j (ob x A)):=by
    have S:∀b c,∃j ob v,MO P ops i f (ze H (.l (k.dst.getD 0)) (a b c)) j ob v/\∀x A,K (zl (zl f k.dst (vk b c)) i.dst (v x A)) (ze (ze H (.l (k.dst.getD 0)) (a b c)) j (ob x A)):=λb c=>by
     rcases h' b c with⟨u,(q|q),_⟩|q
     ·rw[hg] at q;cases q.1
     ·exact absurd q.2 h7
     ·exact q
    have h3:∀b c j ob v,MO P ops i f (ze H (.l (k.dst.getD 0)) (a b c)) j ob v->∃U sz r jj v' ow,yj f i = [.ptr j U sz r jj,v']/\(ze H (.l (k.dst.getD 0)) (a b c)) j=some ow/\ow.b=U:=λb c j ob v q=>by
     have R:=q.2;unfold zw at R;rw[Z] at R;obtain⟨U,sz,r,jj,v',ow,_,_,_,e1,e2,_,_,_,e3,_⟩:=pT R;exact⟨U,sz,r,jj,v',ow,e1,e2,e3.1⟩
    intro b c;obtain⟨j,ob,v,m,w⟩:=S b c;obtain⟨U,sz,r,jj,v',ow,e1,e2,e3⟩:=h3 _ _ _ _ _ m;have O:j≠.l (k.dst.getD 0):=λe=>by
     obtain⟨j1,hd,v1,m1,_⟩:=S (U+1) 0;obtain⟨h9,hj,r1,hb,hl,he,J,V,ha⟩:=h3 _ _ _ _ _ m1;rw[e1] at J;injection J with J _;injection J with a1 a2 a3 a4 a5;subst a1 a2;rw[e] at V;simp only[ze,if_true,Option.some.injEq] at V;have:=R (U+1) 0
     rw[V] at this;omega
    refine⟨j,ob,v,⟨m.1,?_⟩,O,w⟩;have m2:=m.2;unfold zw at m2 ⊢;rw[Z] at m2 ⊢;exact lO m2 (by unfold ze;rw[if_neg O])
   obtain⟨j,ob,v,m,O,_⟩:=hm 0 0;rw[zj];refine Or.inr ⟨j,ob,v,m,λx A=>?_⟩;rw[zj];refine Or.inr ⟨.l (k.dst.getD 0),a,vk,(y7 I).2 ⟨M.1,?_⟩,λb c=>?_⟩
   ·obtain⟨⟨p,q,_,hq⟩,_,hM⟩:=m6 hf (hk M.1) (hi hg) m.2;have:=(hM _ _ _).1 M.2
    rw[hq] at this ⊢;exact this
   ·obtain⟨j',hc,v2,m',h8,w⟩:=hm b c;obtain⟨rfl,rfl,rfl⟩:=uy m.2 m'.2;rw[<-zy D,<-vB (Ne.symm O)];exact w x A
  ·rw[zj];have T:∀b c,gd ops f i=some false/\K (zl (zl f k.dst (vk b c)) i.dst nul) (ze H (.l (k.dst.getD 0)) (a b c)):=λb c=>by
    rcases h' b c with⟨u,(q|q),w⟩|⟨_,_,_,q,_⟩
    ·rw[q.2] at w;exact⟨q.1,w⟩
    ·exact absurd q.1 hg
    ·exact absurd q.1 hg
   refine Or.inl ⟨nul,Or.inl ⟨(T 0 0).1,rfl⟩,?_⟩;rw[zj];exact Or.inr ⟨_,a,vk,(y7 I).2 M,λb c=>by rw[<-zy D];exact(T b c).2⟩
theorem dc{y:Ky}{k i:Oper}(V:k.apart ops i=true)(R:xF P y i k=true)
  (hk:gd ops f k=some true->okS P y f k) (hi:gd ops f i=some true->okS P y f i) (K:Fr->Hp->Prop)
  (h:AD P ops k f H (λU H'=>AD P ops i U H' K)):AD P ops i f H (λU H'=>AD P ops k U H' K):=by
 obtain⟨p,q,u⟩:=Oper.apart_spec V;obtain⟨t,s,z,D⟩:=Ze R;have Y:=gK R;rw[zj] at h;rcases h with⟨uk,a,h⟩|⟨j,ob,v,a,h⟩
 ·rw[zj] at h;rcases h with⟨S,m,h⟩|⟨O,A,T,m,h⟩
  ·rw[yx p] at m;rw[zj];refine Or.inl ⟨S,m,?_⟩;rw[zj];exact Or.inl ⟨uk,(yx u).2 a,by rw[<-zy q];exact h⟩
  ·rw[y7 p] at m;rw[zj];refine Or.inr ⟨O,A,T,m,λb c=>?_⟩;rw[zj];refine Or.inl ⟨uk,(yx u).2 ?_,by rw[<-zy q];exact h b c⟩;rcases a with a|⟨_,a⟩
   ·exact Or.inl a
   ·unfold zw at a;rw[D] at a;exact absurd a eZ
 ·have x:=a.2;unfold zw at x;rw[D] at x;obtain⟨b0,sz,r,jj,v',ow,row,c0,n,e1,M,_,_,_,_,Z,hv⟩:=pT x;subst Z hv;have I:=h 0 0;rw[zj] at I;rcases I with⟨S,m,I⟩|⟨O,A,T,m,I⟩
  ·rw[yx p] at m;rw[zj];refine Or.inl ⟨S,(ig λhg=>?_).2 m,?_⟩
   ·exact(m6 R (hi hg) (hk a.1) a.2).2.1 S
   ·rw[zj];exact Or.inr ⟨j,_,_,(y7 u).2 a,λb c=>by rw[<-zy q];exact I⟩
  ·rw[y7 p] at m;have C:MO P ops i f H O A T:=⟨m.1,((m6 R (hi m.1) (hk a.1) a.2).2.2 _ _ _).2 m.2⟩
   have W:zm i.op=2:=da Y C.2;obtain⟨q1,q2,q3,q4⟩:=(wN W).2 _ _ _ C.2;have J:j≠O:=λe=>by rw[e,q1,q3] at M;cases M
   rw[zj];refine Or.inr ⟨O,A,T,C,λb c=>?_⟩;rw[zj];refine Or.inr ⟨j,_,_,(y7 u).2 ⟨a.1,?_⟩,λb' c'=>by rw[<-zy q,vB (Ne.symm J)];exact I b c⟩;unfold zw;rw[D];exact lO x (by unfold ze;rw[if_neg J])
theorem bY (P:Program)(ops:Array Oper)(y:Ky): vu P ops (AX P ops y) (Zd P ops y):=⟨λh k=>⟨h.1,h.2.mono k⟩,λh=>h.2.as,λhm h=>by
 unfold Zd at hm;simp only[Bool.and_eq_true,Bool.or_eq_true] at hm;obtain⟨a,(j|e)|e⟩:=hm
 ·exact VX a (λ_ _ K q=>kY a j q) h
 ·exact VX a (λb c K q=>db a e b c K q) h
 ·exact VX a (λb c K q=>dc a e b c K q) h⟩
theorem zh(hP:wI P)(y:Ky){id:Nat}(a:(ur N ops&&tz (Zd P ops y) ops)=true)
  (h:SL (AX P ops y) (Q .normal) ops.toList f H):AW P X N (.region id ops true) Q f H:=by
 simp only[Bool.and_eq_true] at a;exact uo hP.mx hP.by_ (bY P ops y) a.1 a.2 h
section
variable {P:Program} {y:Ky} {K:Fr -> Hp -> Prop} {f:Fr} {H:Hp}
theorem MA: SL (AX P ops y) K [] f H=K f H:=rfl
theorem O3{l:List Oper}: SL (AX P ops y) K (o::l) f H=((gd ops f o=some true->okS P y f o)/\AG true P ops o f H (SL (AX P ops y) K l)):=rfl
theorem F5: gd ops f ⟨dst,op,ty,pos,af,none⟩=some true:=rfl
theorem F6{g}: okS P y f ⟨dst,.load t (.tmp s),ty,pos,af,g⟩=tC y f s:=rfl
theorem F7{z:Operand}{g}: okS P y f ⟨dst,.store t (.tmp s) z,ty,pos,af,g⟩=tC y f s:=rfl
theorem O4{x}{g}: okS P y f ⟨dst,.move x,ty,pos,af,g⟩=True:=rfl
theorem Tt{x}{g}: okS P y f ⟨dst,.assign x,ty,pos,af,g⟩=True:=rfl
theorem O5{x z u}{g}: okS P y f ⟨dst,.pick x z u,ty,pos,af,g⟩=True:=rfl
theorem Ru{o t x z u}{g}: okS P y f ⟨dst,.binOp o t x z u,ty,pos,af,g⟩=True:=rfl
theorem O6{o t x}{g}: okS P y f ⟨dst,.unOp o t x,ty,pos,af,g⟩=True:=rfl
theorem MB{t x}{g}: okS P y f ⟨dst,.box t x,ty,pos,af,g⟩=True:=rfl
theorem Ry{t}{g}: okS P y f ⟨dst,.alloc t,ty,pos,af,g⟩=True:=rfl
theorem Xt{x}{g}: okS P y f ⟨dst,.nilCheck x,ty,pos,af,g⟩=True:=rfl
theorem Zf{t x k}{g}: okS P y f ⟨dst,.fieldAddr t x k,ty,pos,af,g⟩=True:=rfl
theorem Rz{t x k}{g}: okS P y f ⟨dst,.field t x k,ty,pos,af,g⟩=True:=rfl
theorem Zg{t x z}{g}: okS P y f ⟨dst,.indexAddr t x z,ty,pos,af,g⟩=True:=rfl
theorem R0{t x z}{g}: okS P y f ⟨dst,.index t x z,ty,pos,af,g⟩=True:=rfl
theorem VY{x k}{g}: okS P y f ⟨dst,.extract x k,ty,pos,af,g⟩=True:=rfl
theorem R2{t ps}{g}: okS P y f ⟨dst,.build t ps,ty,pos,af,g⟩=True:=rfl
theorem bp{t n ps}{g}: okS P y f ⟨dst,.buildSlice t n ps,ty,pos,af,g⟩=True:=rfl
theorem Zh{t x z}{g}: okS P y f ⟨dst,.makeSlice t x z,ty,pos,af,g⟩=True:=rfl
theorem R3{t x a b c}{g}: okS P y f ⟨dst,.slice t x a b c,ty,pos,af,g⟩=True:=rfl
theorem VZ{a b x}{g}: okS P y f ⟨dst,.convert a b x,ty,pos,af,g⟩=True:=rfl
theorem Xu{a b c}{g}: okS P y f ⟨dst,.makeFunc a b c,ty,pos,af,g⟩=True:=rfl
theorem JF{b as ts}{g}: okS P y f ⟨dst,.call ⟨.builtin b,as,ts⟩,ty,pos,af,g⟩=True:=rfl
theorem JG{c}{l:List Operand}{ts}{g}: okS P y f ⟨dst,.call ⟨.value c,l.toArray,ts⟩,ty,pos,af,g⟩=(y.cl=true->tD (acl P (ev f c::l.map (ev f)))):=by
 simp[okS,yj,Op.operands,Call.operands]
theorem JH {g:Nat}{a as:List AV}: tD (acl P (.fn g a::as))=((as++a).all nsl=true):=rfl
theorem JI {g:Nat}{fs as:List AV}: tD (acl P (.bm g fs::as))=((fs++as).all nsl=true):=rfl
attribute [go_sem] JH JI nsl
theorem JJ {i a:Id}{b sz r j c:Nat}: VV i j (.ptr a b sz r c)=(a=i/\c=j):=rfl
def okL:List (Nat×Id×Nat)->AV->Nat->Prop
 |[],_,_=>True
 |(t,i,j)::l,v,s=>if s=t then VV i j v else okL l v s
theorem JK {l:List (Nat×Id×Nat)}{c:Bool}: tC ⟨l,c⟩ f s=okL l (f s) s:=by
 unfold tC;simp only;induction l with
 |nil=>rfl
 |cons q l ih =>
  obtain⟨t,i,j⟩:=q;unfold okL;rw[<-ih];by_cases h:s=t
  ·subst h;simp[List.lookup]
  ·rw[if_neg h];simp only[List.lookup];rw[show(s==t)=false from by simpa using h]
theorem JL: okL [] v s=True:=rfl
theorem JM {t s:Nat}{j:Nat}{l}: okL ((t,i,j)::l) v s=if s=t then VV i j v else okL l v s:=rfl
theorem F8 {c:Prop}{e:Eff}: tD (.req c e)=tD e:=rfl
theorem F9 {g:Nat}: tD (.call g l)=(l.all nsl=true):=rfl
end
attribute [go_sem] O4 Tt O5 Ru O6 MB Ry Xt Zf Rz Zg R0 VY R2 bp Zh R3 VZ Xu JF JG MA O3 F5 F6 F7 JJ JK JL JM F8 F9
def ij (F:List (Nat×AV))(a:List (Id×Ob))(Q:AQ): AQ
 |.normal,f,H=>fle F f/\hle a H
 |e,f,H=>Q e f H
theorem Mh(hP:wI P)(c:List Nat){a b:Code}(F:List (Nat×AV))(m:List (Id×Ob))(j:(yS N c a&&yS N B b)=true)
  (h:avc P X N c a (stQ P X N c [] (ij F m Q)) f H) (k:avc P X N B b (stQ P X N B [] Q) (frl F) (hpl m)):AW P X N (.seq a b) Q f H:=by
 simp only[Bool.and_eq_true] at j;refine AW.seq λK I=>?_;have D:=tX hP j.1 h;have J:=tX hP j.2 k;intro a w r;refine wp_mono (D a w r) λe a' w' ⟨p,H',q,u,v⟩=>?_;cases e
 case normal =>
  refine⟨p,H',I _ _ ?_,u,v⟩;intro z U O;obtain⟨R,A⟩:=O.less q.1 q.2;exact wp_mono (J z U R) λe V W ⟨C,x,M,S,T⟩=>⟨C,x,M,S,A.trans T⟩
 all_goals exact⟨p,H',q,u,v⟩
theorem sj(hP:wI P){a b:Code}(F:List (Nat×AV))(c:List (Id×Ob))(e:(yS N [] a&&yS N B b)=true)
  (h:avc P X N [] a (stQ P X N [] [] (ij F c Q)) f H) (k:avc P X N B b (stQ P X N B [] Q) (frl F) (hpl c)):AW P X N (.seq a b) Q f H:=Mh hP [] F c e h k
section
variable {F:List (Nat×AV)} {HH:List (Id×Ob)} {Q:AQ} {f:Fr} {H:Hp}
theorem FA:ij F HH Q .normal f H=(fle F f/\hle HH H):=rfl
theorem FB:ij F HH Q .ret f H=Q .ret f H:=rfl
theorem FD {l:Nat}: ij F HH Q (.exit l) f H=Q (.exit l) f H:=rfl
theorem FE {l:Nat}: ij F HH Q (.goto l) f H=Q (.goto l) f H:=rfl
theorem FF:ij F HH Q .normal=λf H=>fle F f/\hle HH H:=rfl
end
attribute [go_sem] FA FB FD FE FF
def kZ {G:Type}(F:G->List (Nat×AV))(b:G->List (Id×Ob))(a:G->Prop)(Q:AQ): AQ
 |.normal,f,H=>∃g,a g/\fle (F g) f/\hle (b g) H
 |e,f,H=>Q e f H
theorem mq(hP:wI P)(j:List Nat){a b:Code}{G:Type}(F:G->List (Nat×AV))(p:G->List (Id×Ob))(c:G->Prop)(m:(yS N j a&&yS N B b)=true)
  (h:avc P X N j a (stQ P X N j [] (kZ F p c Q)) f H) (k:∀g,c g->avc P X N B b (stQ P X N B [] Q) (frl (F g)) (hpl (p g))):AW P X N (.seq a b) Q f H:=by
 simp only[Bool.and_eq_true] at m;refine AW.seq λK J=>?_;have I:=tX hP m.1 h;intro a w r;refine wp_mono (I a w r) λe a' w' ⟨u,H',q,x,v⟩=>?_;cases e
 case normal =>
  obtain⟨g,M,R,S⟩:=q;have O:=tX hP m.2 (k g M);refine⟨u,H',J _ _ ?_,x,v⟩;intro A Z U;obtain⟨V,C⟩:=U.less R S;exact wp_mono (O A Z V) λe a3 w3 ⟨D,z,T,W,Y⟩=>⟨D,z,T,W,C.trans Y⟩
 all_goals exact⟨u,H',q,x,v⟩
section
variable {G:Type} {F:G -> List (Nat×AV)} {HH:G -> List (Id×Ob)} {inv:G -> Prop} {Q:AQ} {f:Fr} {H:Hp}
theorem FG:kZ F HH inv Q .normal f H = ∃g,inv g/\fle (F g) f/\hle (HH g) H:=rfl
theorem FH:kZ F HH inv Q .ret f H=Q .ret f H:=rfl
theorem FI {l:Nat}: kZ F HH inv Q (.exit l) f H=Q (.exit l) f H:=rfl
theorem FJ {l:Nat}: kZ F HH inv Q (.goto l) f H=Q (.goto l) f H:=rfl
theorem FK:kZ F HH inv Q .normal=λf H=>∃g,inv g/\fle (F g) f/\hle (HH g) H:=rfl
end
attribute [go_sem] FG FH FI FJ FK
theorem O7: pel H [] []:=rfl
theorem R4{a b:AV}{l r:List AV}(h:pe H a b)(k:pel H l r): pel H (a::l) (b::r):=⟨_,_,rfl,h,k⟩
theorem MC{i j:Id}{b s r o:Nat}: pe H (.ptr i b s r o) (.ptr j b s r o):=Or.inl ⟨_,_,_,_,_,_,rfl,rfl⟩
theorem JN{i j:Id}{b s n c:Nat}: pe H (.sl i b s n c) (.sl j b s n c):=Or.inr (Or.inl ⟨_,_,_,_,_,_,rfl,rfl⟩)
theorem JO{a:AV}: pe H a a:=Or.inr (Or.inr (Or.inl (Or.inl rfl)))
theorem O8{sz:Nat}: pe H .nils (.vec sz []):=Or.inr (Or.inr (Or.inl (Or.inr (Or.inl ⟨rfl,_,rfl⟩))))
theorem O9: sq H [] []=H:=rfl
theorem OA{o:Ob}{As:List Ob}: sq H (i::is) (o::As)=ze (sq H is As) i o:=by
 funext j
 unfold sq ze;simp only[List.zip_cons_cons,List.lookup];by_cases h:j=i
 ·subst h;simp
 ·rw[if_neg h,show(j==i)=false from by simpa using h]
attribute [go_sem] O9 OA
mutual
theorem qz (H:Hp)(E:List Id): ∀a,yK H E a a
 |.sl ..=>by simp[yK]
 |.so ..=>by simp[yK]
 |.nils=>by simp[yK]
 |.agg l=>by simp only[yK];exact uC H E l
 |.tup l=>by simp only[yK];exact uC H E l
 |.int ..|.bool _|.str _|.nilp|.nilf|.vec ..|.nv ..|.ptr ..|.rp _|.fn ..|.bm ..|.any=>by simp[yK]
theorem uC (H:Hp)(E:List Id): ∀l,tR H E l l
 |[]=>by simp[tR]
 |a::l=>by simp only[tR];exact⟨qz H E a,uC H E l⟩
end
theorem xi (H:Hp)(E:List Id): ∀l,t9 H E l l
 |[]=>rfl
 |a::l=>⟨uC H E a,xi H E l⟩
theorem yg{E:List Id}: yK H E (vI []) (.tup []):=qz H E _
theorem MD{w:World}: Ev (own H) w (own (frz L H)) w:=⟨rfl,rfl,rfl,Nat.le_refl _,λb _ h=>⟨λq=>h (x7 q),rfl⟩⟩
theorem rF{f:Nat}{k:AV->Hp->Prop}(L:List Id)(h:wu false P f l (frz L H) k): wu false P f l H k:=λX w cl j a=>by
 have e:Ev (zp X H) w (zp X (frz L H)) w:=⟨rfl,rfl,rfl,Nat.le_refl _,λb _ hn=>⟨λq=>hn (q.imp id x7),rfl⟩⟩
 refine(h X w cl j.frz (RL.mono e _ _ a)).mono λz w' ⟨v,H',c,m,p,r,u,x⟩=>⟨v,H',c,m,p,r,u,?_⟩
 exact(MD (H:=H) (L:=L)).trans x
theorem JP{b sz n cap:Nat}{o:Ob}(p:H i=some o)(a:o.b=b)(c:o.cap=cap)(e:o.sz=sz)(h:n<=o.rows.length)(j:o.fz=true)(m:o.rows.take n=rows): pe H (.sl i b sz n cap) (.vec sz rows) :=
 m▸Or.inr (Or.inr (Or.inl (Or.inr (Or.inr ⟨i,b,sz,n,cap,o,rfl,p,a,c,e,h,Or.inr j,rfl⟩))))
theorem ME: frz L H i=if i∈L then(H i).map λo=>{ o with fz:=true } else H i:=rfl
attribute [go_sem] ME
theorem JQ{g:Nat}{m a:List AV}(h:pfl m a): pe H (.fn g m) (.fn g a):=Or.inr (Or.inr (Or.inr ⟨g,m,a,rfl,rfl,h⟩))
theorem OC:pfl [] []:=rfl
theorem MF {a:AV}{l r:List AV}(k:pfl l r): pfl (a::l) (a::r):=⟨_,_,rfl,Or.inl rfl,k⟩
theorem OD {i j:Id}{b s q o:Nat}{l r:List AV}(k:pfl l r): pfl (.ptr i b s q o::l) (.ptr j b s q o::r):=⟨_,_,rfl,Or.inr ⟨_,_,_,_,_,_,rfl,rfl⟩,k⟩
def arr (n:Nat)(g:Nat->AV): List AV:=(List.range n).map g
theorem OE: (arr n g).length=n:=by simp[arr]
theorem R5: (arr n g).take n=arr n g:=List.take_of_length_le (by simp[arr])
theorem OF(h:k<n): (arr n g).take k++v::(arr n g).drop (k+1)=arr n λi=>if i=k then v else g i:=by
 apply List.ext_getElem?;intro i;simp only[arr];rcases Nat.lt_trichotomy i k with q|q|q
 ·rw[List.getElem?_append_left (by simp;omega)];simp only[List.getElem?_take,List.getElem?_map,List.getElem?_range (show i<n by omega),if_pos q,Option.map_some];rw[if_neg (by omega)]
 ·subst q;rw[List.getElem?_append_right (by simp;omega)];simp[List.getElem?_range h,Nat.min_eq_left (Nat.le_of_lt h)]
 ·rw[List.getElem?_append_right (by simp;omega)];simp only[List.length_take,List.length_map,List.length_range,Nat.min_eq_left (Nat.le_of_lt h)];rw[show i-k=(i-k-1)+1 by omega,List.getElem?_cons_succ,List.getElem?_drop,show k+1+(i-k-1)=i by omega];rcases Nat.lt_or_ge i n with z|z
  ·simp only[List.getElem?_map,List.getElem?_range z,Option.map_some];rw[if_neg (by omega)]
  ·rw[List.getElem?_eq_none (by simp;omega),List.getElem?_eq_none (by simp;omega)]
theorem Zi(h:k<n): (arr n g).drop k=g k::(arr n g).drop (k+1):=by
 rw[List.drop_eq_getElem_cons (by simpa[arr] using h)];simp[arr]
theorem R6(a:rZ P t=some false)(h:k<n): tj P t ((arr n g).drop k) = .val (g k):=by
 unfold tj;rw[a,Zi h]
theorem il(h:∀k,xW (g k)=true): (arr n g).all xW=true:=by simp[arr,h]
attribute [go_sem] OE R5 OF R6 il
def mkC (P:Program)(H:Hp): Eff->(Nat->Nat->Ob)->(Id->Nat->Nat->AV)->Prop
 |.req c e,ob,v=>c/\mkC P H e ob v
 |.call g l,ob,v=>∃l' s t rows,KO P g l' s t rows v/\svl H [] l l'/\ob=λb c=>⟨b,c,s,t,rows,false⟩
 |_,_,_=>False
def isC (C:List Nat)(o:Oper): Bool:=match o.dst with|some d=>C.contains d|none=>false
def AC (P:Program)(ops:Array Oper)(y:Ky)(C:List Nat)(o:Oper)(f:Fr)(H:Hp)(K:Fr->Hp->Prop): Prop:=if isC C o=true then
  gd ops f o=some true/\H (.l (o.dst.getD 0))=none/\∃ob v,mkC P H (zw P o f H) ob v/\∀b c,K (zl f o.dst (v (.l (o.dst.getD 0)) b c)) (ze H (.l (o.dst.getD 0)) (ob b c))
 else AX P ops y o f H K
def de (P:Program)(ops:Array Oper)(y:Ky)(C:List Nat)(k i:Oper): Bool :=
 if isC C k then !isC C i&&k.apart ops i&&decide (zm i.op<=2)&&(zm k.op==3) else if isC C i then k.apart ops i&&decide (zm k.op<=1)&&(zm i.op==3) else Zd P ops y k i
theorem Tu {P:Program}{H:Hp}: ∀ {e:Eff} {ob:Nat->Nat->Ob} {v:Id->Nat->Nat->AV},mkC P H e ob v->∀b c,(ob b c).b=b
 |.req _ e,ob,v,h,b,c=>Tu (e:=e) h.2 b c
 |.call _ _,ob,v,⟨_,_,_,_,_,_,h⟩,b,c=>by rw[h]
theorem Tv {P:Program}{H H':Hp}(hle:HLe H H'): ∀ {e:Eff} {ob:Nat->Nat->Ob} {v:Id->Nat->Nat->AV},mkC P H e ob v->mkC P H' e ob v
 |.req _ e,ob,v,h=>⟨h.1,Tv hle (e:=e) h.2⟩
 |.call _ _,ob,v,⟨l',s,t,rows,h1,h2,h3⟩=>⟨l',s,t,rows,h1,h2.le hle,h3⟩
theorem Zj{H H':Hp}(h:zm op=3): z8 P d H op l=z8 P d H' op l:=by
 cases op<;>simp[zm] at h;rename_i a;obtain⟨callee,args,ts⟩:=a;cases callee<;>simp at h
 ·rfl
 ·rename_i b;cases b<;>simp at h
theorem Tw {P:Program}{H:Hp}{i:Id}{K:AV->Hp->Prop}: ∀ {e:Eff} {ob:Nat->Nat->Ob} {v:Id->Nat->Nat->AV},mkC P H e ob v->(∀b c,K (v i b c) (ze H i (ob b c)))->e.st P H K
 |.req _ e,ob,v,h,k=>⟨h.1,Tw (e:=e) h.2 k⟩
 |.call g l,ob,v,⟨l',s,t,rows,h1,h2,h3⟩,k=>by
  subst h3;exact QX i [] h1 h2 (by rw[sM];exact k)
theorem AC.as{y:Ky}{C:List Nat}(h:AC P ops y C o f H K): AS P ops o f H K:=by
 unfold AC at h;split at h
 ·obtain⟨a,j,ob,v,b,c⟩:=h;unfold AS;rw[a];exact⟨λ_=>Tw (i:=.l (o.dst.getD 0)) b c,λe=>by cases e⟩
 ·exact h.2.as
theorem AC.mono{y:Ky}{C:List Nat}{K a:Fr->Hp->Prop}(h:AC P ops y C o f H K)(k:∀f H,K f H->a f H): AC P ops y C o f H a:=by
 unfold AC at *;split at h<;>rename_i e
 ·rw[if_pos e];obtain⟨j,m,ob,v,p,q⟩:=h;exact⟨j,m,ob,v,p,λb c=>k _ _ (q b c)⟩
 ·rw[if_neg e];exact⟨h.1,h.2.mono k⟩
theorem JR (P:Program)(ops:Array Oper)(y:Ky)(C:List Nat): vu P ops (AC P ops y C) (de P ops y C):=⟨λh k=>h.mono k,λh=>h.as,fun {k i f H K} hm h=>by
 unfold de at hm;by_cases x:isC C k=true
 ·-- the call first
  rw[if_pos x] at hm;simp only[Bool.and_eq_true,Bool.not_eq_true',decide_eq_true_eq,beq_iff_eq] at hm;obtain⟨⟨⟨r,V⟩,hb⟩,h8⟩:=hm;obtain⟨m,J,p⟩:=Oper.apart_spec V;unfold AC at h ⊢;rw[if_pos x] at h;rw[if_neg (by rw[r];simp)];simp only[r,Bool.false_eq_true,if_false] at h;obtain⟨h1,h2,ob,v,h3,h4⟩:=h;generalize hd:Id.l (k.dst.getD 0)=a at *;have h9:gd ops f i=some true->okS P y f i:=λA=>(wZ m).1 ((h4 0 0).1 (by rw[yM m];exact A));refine⟨h9,?_⟩;have U:∀ui,VO P ops i f H ui->(∀b c,K (zl (zl f k.dst (v a b c)) i.dst ui) (ze H a (ob b c)))->AD P ops i f H (λf' H'=>if isC C k=true then gd ops f' k=some true/\H' a=none/\∃ob v,mkC P H' (zw P k f' H') ob v/\∀b c,K (zl f' k.dst (v a b c)) (ze H' a (ob b c)) else AX P ops y k f' H' K):=λui z D=>by
   rw[zj];refine Or.inl ⟨ui,z,?_⟩;rw[if_pos x];refine⟨by rw[yM p];exact h1,h2,ob,v,?_,λb c=>by rw[<-zy J];exact D b c⟩;unfold zw at h3 ⊢;rw[x8 p];exact h3
  by_cases h5:zm i.op=2
  ·have h':∀b c,(∃u,VO P ops i f (ze H a (ob b c)) u/\K (zl (zl f k.dst (v a b c)) i.dst u) (ze H a (ob b c))) \/
     ∃W j v',MO P ops i f (ze H a (ob b c)) W j v'/\∀S T,K (zl (zl f k.dst (v a b c)) i.dst (v' S T)) (ze (ze H a (ob b c)) W (j S T)):=λb c=>by
    rcases zj.1 (h4 b c).2 with⟨u,z,D⟩|⟨W,j,v',z,D⟩
    ·exact Or.inl ⟨u,(yx m).1 z,D⟩
    ·exact Or.inr ⟨W,j,v',(y7 m).1 z,D⟩
   by_cases A:gd ops f i=some true
   ·have hm:∀b c,∃j v',MO P ops i f H (.l (i.dst.getD 0)) j v'/\a≠.l (i.dst.getD 0)/\H (.l (i.dst.getD 0))=none /\
      ∀S T,K (zl (zl f k.dst (v a b c)) i.dst (v' S T)) (ze (ze H a (ob b c)) (.l (i.dst.getD 0)) (j S T)):=λb c=>by
     rcases h' b c with⟨u,(q|q),_⟩|⟨W,j,v',q,w⟩
     ·rw[A] at q;cases q.1
     ·exact absurd q.2 ((wN h5).1 _)
     ·obtain⟨w1,w2,Z,w4⟩:=(wN h5).2 _ _ _ q.2;subst w1;have h6:a≠Id.l (i.dst.getD 0):=λe=>by rw[<-e] at Z;simp[ze] at Z
      have hn:H (.l (i.dst.getD 0))=none:=by unfold ze at Z;rw[if_neg (Ne.symm h6)] at Z;exact Z
      exact⟨j,v',⟨A,w4 H hn⟩,h6,hn,w⟩
    obtain⟨ha,v0,m0,h7,n0,_⟩:=hm 0 0;rw[zj];refine Or.inr ⟨_,ha,v0,m0,λS T=>?_⟩;rw[if_pos x];refine⟨by rw[yM p];exact h1,by unfold ze;rw[if_neg h7];exact h2,ob,v,?_,λb c=>?_⟩
    ·unfold zw at h3 ⊢;rw[x8 p,Zj (H':=H) h8];exact Tv (HLe.set n0 _) h3
    ·obtain⟨j,v',m1,_,_,w⟩:=hm b c;obtain⟨_,rfl,rfl⟩:=uy m0.2 m1.2;rw[<-zy J,<-vB h7];exact w S T
   ·have R:∀b c,gd ops f i=some false/\K (zl (zl f k.dst (v a b c)) i.dst nul) (ze H a (ob b c)):=λb c=>by
     rcases h' b c with⟨u,(q|q),w⟩|⟨_,_,_,q,_⟩
     ·rw[q.2] at w;exact⟨q.1,w⟩
     ·exact absurd q.1 A
     ·exact absurd q.1 A
    exact U nul (Or.inl ⟨(R 0 0).1,rfl⟩) λb c=>(R b c).2
  have I:zm i.op=0\/zm i.op=1:=(by omega)
  have M:NM (z8 P (i.dst.getD 0) H i.op (yj f i)):=wt I;have h':∀b c,∃u,VO P ops i f (ze H a (ob b c)) u/\K (zl (zl f k.dst (v a b c)) i.dst u) (ze H a (ob b c)):=λb c=>by
   rcases zj.1 (h4 b c).2 with⟨u,z,D⟩|⟨W,j,v',z,D⟩
   ·exact⟨u,(yx m).1 z,D⟩
   ·exact absurd ((y7 m).1 z).2 ((wt I).mk _ _ _)
  cases A:gd ops f i with
  |none =>
   obtain⟨u,(q|q),_⟩:=h' 0 0
   ·rw[A] at q;cases q.1
   ·rw[A] at q;cases q.1
  |some g =>
   cases g with
   |false =>
    refine U nul (Or.inl ⟨A,rfl⟩) λb c=>?_;obtain⟨u,(q|q),D⟩:=h' b c
    ·rw[q.2] at D;exact D
    ·rw[A] at q;cases q.1
   |true =>
    have hy:∀b c,∃u,(z8 P (i.dst.getD 0) (ze H a (ob b c)) i.op (yj f i)).Y P (ze H a (ob b c)) u/\K (zl (zl f k.dst (v a b c)) i.dst u) (ze H a (ob b c)):=λb c=>by
     obtain⟨u,(q|q),D⟩:=h' b c
     ·rw[A] at q;cases q.1
     ·exact⟨u,q.2,D⟩
    have he:∀b c,z8 P (i.dst.getD 0) (ze H a (ob b c)) i.op (yj f i)=z8 P (i.dst.getD 0) H i.op (yj f i):=by
     rcases I with e|e
     ·exact λb c=>qG _ e
     ·exact cI e (Tu h3) h2 λb c=>by obtain⟨u,q,_⟩:=hy b c;exact⟨u,q⟩
    obtain⟨u0,w1,_⟩:=hy 0 0;rw[he] at w1;refine U u0 (Or.inr ⟨A,M.y _ w1⟩) λb c=>?_;obtain⟨u,w2,Z⟩:=hy b c;rw[he] at w2;rw[M.uniq (P:=P) (H:=H) _ _ (M.y _ w1) (M.y _ w2)];exact Z
 ·rw[if_neg x] at hm;by_cases r:isC C i=true
  ·rw[if_pos r] at hm;simp only[Bool.and_eq_true,decide_eq_true_eq,beq_iff_eq] at hm;obtain⟨⟨V,hf⟩,hc⟩:=hm;obtain⟨m,J,p⟩:=Oper.apart_spec V;have O:zm k.op=0\/zm k.op=1:=(by omega)
   unfold AC at h ⊢;rw[if_neg x] at h;rw[if_pos r];simp only[r,x,if_true,Bool.false_eq_true,if_false] at h ⊢;rcases zj.1 h.2 with⟨u,z,D⟩|⟨W,j,v',z,_⟩
   ·obtain⟨p1,p2,ob,v,p3,p4⟩:=D;refine⟨by rw[yM m] at p1;exact p1,p2,ob,v,?_,λb c=>⟨λA=>?_,?_⟩⟩
    ·unfold zw at p3 ⊢;rw[x8 m] at p3;exact p3
    ·rw[yM p] at A;exact(wZ p).2 (h.1 A)
    ·rw[zj];refine Or.inl ⟨u,(yx p).2 ?_,by rw[<-zy J];exact p4 b c⟩;rcases z with z|⟨z,q3⟩
     ·exact Or.inl z
     ·exact Or.inr ⟨z,aU (O.imp id Or.inl) (HLe.set p2 _) q3⟩
   ·exact absurd z.2 ((wt O).mk _ _ _)
  ·rw[if_neg r] at hm;unfold AC at h ⊢;simp only[r,x,Bool.false_eq_true,if_false] at h ⊢;exact(bY P ops y).swap hm h⟩
end Go.Proofs.YtllodfoldffonaaGreatDoor.AM
