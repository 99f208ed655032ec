/- A part of the proof. -/
import Derived.Test.YtllodfoldffonaaGreatDoorQ06
namespace Go.Proofs.YtllodfoldffonaaGreatDoor.AM
open Go.RowKit
set_option linter.unusedSimpArgs false
set_option linter.unusedVariables false
set_option maxRecDepth 100000
set_option maxHeartbeats 16000000
variable {H:Hp}{P:Program}{R:List Nat}{a:Id}{d:Nat}{f:Fr}{o:Oper}{ob:Nat->Nat->Ob}{ops:Array Oper}{t:TypeId}{w:Nat->Nat->AV}{y:Ky}
def Qm (i:Id): AV->Prop
 |.sl i' _ _ _ _=>i'=i
 |_=>False
def nso:AV->Bool
 |.sl ..=>false
 |.so ..=>false
 |_=>true
def ZU:List (Nat×Id×Nat)->Nat->AV->AV->Prop
 |[],_,_,_=>True
 |(t,i,_)::l,s,x,z=>if s=t then Qm i x/\nso z=true/\i≠mkS else ZU l s x z
def v9 (y:Ky)(f:Fr): Op->Prop
 |.call ⟨.builtin .append,as,_⟩=>(match as.toList with|[.tmp s,z]=>ZU y.ad s (f s) (ev f z)|_=>True)
 |_=>True
def iE (y:Ky): Op->Option Id
 |.call ⟨.builtin .append,as,_⟩=>(match as.toList with|[.tmp s,_]=>(y.ad.lookup s).map (·.1)|_=>none)
 |_=>none
def nR (y:Ky)(i:Id)(o:Oper): Bool:=match o.op with
 |.load _ (.tmp s)=>(match y.ad.lookup s with|some (i',_)=>i' != i|none=>false)
 |_=>zm o.op==0||zm o.op==2
def apF (y:Ky)(k i:Oper): Bool:=match iE y i.op with|some a=>nR y a k||(zm k.op==3&&y.cl)|none=>false
def apB (y:Ky)(k i:Oper): Bool:=match iE y k.op with|some a=>nR y a i|none=>false
def apA (y:Ky)(k i:Oper): Bool:=match iE y k.op,iE y i.op with|some a,some b=>a != b|_,_=>false
def Lh:AV->Prop
 |.rp _=>True
 |_=>False
def okR (R:List Nat)(f:Fr): Op->Prop
 |.load _ (.tmp s)=>if R.contains s then Lh (f s) else True
 |_=>True
def iF (R:List Nat)(o:Oper): Bool:=match o.op with
 |.load _ (.tmp s)=>R.contains s
 |_=>false
def AZ (P:Program)(ops:Array Oper)(y:Ky)(R:List Nat)(o:Oper)(f:Fr)(H:Hp)(K:Fr->Hp->Prop): Prop:=(gd ops f o=some true->okS P y f o/\v9 y f o.op/\okR R f o.op)/\AD P ops o f H K
def ZV (P:Program)(ops:Array Oper)(y:Ky)(R:List Nat)(k i:Oper): Bool:=k.apart ops i&&(ic (zm k.op) (zm i.op)||xF P y k i||xF P y i k||apF y k i||apB y k i||apA y k i||iF R k||iF R i)
theorem Nm {l:List (Nat×Id×Nat)}{s:Nat}{x z:AV}{a:Id×Nat}(h:l.lookup s=some a)(k:ZU l s x z): Qm a.1 x/\nso z=true/\a.1≠mkS:=by
 induction l with
 |nil=>simp at h
 |cons b l ih =>
  obtain⟨t,i,j⟩:=b;unfold ZU at k;by_cases e:s=t
  ·rw[if_pos e] at k;subst e;simp[List.lookup] at h;subst h;exact k
  ·rw[if_neg e] at k;have:(s==t)=false:=by simpa using e
   simp only[List.lookup,this] at h;exact ih h k
theorem Iu(h:iE y o.op=some a)(k:v9 y f o.op): ∃as ts b sz n cap z,o.op = .call ⟨.builtin .append,as,ts⟩/\yj f o = [.sl a b sz n cap,z]/\nso z=true/\a≠mkS:=by
 obtain⟨dst,op,ty,j,q,g⟩:=o;simp only at h k ⊢;unfold iE at h;split at h
 ·rename_i as ts;unfold v9 at k;simp only at k;split at h
  ·rename_i s z m;rw[m] at k;simp only at k;cases hl:y.ad.lookup s with
   |none=>rw[hl] at h;simp at h
   |some p =>
    rw[hl] at h;simp at h;subst h;obtain⟨e,r,u⟩:=Nm hl k;have c:yj f ⟨dst,.call ⟨.builtin .append,as,ts⟩,ty,j,q,g⟩ = [f s,ev f z]:=by
     unfold yj;simp[Op.operands,Call.operands,m];rfl
    cases l:f s<;>rw[l] at e<;>try exact e.elim
    rename_i i b sz n cap;have e:i=p.1:=e;subst e;exact⟨as,ts,b,sz,n,cap,_,rfl,by rw[c,l],r,u⟩
  ·cases h
 ·cases h
theorem cT {H H':Hp}{s:Nat}{z:AV}(h:nso z=true): qc H s z=qc H' s z:=by
 cases z<;>first|rfl|cases h
theorem fw{a j:Id}{b sz n cap:Nat}{z:AV}(hm:a≠mkS)(h:(xw P d H t (.sl a b sz n cap) z).Mk j ob w): j=a/\∃o,H a=some o/\o.b=b:=by
 unfold xw at h;split at h<;>try exact h.elim
 split at h<;>try exact h.elim
 split at h<;>try exact h.elim
 obtain⟨_,h⟩:=h;simp only[if_neg hm] at h;split at h<;>try exact h.elim
 rename_i o g;obtain⟨c,e,_⟩:=h;exact⟨e,o,g,c.1⟩
theorem Nn{H H':Hp}{a j:Id}{b sz n cap:Nat}{z:AV}(hm:a≠mkS)(g:nso z=true)(c:H' a=H a)(h:(xw P d H t (.sl a b sz n cap) z).Mk j ob w): (xw P d H' t (.sl a b sz n cap) z).Mk j ob w:=by
 have e:xw P d H' t (.sl a b sz n cap) z=xw P d H t (.sl a b sz n cap) z:=by
  unfold xw;simp only[cT (H:=H') (H':=H) g,if_neg hm,c]
 rw[e];exact h
theorem Pk{H H':Hp}{b sz n cap:Nat}{z u:AV}(hm:a≠mkS): ¬(xw P d H t (.sl a b sz n cap) z).Y P H' u:=by
 intro h;unfold xw at h;split at h<;>try exact h
 split at h<;>try exact h
 split at h<;>try exact h
 obtain⟨_,h⟩:=h;simp only[if_neg hm] at h;split at h<;>try exact h
 exact h.2
theorem rO {P:Program}{d:Nat}{H:Hp}{as:Array Operand}{ts:Array TypeId}{a:Id}{b sz n cap:Nat}{z:AV}: (∃t c,ts.toList = [t,c]/\z8 P d H (.call ⟨.builtin .append,as,ts⟩) [.sl a b sz n cap,z] = .req (c=t) (xw P d H t (.sl a b sz n cap) z))\/z8 P d H (.call ⟨.builtin .append,as,ts⟩) [.sl a b sz n cap,z] = .no:=by
 show(∃t c,ts.toList = [t,c]/\ws P d H .append ts [.sl a b sz n cap,z]=_)\/ws P d H .append ts [.sl a b sz n cap,z] = .no;unfold ws;match hts:ts.toList with
 |[]=>exact Or.inr rfl
 |[_]=>exact Or.inr rfl
 |[t,c]=>exact Or.inl ⟨t,c,rfl,rfl⟩
 |_::_::_::_=>exact Or.inr rfl
theorem mO(h:iE y o.op=some a)(k:v9 y f o.op): (∀H H' u,¬(zw P o f H).Y P H' u)/\∀H j ob w,(zw P o f H).Mk j ob w->j=a/\(∃q b,H a=some q/\q.b=b/\∀r l D,(zw P o f r).Mk a l D->∃m,r a=some m/\m.b=b)/\∀H',H' a=H a->(zw P o f H').Mk j ob w:=by
 obtain⟨as,ts,b,sz,n,cap,z,v,g,F,hm⟩:=Iu h k;have s:∀H,zw P o f H=z8 P (o.dst.getD 0) H (.call ⟨.builtin .append,as,ts⟩) [.sl a b sz n cap,z]:=λH=>by unfold zw;rw[v,g]
 refine⟨λH H' u q=>?_,λH j ob w q=>?_⟩
 ·rw[s] at q;rcases @rO P (o.dst.getD 0) H as ts a b sz n cap z with⟨t,C,_,e⟩|e
  ·rw[e] at q;exact Pk hm q.2
  ·rw[e] at q;exact q
 ·rw[s] at q;rcases @rO P (o.dst.getD 0) H as ts a b sz n cap z with⟨t,C,B,e⟩|e
  ·rw[e] at q;obtain⟨J,m⟩:=q;obtain⟨L,G,M,N⟩:=fw hm m;refine⟨L,⟨G,b,M,N,λr l D p=>?_⟩,λH' E=>?_⟩
   ·rw[s] at p;rcases @rO P (o.dst.getD 0) r as ts a b sz n cap z with⟨t2,A,_,c⟩|c
    ·rw[c] at p;exact(fw hm p.2).2
    ·rw[c] at p;exact p.elim
   ·rw[s];rcases @rO P (o.dst.getD 0) H' as ts a b sz n cap z with⟨t2,A,i,c⟩|c
    ·rw[B] at i;injection i with I x;injection x with x _;subst I x;rw[c];exact⟨J,Nn hm F E m⟩
    ·exfalso;have:z8 P (o.dst.getD 0) H' (.call ⟨.builtin .append,as,ts⟩) [.sl a b sz n cap,z] = .req (C=t) (xw P (o.dst.getD 0) H' t (.sl a b sz n cap) z):=by
      show ws P (o.dst.getD 0) H' .append ts [.sl a b sz n cap,z]=_;unfold ws;simp only[B]
     rw[this] at c;cases c
  ·rw[e] at q;exact q.elim
theorem mP{p q:Ob}(l:nR y a o=true)(r:okS P y f o)(hp:H a=some p): (NM (zw P o f H)/\zw P o f (ze H a q)=zw P o f H) \/
  (zm o.op=2/\∀m c v,(zw P o f H).Mk m c v↔(zw P o f (ze H a q)).Mk m c v):=by
 have z:∀k,(ze H a q) k=none↔H k=none:=λk=>by
  unfold ze;split
  ·rename_i e;subst e;rw[hp];simp
  ·exact Iff.rfl
 have n:(zm o.op==0||zm o.op==2)=true->(NM (zw P o f H)/\zw P o f (ze H a q)=zw P o f H)\/(zm o.op=2/\∀m c v,(zw P o f H).Mk m c v↔(zw P o f (ze H a q)).Mk m c v):=λi=>by
  simp only[Bool.or_eq_true,beq_iff_eq] at i;rcases i with i|i
  ·exact Or.inl ⟨wt (Or.inl i),qG _ i⟩
  ·refine Or.inr ⟨i,λm c v=>⟨λh=>?_,λh=>?_⟩⟩
   ·obtain⟨B,C,u,x⟩:=(wN i).2 _ _ _ h;exact x _ ((z _).2 u)
   ·obtain⟨B,C,u,x⟩:=(wN i).2 _ _ _ h;exact x _ ((z _).1 u)
 unfold nR at l;split at l
 ·rename_i A s' b;have g:tC y f s':=by unfold okS at r;rw[b] at r;exact r
  have j:yj f o = [f s']:=by unfold yj;rw[b];rfl
  split at l
  ·rename_i m D hl;unfold tC at g
   rw[hl] at g
   refine Or.inl ⟨?_,?_⟩
   ·unfold zw;rw[b];exact wt (Or.inr rfl)
   ·unfold zw;rw[b,j];show yT P A _ (f s')=yT P A H (f s');cases s:f s'<;>rw[s] at g<;>try exact g.elim
    obtain⟨rfl,rfl⟩:=g
    unfold yT;simp only[bne_iff_ne] at l;simp only[xS,ze,if_neg l]
  ·cases l
 ·exact n l
theorem rP{d:Option Nat}{v:AV}(h:∀t,d=some t->t∉Oper.looksAt ops o): v9 y (zl f d v) o.op↔v9 y f o.op:=by
 have hs:∀x∈o.op.operands.toList,ev (zl f d v) x=ev f x:=λx hx=>by
  cases d with
  |none=>rfl
  |some t =>
   cases x with
   |tmp s =>
    show xb f t v s=f s;unfold xb;rw[if_neg];rintro rfl;exact h s rfl (List.mem_append_left _ (List.mem_filterMap.2 ⟨_,hx,rfl⟩))
   |_=>rfl
 obtain⟨dst,op,ty,i,j,g⟩:=o;simp only at hs ⊢;unfold v9;split
 ·rename_i as ts;split
  ·rename_i s z c;have b:=hs (.tmp s) (by simp[Op.operands,Call.operands,c]);have e:=hs z (by simp[Op.operands,Call.operands,c]);have b:zl f d v s=f s:=b;rw[b,e]
  ·exact Iff.rfl
 ·exact Iff.rfl
theorem pK{d:Option Nat}{v:AV}(h:∀t,d=some t->t∉Oper.looksAt ops o): okR R (zl f d v) o.op↔okR R f o.op:=by
 obtain⟨dst,op,ty,b,c,g⟩:=o;cases op<;>try exact Iff.rfl
 rename_i t x;cases x<;>try exact Iff.rfl
 rename_i s;have:zl f d v s=f s:=by
  cases d with
  |none=>rfl
  |some t =>
   show xb f t v s=f s;unfold xb;rw[if_neg];rintro rfl;exact h s rfl (List.mem_append_left _ (List.mem_filterMap.2 ⟨.tmp s,by simp[Op.operands],rfl⟩))
 simp only[okR,this]
theorem oV{k i:Oper}(j:k.apart ops i=true)
  (l:(gd ops f k=some true->okS P y f k/\v9 y f k.op/\okR R f k.op)->(gd ops f i=some true->okS P y f i/\v9 y f i.op/\okR R f i.op)->∀K,AD P ops k f H (λe H'=>AD P ops i e H' K)->AD P ops i f H (λe H'=>AD P ops k e H' K)) {K:Fr->Hp->Prop}
  (h:AZ P ops y R k f H (λe H'=>AZ P ops y R i e H' K)):AZ P ops y R i f H (λe H'=>AZ P ops y R k e H' K):=by
 obtain⟨b,m,c⟩:=Oper.apart_spec j;have hi:gd ops f i=some true->okS P y f i/\v9 y f i.op/\okR R f i.op:=λg=>by
  obtain⟨u,H',q⟩:=h.2.some;have:=q.1 (by rw[yM b];exact g)
  exact⟨(wZ b).1 this.1,(rP b).1 this.2.1,(pK b).1 this.2.2⟩
 have n:=l h.1 hi K (h.2.mono λ_ _ q=>q.2);refine⟨hi,n.mono' λu H' q=>⟨λg=>?_,q⟩⟩;rw[yM c] at g;have:=h.1 g
 exact⟨(wZ c).2 this.1,(rP c).2 this.2.1,(pK c).2 this.2.2⟩
theorem nS(h:iF R o=true)(k:okR R f o.op): ∃e:Eff,NM e/\∀H,zw P o f H=e:=by
 obtain⟨dst,op,ty,c,i,g⟩:=o;unfold iF at h;simp only at h k;split at h
 ·rename_i t s;simp only[okR,h,if_true] at k;cases b:f s<;>rw[b] at k<;>try exact k.elim
  rename_i l;refine⟨yT P t (λ_=>none) (.rp l),?_,λH=>?_⟩
  ·have:=wt (P:=P) (d:=0) (H:=λ_=>none) (op:=.load t (.tmp s)) (l:=[.rp l]) (Or.inr rfl)
   exact this
  ·show yT P t H (f s)=_;rw[b];rfl
 ·cases h
theorem No{k i:Oper}(A:k.apart ops i=true)(B:gd ops f k=some true->∃e:Eff,NM e/\∀H,zw P k f H=e)(K:Fr->Hp->Prop)
  (h:AD P ops k f H (λz H'=>AD P ops i z H' K)):AD P ops i f H (λz H'=>AD P ops k z H' K):=by
 obtain⟨l,m,p⟩:=Oper.apart_spec A;have F:∀H' u,VO P ops k f H u->VO P ops k f H' u:=λH' u q=>by
  rcases q with q|⟨g,q⟩
  ·exact Or.inl q
  ·obtain⟨e,n,x⟩:=B g;rw[x] at q;exact Or.inr ⟨g,by rw[x];exact n.y _ q⟩
 rw[zj] at h;rcases h with⟨C,r,h⟩|⟨G,D,I,r,h⟩
 ·rw[zj] at h;rcases h with⟨E,s,h⟩|⟨j,ob,v,s,h⟩
  ·rw[yx l] at s;rw[zj];refine Or.inl ⟨E,s,?_⟩;rw[zj];exact Or.inl ⟨C,(yx p).2 r,by rw[<-zy m];exact h⟩
  ·rw[y7 l] at s;rw[zj];refine Or.inr ⟨j,ob,v,s,λb c=>?_⟩;rw[zj];exact Or.inl ⟨C,(yx p).2 (F _ _ r),by rw[<-zy m];exact h b c⟩
 ·obtain⟨e,n,x⟩:=B r.1;have:=r.2
  rw[x] at this;exact absurd this (n.mk _ _ _)
theorem Np{k i:Oper}(F:k.apart ops i=true)(hi:gd ops f i=some true->∃e:Eff,NM e/\∀H,zw P i f H=e)(K:Fr->Hp->Prop)
  (h:AD P ops k f H (λD H'=>AD P ops i D H' K)):AD P ops i f H (λD H'=>AD P ops k D H' K):=by
 obtain⟨m,x,z⟩:=Oper.apart_spec F;have Q:∀l H' u,VO P ops i f l u->VO P ops i f H' u:=λl H' u q=>by
  rcases q with q|⟨g,q⟩
  ·exact Or.inl q
  ·obtain⟨e,n,s⟩:=hi g;rw[s] at q;exact Or.inr ⟨g,by rw[s];exact n.y _ q⟩
 have one:∀l u I,VO P ops i f l u->VO P ops i f l I->u=I:=λl u I q r=>by
  rcases q with q|⟨g,q⟩<;>rcases r with r|⟨J,r⟩
  ·rw[q.2,r.2]
  ·rw[q.1] at J;cases J
  ·rw[r.1] at g;cases g
  ·obtain⟨e,n,s⟩:=hi g;rw[s] at q r;exact n.uniq _ _ q r
 have p:∀l j ob v,¬MO P ops i f l j ob v:=λl j ob v q=>by
  obtain⟨e,n,s⟩:=hi q.1;have:=q.2
  rw[s] at this;exact n.mk _ _ _ this
 rw[zj] at h;rcases h with⟨O,E,h⟩|⟨L,B,M,E,h⟩
 ·rw[zj] at h;rcases h with⟨N,A,h⟩|⟨j,ob,v,A,h⟩
  ·rw[yx m] at A;rw[zj];refine Or.inl ⟨N,A,?_⟩;rw[zj];exact Or.inl ⟨O,(yx z).2 E,by rw[<-zy x];exact h⟩
  ·rw[y7 m] at A;exact absurd A (p _ _ _ _)
 ·have hm:∀b c,∃u,VO P ops i f H u/\K (zl (zl f k.dst (M b c)) i.dst u) (ze H L (B b c)):=λb c=>by
   rcases zj.1 (h b c) with⟨u,G,C⟩|⟨S,ob,v,G,C⟩
   ·exact⟨u,Q _ _ _ ((yx m).1 G),C⟩
   ·exact absurd ((y7 m).1 G) (p _ _ _ _)
  obtain⟨u,q,_⟩:=hm 0 0;rw[zj];refine Or.inl ⟨u,q,?_⟩;rw[zj];refine Or.inr ⟨L,B,M,(y7 z).2 E,λb c=>?_⟩;obtain⟨T,C,w⟩:=hm b c;rw[one _ _ _ q C,<-zy x];exact w
theorem Nq{k i:Oper}(h4:k.apart ops i=true)(s:apF y k i=true)
  (hk:gd ops f k=some true->okS P y f k/\v9 y f k.op) (hi:gd ops f i=some true->okS P y f i/\v9 y f i.op) (K:Fr->Hp->Prop)
  (h:AD P ops k f H (λf' H'=>AD P ops i f' H' K)):AD P ops i f H (λf' H'=>AD P ops k f' H' K):=by
 obtain⟨D,E,F⟩:=Oper.apart_spec h4;unfold apF at s;split at s<;>try exact(by cases s)
 rename_i a ha;have h8:zm k.op<=3:=by
  simp only[Bool.or_eq_true,Bool.and_eq_true,beq_iff_eq] at s;rcases s with s|s
  ·unfold nR at s;split at s
   ·rename_i hc;rw[hc];simp[zm]
   ·simp only[Bool.or_eq_true,beq_iff_eq] at s;omega
  ·omega
 rw[zj] at h;rcases h with⟨uk,x,h⟩|⟨ik,r,N,x,h⟩
 ·rw[zj] at h;rcases h with⟨ui,I,h⟩|⟨j,ob,v,I,h⟩
  ·rw[yx D] at I;rw[zj];refine Or.inl ⟨ui,I,?_⟩;rw[zj];exact Or.inl ⟨uk,(yx F).2 x,by rw[<-zy E];exact h⟩
  ·rw[y7 D] at I;rw[zj];refine Or.inr ⟨j,ob,v,I,λb c=>?_⟩;rw[zj];refine Or.inl ⟨uk,(yx F).2 ?_,by rw[<-zy E];exact h b c⟩;obtain⟨rfl,⟨p,_,hp,_,_⟩,_⟩:=(mO ha (hi I.1).2).2 _ _ _ _ I.2;rcases x with x|⟨x,Y⟩
   ·exact Or.inl x
   ·refine Or.inr ⟨x,?_⟩;simp only[Bool.or_eq_true,Bool.and_eq_true,beq_iff_eq] at s;rcases s with s|⟨B,h5⟩
    ·rcases mP (q:=ob b c) s (hk x).1 hp with⟨n,e⟩|⟨e,_⟩
     ·rw[e];exact n.y _ Y
     ·exact absurd Y ((wN e).1 _)
    ·have S:∃O,k.op = .call O/\∃v,O.callee = .value v:=by
      cases V:k.op<;>rw[V] at B<;>simp[zm] at B;rename_i O;refine⟨O,rfl,?_⟩;obtain⟨callee,args,ts⟩:=O;cases callee<;>simp at B
      ·exact⟨_,rfl⟩
      ·rename_i b;cases b<;>simp at B
     obtain⟨O,J,vv,M⟩:=S;have he:∀H',zw P k f H'=acl P (yj f k):=λH'=>by
      unfold zw;rw[J];simp only[z8,M]
     have hb:tD (acl P (yj f k)):=by
      have Z:=(hk x).1;unfold okS at Z;rw[J] at Z;simp only[M] at Z;exact Z h5
     have hj:NM (acl P (yj f k))\/∃c g l,acl P (yj f k) = .req c (.call g l):=by
      unfold acl;split
      ·exact Or.inr ⟨_,_,_,rfl⟩
      ·exact Or.inr ⟨_,_,_,rfl⟩
      ·exact Or.inl NM.no
     have h9:∀i o' v,¬(acl P (yj f k)).Mk i o' v:=λi o' v q=>by
      have:=aV (P:=P) (d:=0) (H:=H) (l:=yj f k) B i o' v
      rw[J] at this;simp only[z8,M] at this;exact this q
     rw[he] at Y ⊢;exact eY hb h9 hj Y
 ·have h7:zm k.op=2:=da h8 x.2;have h6:nR y a k=true:=by
   simp only[Bool.or_eq_true,Bool.and_eq_true,beq_iff_eq] at s;rcases s with s|⟨e,_⟩
   ·exact s
   ·omega
  obtain⟨W,X,q3,q4⟩:=(wN h7).2 _ _ _ x.2;subst W;have h':∀b c,(∃u,VO P ops i f (ze H (.l (k.dst.getD 0)) (r b c)) u/\K (zl (zl f k.dst (N b c)) i.dst u) (ze H (.l (k.dst.getD 0)) (r b c))) \/
    ∃i' ob v,MO P ops i f (ze H (.l (k.dst.getD 0)) (r b c)) i' ob v/\∀z A,K (zl (zl f k.dst (N b c)) i.dst (v z A)) (ze (ze H (.l (k.dst.getD 0)) (r b c)) i' (ob z A)):=λb c=>by
   have:=zj.1 (h b c)
   rcases this with⟨u,W,X⟩|⟨i',ob,v,W,X⟩
   ·exact Or.inl ⟨u,(yx D).1 W,X⟩
   ·exact Or.inr ⟨i',ob,v,(y7 D).1 W,X⟩
  by_cases T:gd ops f i=some true
  ·have Q:=mO (P:=P) ha (hi T).2;have C:∀b c,∃ob v,MO P ops i f (ze H (.l (k.dst.getD 0)) (r b c)) a ob v/\∀z A,K (zl (zl f k.dst (N b c)) i.dst (v z A)) (ze (ze H (.l (k.dst.getD 0)) (r b c)) a (ob z A)):=λb c=>by
    rcases h' b c with⟨u,(q|q),_⟩|⟨j,ob,v,q,w⟩
    ·rw[T] at q;cases q.1
    ·exact absurd q.2 (Q.1 _ _ _)
    ·obtain⟨rfl,_⟩:=Q.2 _ _ _ _ q.2;exact⟨ob,v,q,w⟩
   have U:a≠.l (k.dst.getD 0):=λe=>by
    obtain⟨ob,v,m,_⟩:=C 0 0;obtain⟨_,⟨q,b0,hl,hn,hd⟩,_⟩:=Q.2 _ _ _ _ m.2;obtain⟨ht,v1,m1,_⟩:=C (b0+1) 0;obtain⟨hv,L,hr⟩:=hd _ _ _ m1.2;rw[e] at L;simp only[ze,if_true,Option.some.injEq] at L;have:=X (b0+1) 0
    rw[L] at this;omega
   have hm:∀b c,∃ob v,MO P ops i f H a ob v/\∀z A,K (zl (zl f k.dst (N b c)) i.dst (v z A)) (ze (ze H (.l (k.dst.getD 0)) (r b c)) a (ob z A)):=λb c=>by
    obtain⟨ob,v,m,w⟩:=C b c;obtain⟨_,_,hq⟩:=Q.2 _ _ _ _ m.2;exact⟨ob,v,⟨T,hq H (by unfold ze;rw[if_neg U])⟩,w⟩
   obtain⟨ob,v,m,_⟩:=hm 0 0;rw[zj];refine Or.inr ⟨a,ob,v,m,λz A=>?_⟩;rw[zj];obtain⟨_,⟨p,_,hp,_,_⟩,_⟩:=Q.2 _ _ _ _ m.2;refine Or.inr ⟨.l (k.dst.getD 0),r,N,(y7 F).2 ⟨x.1,?_⟩,λb c=>?_⟩
   ·rcases mP (q:=ob z A) h6 (hk x.1).1 hp with⟨n,_⟩|⟨_,e⟩
    ·exact absurd x.2 (n.mk _ _ _)
    ·exact(e _ _ _).1 x.2
   ·obtain⟨hu,v2,m',w⟩:=hm b c;obtain⟨_,rfl,rfl⟩:=uy m.2 m'.2;rw[<-zy E,<-vB (Ne.symm U)];exact w z A
  ·rw[zj];have G:∀b c,gd ops f i=some false/\K (zl (zl f k.dst (N b c)) i.dst nul) (ze H (.l (k.dst.getD 0)) (r b c)):=λb c=>by
    rcases h' b c with⟨u,(q|q),w⟩|⟨_,_,_,q,_⟩
    ·rw[q.2] at w;exact⟨q.1,w⟩
    ·exact absurd q.1 T
    ·exact absurd q.1 T
   refine Or.inl ⟨nul,Or.inl ⟨(G 0 0).1,rfl⟩,?_⟩;rw[zj];exact Or.inr ⟨_,r,N,(y7 F).2 x,λb c=>by rw[<-zy E];exact(G b c).2⟩
theorem Nr{k i:Oper}(U:k.apart ops i=true)(M:apB y k i=true)
  (Z:gd ops f k=some true->okS P y f k/\v9 y f k.op) (hi:gd ops f i=some true->okS P y f i/\v9 y f i.op) (K:Fr->Hp->Prop)
  (h:AD P ops k f H (λS H'=>AD P ops i S H' K)):AD P ops i f H (λS H'=>AD P ops k S H' K):=by
 obtain⟨A,s,x⟩:=Oper.apart_spec U;unfold apB at M;split at M<;>try exact(by cases M)
 rename_i a X;rw[zj] at h;rcases h with⟨uk,r,h⟩|⟨j,ob,v,r,h⟩
 ·rw[zj] at h;rcases h with⟨ui,L,h⟩|⟨ii,V,vi,L,h⟩
  ·rw[yx A] at L;rw[zj];refine Or.inl ⟨ui,L,?_⟩;rw[zj];exact Or.inl ⟨uk,(yx x).2 r,by rw[<-zy s];exact h⟩
  ·rw[y7 A] at L;rw[zj];refine Or.inr ⟨ii,V,vi,L,λb c=>?_⟩;rw[zj];refine Or.inl ⟨uk,(yx x).2 ?_,by rw[<-zy s];exact h b c⟩;rcases r with r|⟨g1,r⟩
   ·exact Or.inl r
   ·exact absurd r ((mO X (Z g1).2).1 _ _ _)
 ·have hA:=mO (P:=P) X (Z r.1).2;obtain⟨rfl,⟨p,b0,hp,_,_⟩,J⟩:=hA.2 _ _ _ _ r.2;have T:∀b c,(∃u,VO P ops i f (ze H j (ob b c)) u/\K (zl (zl f k.dst (v b c)) i.dst u) (ze H j (ob b c))) \/
    ∃F g z,MO P ops i f (ze H j (ob b c)) F g z/\∀G I,K (zl (zl f k.dst (v b c)) i.dst (z G I)) (ze (ze H j (ob b c)) F (g G I)):=λb c=>by
   have:=zj.1 (h b c)
   rcases this with⟨u,W,C⟩|⟨F,g,z,W,C⟩
   ·exact Or.inl ⟨u,(yx A).1 W,C⟩
   ·exact Or.inr ⟨F,g,z,(y7 A).1 W,C⟩
  by_cases D:gd ops f i=some true
  ·rcases Classical.em (zm i.op=2) with Q|Q
   ·have B:∀b c F O v',(zw P i f H).Mk F O v'↔(zw P i f (ze H j (ob b c))).Mk F O v':=λb c=>by
     rcases mP (q:=ob b c) M (hi D).1 hp with⟨n,e⟩|⟨_,e⟩
     ·rw[e];exact λ_ _ _=>Iff.rfl
     ·exact e
    have hm:∀b c,∃g z,MO P ops i f H (.l (i.dst.getD 0)) g z/\H (.l (i.dst.getD 0))=none/\∀G I,K (zl (zl f k.dst (v b c)) i.dst (z G I)) (ze (ze H j (ob b c)) (.l (i.dst.getD 0)) (g G I)):=λb c=>by
     rcases T b c with⟨u,(q|q),_⟩|⟨F,g,z,q,w⟩
     ·rw[D] at q;cases q.1
     ·exact absurd q.2 ((wN Q).1 _)
     ·have q':=(B b c _ _ _).2 q.2;obtain⟨rfl,_,w3,_⟩:=(wN Q).2 _ _ _ q';exact⟨g,z,⟨D,q'⟩,w3,w⟩
    obtain⟨g,z,m,hn,_⟩:=hm 0 0;have N:j≠.l (i.dst.getD 0):=λe=>by rw[e,hn] at hp;cases hp
    rw[zj];refine Or.inr ⟨_,g,z,m,λG I=>?_⟩;rw[zj];refine Or.inr ⟨j,ob,v,(y7 x).2 ⟨r.1,J _ (by unfold ze;rw[if_neg N])⟩,λb c=>?_⟩;obtain⟨h3,v3,m3,_,w⟩:=hm b c;obtain⟨_,rfl,rfl⟩:=uy m.2 m3.2;rw[<-zy s,vB (Ne.symm N)];exact w G I
   ·have B:∀b c,NM (zw P i f H)/\zw P i f (ze H j (ob b c))=zw P i f H:=λb c=>by
     rcases mP (q:=ob b c) M (hi D).1 hp with e|⟨e,_⟩
     ·exact e
     ·exact absurd e Q
    have hm:∀b c,∃u,(zw P i f H).Y P H u/\K (zl (zl f k.dst (v b c)) i.dst u) (ze H j (ob b c)):=λb c=>by
     obtain⟨n,e⟩:=B b c;rcases T b c with⟨u,(q|q),w⟩|⟨_,_,_,q,_⟩
     ·rw[D] at q;cases q.1
     ·have C:=q.2;rw[e] at C;exact⟨u,n.y _ C,w⟩
     ·have C:=q.2;rw[e] at C;exact absurd C (n.mk _ _ _)
    obtain⟨u,m,_⟩:=hm 0 0;rw[zj];refine Or.inl ⟨u,Or.inr ⟨D,m⟩,?_⟩;rw[zj];refine Or.inr ⟨j,ob,v,(y7 x).2 r,λb c=>?_⟩;obtain⟨u2,m2,w⟩:=hm b c;rw[(B 0 0).1.uniq _ _ m m2,<-zy s];exact w
  ·have E:∀b c,gd ops f i=some false/\K (zl (zl f k.dst (v b c)) i.dst nul) (ze H j (ob b c)):=λb c=>by
    rcases T b c with⟨u,(q|q),w⟩|⟨_,_,_,q,_⟩
    ·rw[q.2] at w;exact⟨q.1,w⟩
    ·exact absurd q.1 D
    ·exact absurd q.1 D
   rw[zj];refine Or.inl ⟨nul,Or.inl ⟨(E 0 0).1,rfl⟩,?_⟩;rw[zj];exact Or.inr ⟨j,ob,v,(y7 x).2 r,λb c=>by rw[<-zy s];exact(E b c).2⟩
theorem Ns{k i:Oper}(L:k.apart ops i=true)(G:apA y k i=true)
  (U:gd ops f k=some true->okS P y f k/\v9 y f k.op) (hi:gd ops f i=some true->okS P y f i/\v9 y f i.op) (K:Fr->Hp->Prop)
  (h:AD P ops k f H (λI H'=>AD P ops i I H' K)):AD P ops i f H (λI H'=>AD P ops k I H' K):=by
 obtain⟨n,p,r⟩:=Oper.apart_spec L;unfold apA at G;split at G<;>try exact(by cases G)
 rename_i a F T J;have B:a≠F:=by simpa using G
 rw[zj] at h;rcases h with⟨V,g,h⟩|⟨j,ob,v,g,h⟩
 ·rw[zj] at h;rcases h with⟨ui,C,h⟩|⟨Z,M,vi,C,h⟩
  ·rw[yx n] at C;rw[zj];refine Or.inl ⟨ui,C,?_⟩;rw[zj];exact Or.inl ⟨V,(yx r).2 g,by rw[<-zy p];exact h⟩
  ·rw[y7 n] at C;rw[zj];refine Or.inr ⟨Z,M,vi,C,λb c=>?_⟩;rw[zj];refine Or.inl ⟨V,(yx r).2 ?_,by rw[<-zy p];exact h b c⟩;rcases g with g|⟨W,g⟩
   ·exact Or.inl g
   ·exact absurd g ((mO T (U W).2).1 _ _ _)
 ·have X:=mO (P:=P) T (U g.1).2;obtain⟨rfl,_,A⟩:=X.2 _ _ _ _ g.2;have Q:∀b c,(∃u,VO P ops i f (ze H j (ob b c)) u/\K (zl (zl f k.dst (v b c)) i.dst u) (ze H j (ob b c))) \/
    ∃E e l,MO P ops i f (ze H j (ob b c)) E e l/\∀x z,K (zl (zl f k.dst (v b c)) i.dst (l x z)) (ze (ze H j (ob b c)) E (e x z)):=λb c=>by
   have:=zj.1 (h b c)
   rcases this with⟨u,N,O⟩|⟨E,e,l,N,O⟩
   ·exact Or.inl ⟨u,(yx n).1 N,O⟩
   ·exact Or.inr ⟨E,e,l,(y7 n).1 N,O⟩
  by_cases D:gd ops f i=some true
  ·have S:=mO (P:=P) J (hi D).2;have hm:∀b c,∃e l,MO P ops i f H F e l/\∀x z,K (zl (zl f k.dst (v b c)) i.dst (l x z)) (ze (ze H j (ob b c)) F (e x z)):=λb c=>by
    rcases Q b c with⟨u,(q|q),_⟩|⟨E,e,l,q,w⟩
    ·rw[D] at q;cases q.1
    ·exact absurd q.2 (S.1 _ _ _)
    ·obtain⟨rfl,_,Y⟩:=S.2 _ _ _ _ q.2;exact⟨e,l,⟨D,Y H (by unfold ze;rw[if_neg (Ne.symm B)])⟩,w⟩
   obtain⟨e,l,m,_⟩:=hm 0 0;rw[zj];refine Or.inr ⟨F,e,l,m,λx z=>?_⟩;rw[zj];refine Or.inr ⟨j,ob,v,(y7 r).2 ⟨g.1,A _ (by unfold ze;rw[if_neg B])⟩,λb c=>?_⟩;obtain⟨h3,v3,m3,w⟩:=hm b c;obtain⟨_,rfl,rfl⟩:=uy m.2 m3.2;rw[<-zy p,vB (Ne.symm B)];exact w x z
  ·have s:∀b c,gd ops f i=some false/\K (zl (zl f k.dst (v b c)) i.dst nul) (ze H j (ob b c)):=λb c=>by
    rcases Q b c with⟨u,(q|q),w⟩|⟨_,_,_,q,_⟩
    ·rw[q.2] at w;exact⟨q.1,w⟩
    ·exact absurd q.1 D
    ·exact absurd q.1 D
   rw[zj];refine Or.inl ⟨nul,Or.inl ⟨(s 0 0).1,rfl⟩,?_⟩;rw[zj];exact Or.inr ⟨j,ob,v,(y7 r).2 g,λb c=>by rw[<-zy p];exact(s b c).2⟩
theorem U5 (P:Program)(ops:Array Oper)(y:Ky)(R:List Nat): vu P ops (AZ P ops y R) (ZV P ops y R):=⟨λh k=>⟨h.1,h.2.mono k⟩,λh=>h.2.as,λhm h=>by
 unfold ZV at hm;simp only[Bool.and_eq_true,Bool.or_eq_true] at hm;obtain⟨b,((((((j|i)|i)|i)|i)|i)|i)|i⟩:=hm
 ·exact oV b (λ_ _ K q=>kY b j q) h
 ·exact oV b (λc e K q=>db b i (λg=>(c g).1) (λg=>(e g).1) K q) h
 ·exact oV b (λc e K q=>dc b i (λg=>(c g).1) (λg=>(e g).1) K q) h
 ·exact oV b (λc e K q=>Nq b i (λg=>⟨(c g).1,(c g).2.1⟩) (λg=>⟨(e g).1,(e g).2.1⟩) K q) h
 ·exact oV b (λc e K q=>Nr b i (λg=>⟨(c g).1,(c g).2.1⟩) (λg=>⟨(e g).1,(e g).2.1⟩) K q) h
 ·exact oV b (λc e K q=>Ns b i (λg=>⟨(c g).1,(c g).2.1⟩) (λg=>⟨(e g).1,(e g).2.1⟩) K q) h
 ·exact oV b (λc e K q=>No b (λg=>nS i (c g).2.2) K q) h
 ·exact oV b (λc e K q=>Np b (λg=>nS i (e g).2.2) K q) h⟩
theorem vo(hP:wI P)(y:Ky)(R:List Nat){X:Nat->Prop}{N:Nat}{id:Nat}{Q:AQ}(b:(ur N ops&&tz (ZV P ops y R) ops)=true)
  (h:SL (AZ P ops y R) (Q .normal) ops.toList f H):AW P X N (.region id ops true) Q f H:=by
 simp only[Bool.and_eq_true] at b;exact uo hP.mx hP.by_ (U5 P ops y R) b.1 b.2 h
section
variable {P:Program} {y:Ky} {R:List Nat} {K:Fr -> Hp -> Prop} {f:Fr} {H:Hp}
theorem Li: SL (AZ P ops y R) K [] f H=K f H:=rfl
theorem Nt{l:List Oper}: SL (AZ P ops y R) K (o::l) f H=((gd ops f o=some true->okS P y f o/\v9 y f o.op/\okR R f o.op)/\AG true P ops o f H (SL (AZ P ops y R) K l)):=rfl
end
attribute [go_sem] Li Nt v9 ZU Qm nso okR Lh
end Go.Proofs.YtllodfoldffonaaGreatDoor.AM
