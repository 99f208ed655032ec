/- A part of the proof. -/
import Derived.Test.YtllodfoldffonaaGreatDoorQ03
namespace Go.Proofs.YtllodfoldffonaaGreatDoor.AM
open Go.RowKit
set_option linter.unusedSimpArgs false
set_option linter.unusedVariables false
set_option maxRecDepth 100000
set_option maxHeartbeats 16000000
variable {G:Type}{H:Hp}{K:Fr->Hp->Prop}{N:Nat}{P:Program}{Q:AQ}{X:Nat->Prop}{af:Array Edge}{as:Array Operand}{b:Bool}{c:Code}{cs:List Value}{d:Option Nat}{dst:Option Nat}{f:Fr}{i:Id}{id:Nat}{j:Nat}{k:AV->Hp->Prop}{k1:IntKind}{kd:IntKind}{l:List AV}{may:Oper->Oper->Bool}{n:Nat}{o:Oper}{op:Op}{ops:Array Oper}{pos:String}{ps:List (Nat×Operand)}{rows:List (List AV)}{rs:List ResultVar}{s:Nat}{t:TypeId}{ts:Array TypeId}{ty:TypeId}{v:AV}{w:World}{want:Bool}{x:Operand}
theorem vB{i j:Id}{o p:Ob}(h:i≠j): ze (ze H i o) j p=ze (ze H j p) i o:=by
 funext q
 simp only[ze];split<;>split<;>first|rfl|(rename_i a b;exact absurd (b.symm.trans a) h)
def VO (P:Program)(ops:Array Oper)(o:Oper)(f:Fr)(H:Hp)(u:AV): Prop:=(gd ops f o=some false/\u=nul)\/(gd ops f o=some true/\(zw P o f H).Y P H u)
def MO (P:Program)(ops:Array Oper)(o:Oper)(f:Fr)(H:Hp)(i:Id)(ob:Nat->Nat->Ob)(v:Nat->Nat->AV): Prop:=gd ops f o=some true/\(zw P o f H).Mk i ob v
theorem zj: AD P ops o f H K ↔
  (∃u,VO P ops o f H u/\K (zl f o.dst u) H)\/∃i ob v,MO P ops o f H i ob v/\∀b c,K (zl f o.dst (v b c)) (ze H i (ob b c)):=by
 unfold AD VO MO;cases q:gd ops f o with
 |none=>simp
 |some g =>
  cases g with
  |false =>
   constructor
   ·exact λh=>Or.inl ⟨_,Or.inl ⟨rfl,rfl⟩,h.2 rfl⟩
   ·rintro(⟨u,(⟨_,rfl⟩|⟨h,_⟩),k⟩|⟨i,ob,v,⟨h,_⟩,_⟩)
    ·exact⟨λe=>(by cases e),λ_=>k⟩
    ·cases h
    ·cases h
  |true =>
   constructor
   ·intro h;rcases h.1 rfl with⟨u,a,p⟩|⟨i,ob,v,a,p⟩
    ·exact Or.inl ⟨u,Or.inr ⟨rfl,a⟩,p⟩
    ·exact Or.inr ⟨i,ob,v,⟨rfl,a⟩,p⟩
   ·rintro(⟨u,(⟨h,_⟩|⟨_,h⟩),k⟩|⟨i,ob,v,⟨_,h⟩,k⟩)
    ·cases h
    ·exact⟨λ_=>Or.inl ⟨u,h,k⟩,λe=>(by cases e)⟩
    ·exact⟨λ_=>Or.inr ⟨i,ob,v,h,k⟩,λe=>(by cases e)⟩
theorem yx{v u:AV}(h:∀t,d=some t->t∉Oper.looksAt ops o): VO P ops o (zl f d v) H u↔VO P ops o f H u:=by
 unfold VO zw;rw[yM h,x8 h]
theorem y7{i ob w}(h:∀t,d=some t->t∉Oper.looksAt ops o): MO P ops o (zl f d v) H i ob w↔MO P ops o f H i ob w:=by
 unfold MO zw;rw[yM h,x8 h]
theorem cI{d:Nat}{ob:Nat->Nat->Ob}(q:zm op=1)(hb:∀b c,(ob b c).b=b)(hi:H i=none)
  (h:∀b c,∃u,(z8 P d (ze H i (ob b c)) op l).Y P (ze H i (ob b c)) u):∀b c,z8 P d (ze H i (ob b c)) op l=z8 P d H op l:=by
 cases op<;>simp[zm] at q
 ·rename_i t x;match l,h with
  |[],h=>exact λ_ _=>rfl
  |_::_::_,h=>exact λ_ _=>rfl
  |[p],h =>
   intro b c;show yT P t (ze H i (ob b c)) p=yT P t H p;have y:xS (ze H i (ob b c)) p=xS H p:=by
    cases p<;>try rfl
    rename_i j g sz r o;simp only[xS];by_cases e:j=i
    ·subst e;obtain⟨u,z⟩:=h (g+1) 0;have a:(yT P t (ze H j (ob (g+1) 0)) (.ptr j g sz r o)).Y P (ze H j (ob (g+1) 0)) u:=z;unfold yT at a;have:xS (ze H j (ob (g+1) 0)) (.ptr j g sz r o)=none:=by
      simp only[xS,ze,if_true];rw[if_neg (by rw[hb];omega)]
     rw[this] at a;exact a.elim
    ·simp only[ze,if_neg e]
   unfold yT;rw[y]
 ·rename_i c;obtain⟨callee,args,ts⟩:=c;cases callee<;>simp at q;rename_i b;cases b<;>simp at q
theorem pm {a b:Nat}(h:ic a b=true): (a=0/\b<=4)\/(a=1/\b<=3)\/(a=2/\b<=2)\/(a=3/\b<=2)\/(a=4/\b=0):=by
 unfold ic at h;split at h<;>simp at h<;>omega
theorem kY{k i:Oper}(h5:k.apart ops i=true)(C:ic (zm k.op) (zm i.op)=true)
  (h:AD P ops k f H (λf' H'=>AD P ops i f' H' K)):AD P ops i f H (λf' H'=>AD P ops k f' H' K):=by
 obtain⟨r,F,I⟩:=Oper.apart_spec h5;have kinds:∀o:Oper,zm o.op<=5:=λo=>by unfold zm;(repeat' split)<;>omega
 rw[zj] at h;rcases h with⟨uk,M,h⟩|⟨L,a,U,M,h⟩
 ·rw[zj] at h;rcases h with⟨ui,hi,h⟩|⟨ii,T,vi,hi,h⟩
  ·rw[yx r] at hi;rw[zj];refine Or.inl ⟨ui,hi,?_⟩;rw[zj];exact Or.inl ⟨uk,(yx I).2 M,by rw[<-zy F];exact h⟩
  ·rw[y7 r] at hi;rw[zj];refine Or.inr ⟨ii,T,vi,hi,λb c=>?_⟩;rw[zj];refine Or.inl ⟨uk,(yx I).2 ?_,by rw[<-zy F];exact h b c⟩;rcases M with M|⟨h6,R⟩
   ·exact Or.inl M
   ·refine Or.inr ⟨h6,?_⟩;have p:(z8 P (k.dst.getD 0) H k.op (yj f k)).Y P H uk:=R;show(z8 P (k.dst.getD 0) (ze H ii (T b c)) k.op (yj f k)).Y P (ze H ii (T b c)) uk;have hj:=kinds k;rcases Nat.lt_or_ge (zm k.op) 1 with e|e
    ·have e0:zm k.op=0:=(by omega)
     rw[qG (H':=H) _ e0];exact(wt (Or.inl e0)).y _ p
    ·have h2:zm i.op=2:=by
      have D:∀x y z,¬((zm i.op=0\/zm i.op=1)/\(z8 P (i.dst.getD 0) H i.op (yj f i)).Mk x y z):=λx y z q=>(wt q.1).mk _ _ _ q.2;have hl:¬zm i.op=3:=λq=>aV q _ _ _ hi.2;have h9:¬(zm i.op=0\/zm i.op=1):=λq=>D _ _ _ ⟨q,hi.2⟩;have hc:=kinds i;clear D hi R p h r F I;rcases pm C with c|c|c|c|c<;>omega
     obtain⟨A,E,O,q4⟩:=(wN h2).2 _ _ _ hi.2;subst A;have hle:HLe H (ze H (.l (i.dst.getD 0)) (T b c)):=HLe.set O _;rcases Nat.lt_or_ge 2 (zm k.op) with e2|e2
     ·have e3:zm k.op=3:=by
       rcases pm C with c|c|c|c|c<;>omega
      exact aU (Or.inr (Or.inr e3)) hle p
     ·rcases Nat.lt_or_ge 1 (zm k.op) with e3|e3
      ·exact absurd p ((wN (by omega)).1 _)
      ·exact aU (Or.inr (Or.inl (by omega))) hle p
 ·-- k makes something
  have h8:¬(zm k.op=0\/zm k.op=1):=λq=>(wt q).mk _ _ _ M.2;have hd:zm k.op≠3:=λq=>aV q _ _ _ M.2;have hf:=kinds k;have h1:∀ui,VO P ops i f H ui->(∀b c,K (zl (zl f k.dst (U b c)) i.dst ui) (ze H L (a b c)))->AD P ops i f H (λf' H'=>AD P ops k f' H' K):=λui A E=>by
   rw[zj];refine Or.inl ⟨ui,A,?_⟩;rw[zj];exact Or.inr ⟨L,a,U,(y7 I).2 M,λb c=>by rw[<-zy F];exact E b c⟩
  have hb:∀b c,gd ops (zl f k.dst (U b c)) i=gd ops f i:=λb c=>yM r;have ha:∀b c,yj (zl f k.dst (U b c)) i=yj f i:=λb c=>x8 r;have h':∀b c,(∃u,VO P ops i f (ze H L (a b c)) u/\K (zl (zl f k.dst (U b c)) i.dst u) (ze H L (a b c))) \/
    ∃i' ob v,MO P ops i f (ze H L (a b c)) i' ob v/\∀W Z,K (zl (zl f k.dst (U b c)) i.dst (v W Z)) (ze (ze H L (a b c)) i' (ob W Z)):=λb c=>by
   have:=zj.1 (h b c)
   rcases this with⟨u,A,E⟩|⟨i',ob,v,A,E⟩
   ·exact Or.inl ⟨u,(yx r).1 A,E⟩
   ·exact Or.inr ⟨i',ob,v,(y7 r).1 A,E⟩
  cases J:gd ops f i with
  |none =>
   rcases h' 0 0 with⟨u,(q|q),_⟩|⟨_,_,_,q,_⟩
   ·rw[J] at q;cases q.1
   ·rw[J] at q;cases q.1
   ·have A:=q.1;rw[J] at A;cases A
  |some g =>
   cases g with
   |false =>
    refine h1 nul (Or.inl ⟨J,rfl⟩) λb c=>?_;rcases h' b c with⟨u,(q|q),E⟩|⟨_,_,_,q,_⟩
    ·rw[q.2] at E;exact E
    ·rw[J] at q;cases q.1
    ·have A:=q.1;rw[J] at A;cases A
   |true =>
    have val:NM (z8 P (i.dst.getD 0) H i.op (yj f i))->(∀b c,z8 P (i.dst.getD 0) (ze H L (a b c)) i.op (yj f i)=z8 P (i.dst.getD 0) H i.op (yj f i))->AD P ops i f H (λf' H'=>AD P ops k f' H' K):=λD he=>by
     have hv:∀b c,∃u,(z8 P (i.dst.getD 0) H i.op (yj f i)).Y P H u/\K (zl (zl f k.dst (U b c)) i.dst u) (ze H L (a b c)):=λb c=>by
      rcases h' b c with⟨u,(q|q),E⟩|⟨_,_,_,q,_⟩
      ·rw[J] at q;cases q.1
      ·have O:(z8 P (i.dst.getD 0) (ze H L (a b c)) i.op (yj f i)).Y P (ze H L (a b c)) u:=q.2;rw[he] at O;exact⟨u,D.y _ O,E⟩
      ·have O:(z8 P (i.dst.getD 0) (ze H L (a b c)) i.op (yj f i)).Mk _ _ _:=q.2;rw[he] at O;exact absurd O (D.mk _ _ _)
     obtain⟨u0,w1,_⟩:=hv 0 0;refine h1 u0 (Or.inr ⟨J,w1⟩) λb c=>?_;obtain⟨u,w2,V⟩:=hv b c;rw[D.uniq _ _ w1 w2];exact V
    rcases Nat.lt_or_ge (zm i.op) 1 with e|e
    ·have e0:zm i.op=0:=(by omega)
     exact val (wt (Or.inl e0)) λb c=>qG _ e0
    ·have R:zm k.op=2:=by
      rcases pm C with c|c|c|c|c<;>omega
     have h2:zm i.op<=2:=by
      rcases pm C with c|c|c|c|c<;>omega
     obtain⟨A,E,O,q4⟩:=(wN R).2 _ _ _ M.2;subst A;rcases Nat.lt_or_ge 1 (zm i.op) with e1|e1
     ·have ei:zm i.op=2:=(by omega)
      have hm:∀b c,∃ob v,MO P ops i f (ze H (.l (k.dst.getD 0)) (a b c)) (.l (i.dst.getD 0)) ob v/\(ze H (.l (k.dst.getD 0)) (a b c)) (.l (i.dst.getD 0))=none/\(z8 P (i.dst.getD 0) H i.op (yj f i)).Mk (.l (i.dst.getD 0)) ob v/\H (.l (i.dst.getD 0))=none/\.l (k.dst.getD 0)≠Id.l (i.dst.getD 0) /\
        ∀W Z,K (zl (zl f k.dst (U b c)) i.dst (v W Z)) (ze (ze H (.l (k.dst.getD 0)) (a b c)) (.l (i.dst.getD 0)) (ob W Z)):=λb c=>by
       rcases h' b c with⟨u,(q|q),_⟩|⟨i',ob,v,q,w⟩
       ·rw[J] at q;cases q.1
       ·exact absurd q.2 ((wN ei).1 _)
       ·obtain⟨w1,w2,V,w4⟩:=(wN ei).2 _ _ _ q.2;subst w1;have h3:.l (k.dst.getD 0)≠Id.l (i.dst.getD 0):=λe=>by rw[e] at V;simp[ze] at V
        have hn:H (.l (i.dst.getD 0))=none:=by unfold ze at V;rw[if_neg (Ne.symm h3)] at V;exact V
        exact⟨ob,v,q,V,w4 H hn,hn,h3,w⟩
      obtain⟨h7,v0,_,_,m0,n0,h4,_⟩:=hm 0 0;rw[zj];refine Or.inr ⟨_,h7,v0,⟨J,m0⟩,λW Z=>?_⟩;rw[zj];refine Or.inr ⟨_,a,U,(y7 I).2 ⟨M.1,q4 _ (by unfold ze;rw[if_neg h4];exact O)⟩,λb c=>?_⟩;obtain⟨ob,v,_,_,m1,_,_,w⟩:=hm b c;obtain⟨_,rfl,rfl⟩:=uy m0 m1;rw[<-zy F,<-vB h4];exact w W Z
     ·have ei:zm i.op=1:=(by omega)
      refine val (wt (Or.inr ei)) (cI ei E O λb c=>?_);rcases h' b c with⟨u,(q|q),_⟩|⟨i',ob,v,q,w⟩
      ·rw[J] at q;cases q.1
      ·exact⟨u,q.2⟩
      ·exact absurd q.2 ((wt (Or.inr ei)).mk _ _ _)
abbrev mv:=Oper->Fr->Hp->(Fr->Hp->Prop)->Prop
def SI (S:mv)(ops:Array Oper)(K:Fr->Hp->Prop): List Nat->Fr->Hp->Prop
 |[],f,H=>K f H
 |i::L,f,H=>match ops[i]? with
  |some o=>S o f H (SI S ops K L)
  |none=>SI S ops K L f H
def SL (S:mv)(K:Fr->Hp->Prop): List Oper->Fr->Hp->Prop
 |[],f,H=>K f H
 |o::l,f,H=>S o f H (SL S K l)
structure vu (P:Program)(ops:Array Oper)(S:mv)(may:Oper->Oper->Bool): Prop where
 mono:∀ {o:Oper} {f:Fr} {H:Hp} {K K':Fr->Hp->Prop},S o f H K->(∀f H,K f H->K' f H)->S o f H K'
 as:∀ {o:Oper} {f:Fr} {H:Hp} {K:Fr->Hp->Prop},S o f H K->AS P ops o f H K
 swap:∀ {k i:Oper} {f:Fr} {H:Hp} {K:Fr->Hp->Prop},may k i=true->S k f H (λf' H'=>S i f' H' K)->S i f H (λf' H'=>S k f' H' K)
theorem aX {P:Program}{ops:Array Oper}{S:mv}{may:Oper->Oper->Bool}(a:vu P ops S may){K:Fr->Hp->Prop}: ∀ {l:List Oper} {L:List Nat} {f:Fr} {H:Hp},L.map (ops[·]?)=l.map some->SL S K l f H->SI S ops K L f H
 |[],[],f,H,_,h=>by simpa only[SL,SI] using h
 |o::l,i::L,f,H,e,h=>by
  simp only[List.map_cons,List.cons.injEq] at e;simp only[SL] at h;simp only[SI,e.1];exact a.mono h λp H' g=>aX a e.2 g
 |[],_::_,_,_,e,_=>by simp at e
 |_::_,[],_,_,e,_=>by simp at e
def aY (may:Oper->Oper->Bool)(ops:Array Oper)(k i:Nat): Bool:=match ops[k]?,ops[i]? with
 |some x,some y=>may x y
 |_,_=>false
theorem aZ {P:Program}{ops:Array Oper}{S:mv}{may:Oper->Oper->Bool}(e:vu P ops S may){K:Fr->Hp->Prop}{i:Nat}{o:Oper}(hi:ops[i]?=some o): ∀ {pre post:List Nat} {f:Fr} {H:Hp},(∀k∈pre,aY may ops k i=true)->SI S ops K (pre++i::post) f H->S o f H (SI S ops K (pre++post))
 |[],post,f,H,_,h=>by simpa only[List.nil_append,SI,hi] using h
 |k::pre,post,f,H,hm,h=>by
  have a:=hm k (by simp);unfold aY at a;rw[hi] at a;cases hx:ops[k]? with
  |none=>rw[hx] at a;cases a
  |some x =>
   rw[hx] at a;simp only[List.cons_append,SI,hx] at h ⊢;have p:S x f H (λg H'=>S o g H' (SI S ops K (pre++post))):=e.mono h λg H' q=>aZ e hi (λj r=>hm j (by simp[r])) q;exact e.swap a p
inductive Anc (ops:Array Oper):Nat->Nat->Prop
 |one {i k:Nat} {o:Oper} {e:Edge}:ops[i]?=some o->e∈o.after->Region.binds .any e=true->e.on=k->Anc ops i k
 |more {i m k:Nat} {o:Oper} {e:Edge}:ops[i]?=some o->e∈o.after->Region.binds .any e=true->e.on=m->Anc ops m k->Anc ops i k
def ins (l:List Nat)(x:Nat): List Nat:=if l.contains x then l else x::l
def VS (o:Oper): List Nat:=(o.after.toList.filter (Region.binds .any ·)).map (·.on)
def lL (ops:Array Oper): Nat->List (List Nat)
 |0=>[]
 |n+1=>let t:=lL ops n;t++[match ops[n]? with
  |some o=>(VS o).foldl (λa m=>(t.getD m []).foldl ins (ins a m)) []
  |none=>[]]
theorem WD {l:List Nat}{x y:Nat}(h:y∈ins l x): y=x\/y∈l:=by
 unfold ins at h;split at h
 ·exact Or.inr h
 ·simpa using h
theorem jE:∀ {s l:List Nat} {y:Nat},y∈s.foldl ins l->y∈s\/y∈l
 |[],l,y,h=>Or.inr h
 |x::s,l,y,h=>by
  rcases jE (s:=s) h with h|h
  ·exact Or.inl (by simp[h])
  ·rcases WD h with rfl|h
   ·exact Or.inl (by simp)
   ·exact Or.inr h
theorem mw (ops:Array Oper): ∀n,(lL ops n).length=n
 |0=>rfl
 |n+1=>by simp[lL,mw ops n]
theorem eW {ops:Array Oper}: ∀ {n i k:Nat},k∈(lL ops n).getD i []->Anc ops i k
 |0,i,k,h=>by simp[lL] at h
 |n+1,i,k,h=>by
  simp only[lL] at h;rcases Nat.lt_or_ge i n with hi|hi
  ·rw[List.getD_eq_getElem?_getD,List.getElem?_append_left (by rw[mw];exact hi),<-List.getD_eq_getElem?_getD] at h;exact eW h
  ·rw[List.getD_eq_getElem?_getD,List.getElem?_append_right (by rw[mw];exact hi),mw] at h;rcases Nat.lt_or_ge n i with M|L
   ·rw[List.getElem?_eq_none (by simp;omega)] at h;simp at h
   ·obtain rfl:i=n:=(by omega)
    simp only[Nat.sub_self,List.getElem?_cons_zero,Option.getD_some] at h;cases r:ops[i]? with
    |none=>rw[r] at h;simp at h
    |some o =>
     rw[r] at h;simp only at h;have A:∀(ps:List Nat)(a:List Nat),(∀m∈ps,m∈VS o)->(∀y∈a,Anc ops i y)->∀y∈ps.foldl (λa m=>((lL ops i).getD m []).foldl ins (ins a m)) a,Anc ops i y:=by
      intro ps;induction ps with
      |nil=>intro a _ h y z;exact h y z
      |cons m ps ih =>
       intro a hm p y z;have u:∃e,e∈o.after/\Region.binds .any e=true/\e.on=m:=by
        have:=hm m (by simp)
        unfold VS at this;obtain⟨e,J,rfl⟩:=List.mem_map.1 this;obtain⟨F,I⟩:=List.mem_filter.1 J;exact⟨e,by simpa using F,I,rfl⟩
       obtain⟨e,C,D,E⟩:=u;refine ih _ (λq g=>hm q (by simp[g])) (λq g=>?_) y z;rcases jE g with g|g
       ·exact Anc.more r C D E (eW g)
       ·rcases WD g with rfl|g
        ·exact Anc.one r C D E
        ·exact p q g
     exact A _ [] (λm h=>h) (λy h=>by cases h) k h
def tz (may:Oper->Oper->Bool)(ops:Array Oper): Bool :=
 let t:=lL ops ops.size
 (List.range ops.size).all λi=>(match ops[i]? with|some o=>o.after.all λe=>!Region.binds .any e||decide (e.on<i)|none=>true) &&
  (List.range i).all λk=>(t.getD i []).contains k||aY may ops k i
structure Tl (ops:Array Oper)(listed:Array Bool)(L:List Nat): Prop where
 sz:listed.size=ops.size
 mem:∀i,i∈L↔i<ops.size/\listed.getD i true=false
 inc:L.Pairwise (·<·)
 down:∀i k,i<ops.size->listed.getD i true=true->Anc ops i k->listed.getD k true=true
theorem Xq{S:mv}(hB:∀t,(P.types[t]?).isSome=true->P.bytesOf t<=65536){Q:Exit->Act->World->Prop}(hS:vu P ops S may)(hd:ur N ops=true)(T:tz may ops=true){F:Nat->Prop}{w0:World}
  (hQ:∀f' H' a' w',K f' H'->Rel X N f' H' a' w'->Ev F w0 (own H') w'->Q .normal a' w') :
  ∀(A:Nat)(g:Array Bool) (L:List Nat) (f:Fr) (H:Hp) (a:Act) (w:World),Tl ops g L->L.length<=A->SI S ops K L f H->Rel X N f H a w->Ev F w0 (own H) w->wpAny P .any ops Q A g a w:=by
 have D:∀i o,ops[i]?=some o->∀e∈o.after,Region.binds .any e=true->e.on<i:=λi o J e O hb=>by
  unfold tz at T;have I:=(List.all_eq_true.1 T) i (by simp;exact(Array.getElem?_eq_some_iff.1 J).1);simp only[Bool.and_eq_true] at I;have C:=I.1;rw[J] at C;simp only at C;have:=Array.all_eq_true.1 C
  obtain⟨j,hj,rfl⟩:=Array.mem_iff_getElem.1 O;have:=this j hj
  rw[hb] at this;simpa using this
 have h4:∀i k,i<ops.size->k<i->Anc ops i k\/aY may ops k i=true:=λi k hi hk=>by
  unfold tz at T;have I:=(List.all_eq_true.1 T) i (by simpa using hi);simp only[Bool.and_eq_true] at I;have C:=(List.all_eq_true.1 I.2) k (by simpa using hk);simp only[Bool.or_eq_true] at C;rcases C with C|C
  ·exact Or.inl (eW (by simpa using C))
  ·exact Or.inr C
 have u:∀(l:Array Bool)(i:Nat),i<ops.size->l.size=ops.size->l.getD i false=l.getD i true:=λl i hi hl=>by
  rw[Array.getD_eq_getD_getElem?,Array.getD_eq_getD_getElem?,Array.getElem?_eq_getElem (by omega)];rfl
 have U:∀(g:Array Bool)(L:List Nat),Tl ops g L->Region.ready .any ops g = []->L = []:=λg L p hr=>by
  cases L with
  |nil=>rfl
  |cons i L =>
   exfalso;obtain⟨I,C⟩:=(p.mem i).1 (by simp);have h7:∀k,k<i->g.getD k true=true:=λk hk=>by
    cases q:g.getD k true with
    |true=>rfl
    |false =>
     have:=(p.mem k).2 ⟨by omega,q⟩
     rcases List.mem_cons.1 this with e|e
     ·omega
     ·have:=(List.pairwise_cons.1 p.inc).1 k e;omega
   have:i∈Region.ready .any ops g:=by
    rw[mem_ready];refine⟨C,ops[i],Array.getElem?_eq_getElem I,λe O hb=>?_⟩;have h3:=D i _ (Array.getElem?_eq_getElem I) e O hb;rw[u _ _ (by omega) p.sz];exact h7 _ h3
   rw[hr] at this;cases this
 intro A;induction A with
 |zero =>
  intro g L f H a w p W h r v;have h8:L = []:=List.eq_nil_of_length_eq_zero (by omega);subst h8;refine⟨?_,hQ _ _ _ _ h r v⟩;cases q:Region.ready .any ops g with
  |nil=>rfl
  |cons i l =>
   have:i∈Region.ready .any ops g:=by rw[q];simp
   obtain⟨I,o,J,_⟩:=mem_ready.1 this;have:=(p.mem i).2 ⟨(Array.getElem?_eq_some_iff.1 J).1,I⟩
   cases this
 |succ A ih =>
  intro g L f H a w p W h r v;refine⟨λhr=>?_,λi hi=>?_⟩
  ·have:=U g L p hr
   subst this;exact hQ _ _ _ _ h r v
  ·obtain⟨I,o,J,Y⟩:=mem_ready.1 hi;have Z:i<ops.size:=(Array.getElem?_eq_some_iff.1 J).1;have h6:=(p.mem i).2 ⟨Z,I⟩;obtain⟨pre,post,rfl⟩:=List.append_of_mem h6;have V:∀k,Anc ops i k->g.getD k true=true:=λk hk=>by
    cases hk with
    |one z O hb hon =>
     rw[J] at z;injection z with z;subst z;have:=Y _ O hb
     have h3:=D i _ J _ O hb;rw[u _ _ (by omega) p.sz] at this;rw[<-hon];exact this
    |more z O hb hon hm =>
     rw[J] at z;injection z with z;subst z;have:=Y _ O hb
     have h3:=D i _ J _ O hb;rw[u _ _ (by omega) p.sz] at this;subst hon;exact p.down _ k (by omega) this hm
   have h5:∀k∈pre,aY may ops k i=true:=λk hk=>by
    have R:k<i:=by
     have:=List.pairwise_append.1 p.inc
     exact this.2.2 k hk i (by simp)
    rcases h4 i k Z R with q|q
    ·have C:=((p.mem k).1 (by simp[hk])).2;rw[V k q] at C;cases C
    ·exact q
   have h9:=aZ hS J h5 h;refine wpOp_mono (λa' w' ⟨f',H',k,r',v'⟩=>ih _ (pre++post) f' H' a' w' ?_ (by simp at W ⊢;omega) k r' (v.trans v')) (QU hB J hd (hS.as h9) r);have ze:∀j,j≠i->(g.setIfInBounds i true).getD j true=g.getD j true:=λj hj=>getD_set_ne true (Ne.symm hj);have M:(g.setIfInBounds i true).getD i true=true:=by
    rw[Array.getD_eq_getD_getElem?];simp[p.sz,Z]
   refine⟨by simp[p.sz],λj=>?_,?_,λj k hj hl hA=>?_⟩
   ·by_cases E:j=i
    ·subst E;rw[M];constructor
     ·intro q;exfalso;have hp:=p.inc;rw[List.pairwise_append,List.pairwise_cons] at hp;rcases List.mem_append.1 q with q|q
      ·have:=hp.2.2 j q j (by simp);omega
      ·have:=hp.2.1.1 j q;omega
     ·intro q;cases q.2
    ·rw[ze j E,<-p.mem j];simp[E]
   ·have hp:=p.inc;rw[List.pairwise_append,List.pairwise_cons] at hp;rw[List.pairwise_append];exact⟨hp.1,hp.2.1.2,λx hx y hy=>hp.2.2 x hx y (by simp[hy])⟩
   ·by_cases R:k=i
    ·subst R;exact M
    ·rw[ze k R];by_cases E:j=i
     ·subst E;exact V k hA
     ·rw[ze j E] at hl;exact p.down j k hj hl hA
theorem uo(hm:P.follows .mixedOrders=true)(A:∀t,(P.types[t]?).isSome=true->P.bytesOf t<=65536){S:mv}(u:vu P ops S may)(C:ur N ops=true)(e:tz may ops=true)
  (h:SL S (Q .normal) ops.toList f H):AW P X N (.region id ops true) Q f H:=λa w r=>by
 refine wp_region_any hm ?_;have g:Rel X N f H a { w with drawn:=w.drawn+1 }:=⟨λt=>RV.mono (w:=w) (w':={ w with drawn:=w.drawn+1 }) ⟨rfl,rfl,rfl,Nat.le_refl _,λ_ _ q=>⟨q,rfl⟩⟩ _ _ (r.tm t),?_,r.df,r.sz⟩
 ·refine Xq A u C e (F:=own H) (w0:=w) (λy H' a' w' k D v'=>⟨y,H',k,D,v'⟩) ops.size _ (List.range ops.size) f H a _ ⟨by simp,λi=>?_,?_,λi k hi hl=>?_⟩ (by simp) (aX u (l:=ops.toList) ?_ h) g ⟨rfl,rfl,rfl,Nat.le_refl _,λ_ _ q=>⟨q,rfl⟩⟩
  ·simp only[List.mem_range];constructor
   ·intro hi;exact⟨hi,by rw[Array.getD_eq_getD_getElem?];simp[hi]⟩
   ·exact λh=>h.1
  ·exact List.pairwise_lt_range
  ·rw[Array.getD_eq_getD_getElem?] at hl;simp[hi] at hl
  ·apply List.ext_getElem
   ·simp
   ·intro i p E;simp at p;simp[p]
 ·exact HOk.grown r.hp ⟨rfl,rfl,rfl,Nat.le_refl _,λ_ _ q=>⟨q,rfl⟩⟩ λi o h=>⟨o,h,rfl,rfl,rfl,rfl,rfl,λz=>z⟩
def Rp (ops:Array Oper)(x y:Oper): Bool:=x.apart ops y&&ic (zm x.op) (zm y.op)
def Tm (ops:Array Oper): Bool:=tz (Rp ops) ops
theorem Jb (P:Program)(ops:Array Oper): vu P ops (AD P ops) (Rp ops):=⟨λh k=>h.mono k,λh=>h.as,λa h=>by
 unfold Rp at a;simp only[Bool.and_eq_true] at a;exact kY a.1 a.2 h⟩
def ADl (P:Program)(ops:Array Oper)(K:Fr->Hp->Prop)(l:List Oper)(f:Fr)(H:Hp): Prop:=SL (AD P ops) K l f H
theorem Mg(hm:P.follows .mixedOrders=true)(e:∀t,(P.types[t]?).isSome=true->P.bytesOf t<=65536)(g:ur N ops=true)(a:Tm ops=true)
  (h:ADl P ops (Q .normal) ops.toList f H):AW P X N (.region id ops true) Q f H:=uo hm e (Jb P ops) g a h
def Eff.g (P:Program)(m:Bool)(e:Eff)(H:Hp)(k:AV->Hp->Prop): Prop:=match m with
 |false=>e.st P H k
 |true=>e.sd P H k
def AG (m:Bool)(P:Program)(ops:Array Oper)(o:Oper)(f:Fr)(H:Hp)(K:Fr->Hp->Prop): Prop:=match m with
 |false=>AS P ops o f H K
 |true=>AD P ops o f H K
def LG (m:Bool)(P:Program)(ops:Array Oper)(K:Fr->Hp->Prop)(l:List Oper): Fr->Hp->Prop:=match m with
 |false=>ASl P ops K l
 |true=>ADl P ops K l
def sC (B:List Nat): Code->Bool
 |.region id _ _=>B.contains (id+1000)
 |.block l _=>B.contains (l+2000)
 |.cond (.tmp t) _ _=>B.contains (t+3000)
 |.seq _ b=>sC B b
 |_=>false
def avc (P:Program)(X:Nat->Prop)(N:Nat)(B:List Nat): Code->AQ->Fr->Hp->Prop
 |.skip,Q,f,H=>Q .normal f H
 |.label _,Q,f,H=>Q .normal f H
 |.region id ops draw,Q,f,H=>if B.contains id then AW P X N (.region id ops draw) Q f H else LG draw P ops (Q .normal) ops.toList f H
 |.seq a b,Q,f,H=>if sC B a then AW P X N (.seq a b) Q f H else avc P X N B a (rY (avc P X N B b Q) Q) f H
 |.cond c a b,Q,f,H=>(match ev f c with|.bool t=>(t=true->avc P X N B a Q f H)/\(t=false->avc P X N B b Q f H)|_=>False)
 |.block l a,Q,f,H=>avc P X N B a (uF l Q) f H
 |.exit l,Q,f,H=>Q (.exit l) f H
 |.goto l,Q,f,H=>Q (.goto l) f H
 |.ret,Q,f,H=>Q .ret f H
 |c,Q,f,H=>AW P X N c Q f H
def yS (N:Nat)(B:List Nat): Code->Bool
 |.region id ops draw=>B.contains id||ur N ops&&(!draw||Tm ops)
 |.seq a b|.cond _ a b=>yS N B a&&yS N B b
 |.block _ a=>yS N B a
 |_=>true
structure wI (P:Program): Prop where
 mx:P.follows .mixedOrders=true
 by_:∀t,(P.types[t]?).isSome=true->P.bytesOf t<=65536
theorem wI.of(h:P.follows .mixedOrders=true)(k:P.types.all (λi=>decide (i.bytes<=65536))=true): wI P:=⟨h,λt g=>by
 unfold Program.bytesOf Tables.info?;obtain⟨i,hi⟩:=Option.isSome_iff_exists.1 g;obtain⟨a,e⟩:=Array.getElem?_eq_some_iff.1 hi;rw[if_pos a,hi];have:=Array.all_eq_true.1 k t a
 rw[e] at this;simpa using this⟩
theorem pF {P:Program}(hP:wI P){X:Nat->Prop}{N:Nat}{B:List Nat}: ∀ {c:Code} {Q:AQ} {f:Fr} {H:Hp},yS N B c=true->avc P X N B c Q f H->AW P X N c Q f H
 |.skip,Q,f,H,_,h=>AW.skip h
 |.label _,Q,f,H,_,h=>AW.label h
 |.region id ops draw,Q,f,H,ho,h=>by
  simp only[avc] at h;split at h
  ·exact h
  ·rename_i p;simp only[yS,Bool.or_eq_true,Bool.and_eq_true,p,Bool.false_eq_true,false_or] at ho;cases draw with
   |false=>exact AW.region hP.by_ ho.1 h
   |true=>exact Mg hP.mx hP.by_ ho.1 (by simpa using ho.2) h
 |.seq a b,Q,f,H,ho,h=>by
  simp only[yS,Bool.and_eq_true] at ho;simp only[avc] at h;split at h
  ·exact h
  exact AW.seq λK g=>(pF hP ho.1 h).mono λe f H q=>by
   cases e
   case normal=>exact g _ _ (pF hP ho.2 q)
   all_goals exact q
 |.cond c a b,Q,f,H,ho,h=>by
  simp only[yS,Bool.and_eq_true] at ho;simp only[avc] at h;split at h
  ·rename_i t r;exact AW.cond r (λe=>pF hP ho.1 (h.1 e)) (λe=>pF hP ho.2 (h.2 e))
  ·exact h.elim
 |.block l a,Q,f,H,ho,h=>AW.block (pF hP ho h)
 |.exit l,Q,f,H,_,h=>AW.exit h
 |.goto l,Q,f,H,_,h=>AW.goto h
 |.ret,Q,f,H,_,h=>AW.ret h
 |.loop _,_,_,_,_,h=>h
 |.scope _,_,_,_,_,h=>h
 |.rangeFunc _ _ _ _,_,_,_,_,h=>h
 |.refuse _,_,_,_,_,h=>h
inductive Kf where
 |t (b:Code)
 |b (l:Nat)
def stQ (P:Program)(X:Nat->Prop)(N:Nat)(B:List Nat): List Kf->AQ->AQ
 |[],Q=>Q
 |.t b::S,Q=>rY (avc P X N B b (stQ P X N B S Q)) (stQ P X N B S Q)
 |.b l::S,Q=>uF l (stQ P X N B S Q)
theorem tX(hP:wI P){B:List Nat}(a:yS N B c=true)(h:avc P X N B c (stQ P X N B [] Q) f H): AW P X N c Q f H:=pF hP a h
theorem K1.avc (B:List Nat)(hP:wI P){f:Nat}{fn:Func}(e:P.funcs[f]?=some fn)(hb:fn.body=some c)(a:fn.ntmps=N)(p:fn.results.toList=rs)(hl:l.length<=N)
  (g:yS N B c=true) (h:∀X,AM.avc P X N B c (stQ P X N B [] (eU P rs v)) (fr0 0 l) (λ_=>none)):K1 P f l v:=K1.enter e hb a p hl λX=>tX hP g (h X)
section
variable {P:Program} {X:Nat -> Prop} {N:Nat} {B:List Nat} {m:Bool} {Q:AQ} {K:Fr -> Hp -> Prop} {k:AV -> Hp -> Prop} {f:Fr} {H:Hp}
theorem Oq:avc P X N B .skip Q f H=Q .normal f H:=rfl
theorem Rq {l:Nat}: avc P X N B (.label l) Q f H=Q .normal f H:=rfl
theorem Tn{ops:List Oper}{a:Bool}: avc P X N B (.region id ops.toArray a) Q f H=if B.contains id then AW P X N (.region id ops.toArray a) Q f H else LG a P ops.toArray (Q .normal) ops f H:=by simp[avc]
theorem H5 {i:Nat}{d:Bool}: sC B (.region i ops d)=B.contains (i+1000):=rfl
theorem H6 {i:Nat}: sC B (.block i c)=B.contains (i+2000):=rfl
theorem H7 {i:Nat}{c d:Code}: sC B (.cond (.tmp i) c d)=B.contains (i+3000):=rfl
theorem H8 {c d:Code}: sC B (.seq c d)=sC B d:=rfl
theorem H9: sC B (.loop c)=false:=rfl
theorem HA:sC B .skip=false:=rfl
theorem HB {i:Nat}: sC B (.label i)=false:=rfl
theorem HC {i:Nat}: sC B (.exit i)=false:=rfl
theorem HD {i:Nat}: sC B (.goto i)=false:=rfl
theorem HE:sC B .ret=false:=rfl
theorem HF: sC B (.scope c)=false:=rfl
def my (P:Program)(X:Nat->Prop)(N:Nat)(B:List Nat)(a b:Code)(Q:AQ)(f:Fr)(H:Hp): AV->Prop
 |.bool t=>(t=true->avc P X N B a Q f H)/\(t=false->avc P X N B b Q f H)
 |_=>False
theorem Ot {c:Operand}{a b:Code}: avc P X N B (.cond c a b) Q f H=my P X N B a b Q f H (ev f c):=by
 simp only[avc,my]
theorem HG {a b:Code}: my P X N B a b Q f H (.bool true)=avc P X N B a Q f H:=by simp[my]
theorem HI {a b:Code}: my P X N B a b Q f H (.bool false)=avc P X N B b Q f H:=by simp[my]
theorem HJ {a b:Code}{t:Bool}: my P X N B a b Q f H (.bool t)=((t=true->avc P X N B a Q f H)/\(t=false->avc P X N B b Q f H)):=rfl
section
variable {S:List Kf}
theorem HK {e:Exit}: stQ P X N B [] Q e f H=Q e f H:=rfl
theorem Mr {a b:Code}: avc P X N B (.seq a b) (stQ P X N B S Q) f H=if sC B a then AW P X N (.seq a b) (stQ P X N B S Q) f H else avc P X N B a (stQ P X N B (.t b::S) Q) f H:=by simp only[avc,stQ]
theorem Rr {l:Nat}{a:Code}: avc P X N B (.block l a) (stQ P X N B S Q) f H=avc P X N B a (stQ P X N B (.b l::S) Q) f H:=rfl
theorem HL {b:Code}: stQ P X N B (.t b::S) Q .normal f H=avc P X N B b (stQ P X N B S Q) f H:=(rfl)
theorem HN {b:Code}{l:Nat}: stQ P X N B (.t b::S) Q (.exit l) f H=stQ P X N B S Q (.exit l) f H:=(rfl)
theorem HO {b:Code}{l:Nat}: stQ P X N B (.t b::S) Q (.goto l) f H=stQ P X N B S Q (.goto l) f H:=(rfl)
theorem Jc {l:Nat}: stQ P X N B (.b l::S) Q .normal f H=stQ P X N B S Q .normal f H:=(rfl)
theorem Jd {l l':Nat}: stQ P X N B (.b l::S) Q (.exit l') f H=if l'=l then stQ P X N B S Q .normal f H else stQ P X N B S Q (.exit l') f H:=(rfl)
theorem Je {l l':Nat}: stQ P X N B (.b l::S) Q (.goto l') f H=stQ P X N B S Q (.goto l') f H:=(rfl)
theorem HP:stQ P X N B S Q .ret f H=Q .ret f H:=by
 induction S with
 |nil=>rfl
 |cons a S ih=>cases a<;>exact ih
end
theorem Ou {l:Nat}: avc P X N B (.exit l) Q f H=Q (.exit l) f H:=(rfl)
theorem Ov {l:Nat}: avc P X N B (.goto l) Q f H=Q (.goto l) f H:=(rfl)
theorem Ms:avc P X N B .ret Q f H=Q .ret f H:=rfl
theorem Ow: avc P X N B (.loop c) Q f H=AW P X N (.loop c) Q f H:=rfl
theorem HQ:rY K Q .normal f H=K f H:=rfl
theorem HR:rY K Q .ret f H=Q .ret f H:=rfl
theorem HS {l:Nat}: rY K Q (.exit l) f H=Q (.exit l) f H:=rfl
theorem HT {l:Nat}: rY K Q (.goto l) f H=Q (.goto l) f H:=rfl
theorem HU {l:Nat}: uF l Q .normal f H=Q .normal f H:=rfl
theorem HV {l:Nat}: uF l Q .ret f H=Q .ret f H:=rfl
theorem HW {l l':Nat}: uF l Q (.exit l') f H=if l'=l then Q .normal f H else Q (.exit l') f H:=rfl
theorem HX {l l':Nat}: uF l Q (.goto l') f H=Q (.goto l') f H:=rfl
theorem HY:(rY K Q .normal)=K:=rfl
theorem HZ {l:Nat}: (uF l Q .normal)=Q .normal:=rfl
theorem Mt: LG m P ops K [] f H=K f H:=by cases m<;>rfl
theorem Ox{l:List Oper}: LG m P ops K (o::l) f H=AG m P ops o f H (LG m P ops K l):=by cases m<;>rfl
def AO (m:Bool)(P:Program)(d:Nat)(op:Op)(f:Fr)(H:Hp)(k:AV->Hp->Prop): Prop:=(z8 P d H op (op.operands.toList.map (ev f))).g P m H k
theorem Oy: AG m P ops ⟨dst,op,ty,pos,af,none⟩ f H K=AO m P (dst.getD 0) op f H (qF f dst K):=by
 cases m<;>simp[AG,AS,AD,zw,yj,gd,AO,Eff.g]
def gdA (m:Bool)(P:Program)(j:Nat)(d:Option Nat)(op:Op)(f:Fr)(H:Hp)(K:Fr->Hp->Prop)(want:Bool): AV->Prop
 |.bool b=>(b=want->AO m P (d.getD 0) op (xb f j (.bool want)) H (qF (xb f j (.bool want)) d K))/\(b=(!want)->K (zl (xb f j (.bool (!want))) d nul) H)
 |.tup []=>K (zl (xb f j nul) d nul) H
 |_=>False
theorem lM(h:f j=v): xb f j v=f:=by funext t;unfold xb;split<;>simp_all
theorem WE{d:Nat}(h:(ops[j]?).bind (·.dst)=some d):
  AG m P ops ⟨dst,op,ty,pos,af,some (j,want)⟩ f H K=gdA m P d dst op f H K want (f d):=by
 cases p:f d with
 |bool b =>
  have e:xb f d (.bool b)=f:=lM p;cases b<;>cases want<;>cases m<;>simp[AG,AS,AD,zw,yj,gd,h,p,gdA,AO,Eff.g,e]
 |tup l =>
  cases l with
  |nil =>
   have e:xb f d nul=f:=lM p;cases m<;>simp[AG,AS,AD,zw,yj,gd,h,p,gdA,e]
  |cons a l=>cases m<;>simp[AG,AS,AD,zw,yj,gd,h,p,gdA]
 |_=>cases m<;>simp[AG,AS,AD,zw,yj,gd,h,p,gdA]
theorem VT{d:Nat}(h:(ops[j]?).bind (·.dst)=some d)(a:f d = .bool b):
  AG m P ops ⟨dst,op,ty,pos,af,some (j,want)⟩ f H K=((b=want->AO m P (dst.getD 0) op f H (qF f dst K))/\(b=(!want)->K (zl f dst nul) H)):=by
 have e:xb f d (.bool b)=f:=lM a;rw[WE h,a];cases b<;>cases want<;>simp[gdA,e]
theorem Jf{j d:Nat}(h:(ops[j]?).bind (·.dst)=some d)(a:f d = .bool true):
  AG m P ops ⟨dst,op,ty,pos,af,some (j,true)⟩ f H K=AO m P (dst.getD 0) op f H (qF f dst K):=by rw[VT h a];simp
theorem Jg{j d:Nat}(h:(ops[j]?).bind (·.dst)=some d)(a:f d = .bool false):
  AG m P ops ⟨dst,op,ty,pos,af,some (j,false)⟩ f H K=AO m P (dst.getD 0) op f H (qF f dst K):=by rw[VT h a];simp
theorem Jh{j d:Nat}(h:(ops[j]?).bind (·.dst)=some d)(a:f d = .bool false):
  AG m P ops ⟨dst,op,ty,pos,af,some (j,true)⟩ f H K=K (zl f dst nul) H:=by rw[VT h a];simp
theorem Ji{j d:Nat}(h:(ops[j]?).bind (·.dst)=some d)(a:f d = .bool true):
  AG m P ops ⟨dst,op,ty,pos,af,some (j,false)⟩ f H K=K (zl f dst nul) H:=by rw[VT h a];simp
theorem Ga{want b:Bool}: gdA m P j d op f H K want (.bool b)=((b=want->AO m P (d.getD 0) op (xb f j (.bool want)) H (qF (xb f j (.bool want)) d K))/\(b=(!want)->K (zl (xb f j (.bool (!want))) d nul) H)):=rfl
theorem Gb: gdA m P j d op f H K want (.tup [])=K (zl (xb f j nul) d nul) H:=rfl
theorem pk {d:Nat}: qF f (some d) K v H=K (xb f d v) H:=rfl
theorem pk0: qF f none K v H=K f H:=rfl
theorem fp {d:Nat}: zl f (some d) v=xb f d v:=rfl
theorem fs {d t:Nat}: xb f d v t=if t=d then v else f t:=rfl
theorem hs {i j:Id}{o:Ob}: ze H i o j=if j=i then some o else H j:=rfl
theorem Gc {t:Nat}: ev f (.tmp t)=f t:=rfl
theorem Gd {g:Nat}: ev f (.func g) = .fn g []:=rfl
theorem Ge {g:Nat}: ev f (.global g)=gv g:=rfl
theorem Gf {g:Nat}: gv g=if g=kU then .rp [.int .u8 0,.int .u8 4,.int .u8 1,.int .u8 2,.int .u8 3] else .any:=rfl
theorem Gg{n:Int}: ev f (.const (.int kd n)) = .int kd n:=rfl
theorem Gh: ev f (.const (.bool b)) = .bool b:=rfl
theorem Gi {s:ByteArray}: ev f (.const (.string s)) = .str s:=rfl
theorem Gj:ev f (.const (.slice none 0 0)) = .nils:=rfl
theorem Gk:ev f (.const (.pointer none)) = .nilp:=rfl
theorem Gl:ev f (.const .nilFunc) = .nilf:=rfl
theorem Gm: ev f (.const (.agg cs.toArray)) = .agg (cs.map av1):=rfl
variable {d:Nat}
theorem Oz: AO m P d (.move x) f H k=(Eff.val (ev f x)).g P m H k:=rfl
theorem Mu: AO m P d (.assign x) f H k=(Eff.val (ev f x)).g P m H k:=rfl
theorem O0 {c a b:Operand}: AO m P d (.pick c a b) f H k=(mt (ev f c) (ev f a) (ev f b)).g P m H k:=rfl
theorem Gn {a b:AV}: mt (.bool true) a b = .val a:=rfl
theorem Gp {a b:AV}: mt (.bool false) a b = .val b:=rfl
theorem Gq {c a b:Bool}: mt (.bool c) (.bool a) (.bool b) = .val (.bool (if c then a else b)):=by cases c<;>rfl
theorem Mv {op:BinOp}{t u:TypeId}{x y:Operand}: AO m P d (.binOp op t x y u) f H k=(tQ P t op (ev f x) (ev f y)).g P m H k:=rfl
theorem Jj {op:UnOp}: AO m P d (.unOp op t x) f H k=(aun op (ev f x)).g P m H k:=rfl
theorem Mw: AO m P d (.box t x) f H k=(ni d H t (ev f x)).g P m H k:=rfl
theorem Rs: AO m P d (.alloc t) f H k=(sU P d H t).g P m H k:=rfl
theorem O1: AO m P d (.load t x) f H k=(yT P t H (ev f x)).g P m H k:=rfl
theorem Rt{x y:Operand}: AO m P d (.store t x y) f H k=(t6 P t H (ev f x) (ev f y)).g P m H k:=rfl
theorem Mx: AO m P d (.nilCheck x) f H k=(z8 P d H (.nilCheck x) [ev f x]).g P m H k:=rfl
theorem Jk: AO m P d (.fieldAddr t x n) f H k=(z8 P d H (.fieldAddr t x n) [ev f x]).g P m H k:=rfl
theorem Jl: AO m P d (.field t x n) f H k=(z8 P d H (.field t x n) [ev f x]).g P m H k:=rfl
theorem Jm{x y:Operand}: AO m P d (.indexAddr t x y) f H k=(z8 P d H (.indexAddr t x y) [ev f x,ev f y]).g P m H k:=rfl
theorem Jn{x y:Operand}: AO m P d (.index t x y) f H k=(z8 P d H (.index t x y) [ev f x,ev f y]).g P m H k:=rfl
theorem Jo: AO m P d (.extract x n) f H k=(z8 P d H (.extract x n) [ev f x]).g P m H k:=rfl
theorem Jp: AO m P d (.build t ps.toArray) f H k=(pR P t (ps.map λx=>(x.1,ev f x.2))).g P m H k:=by
 simp only[AO,Op.operands,z8];congr 2;simp[List.zip_map',Function.comp_def]
theorem Jq: AO m P d (.buildSlice t n ps.toArray) f H k=(tJ P d H t n (ps.map λx=>(x.1,ev f x.2))).g P m H k:=by
 simp only[AO,Op.operands,z8];congr 2;simp[List.zip_map',Function.comp_def]
theorem Jr{x y:Operand}: AO m P d (.makeSlice t x y) f H k=(z8 P d H (.makeSlice t x y) [ev f x,ev f y]).g P m H k:=rfl
theorem Js {s t:TypeId}: AO m P d (.convert s t x) f H k=(z8 P d H (.convert s t x) [ev f x]).g P m H k:=rfl
theorem O2 {g:Operand}{l:List Operand}: AO m P d (.call ⟨.value g,l.toArray,ts⟩) f H k=(z8 P d H (.call ⟨.value g,l.toArray,ts⟩) (ev f g::l.map (ev f))).g P m H k:=by simp[AO,Op.operands,Call.operands]
theorem Jt {b:Builtin}{l:List Operand}: AO m P d (.call ⟨.builtin b,l.toArray,ts⟩) f H k=(ws P d H b ts (l.map (ev f))).g P m H k:=by simp[AO,Op.operands,Call.operands,z8]
theorem Jv{lo hi mx:Option Operand}: AO m P d (.slice t x lo hi mx) f H k=(z8 P d H (.slice t x lo hi mx) ((x::(lo.toList++hi.toList++mx.toList)).map (ev f))).g P m H k:=by
 cases lo<;>cases hi<;>cases mx<;>rfl
theorem Jw {g:Nat}{l:List Operand}: AO m P d (.makeFunc (.func g) (x::l).toArray #[]) f H k=(Eff.val (.bm g (ev f x::l.map (ev f)))).g P m H k:=by simp[AO,Op.operands,z8]
theorem Jy {g:Nat}{l:List Operand}: AO m P d (.makeFunc (.func g) #[] l.toArray) f H k=(Eff.val (.fn g (l.map (ev f)))).g P m H k:=by simp[AO,Op.operands,z8]
def wu (m:Bool)(P:Program)(g:Nat)(l:List AV)(H:Hp)(k:AV->Hp->Prop): Prop:=match m with
 |false=>kW P g l H k
 |true=>∃u,gJ P g l H u/\k u H
theorem Gr:Eff.no.g P m H k=False:=by cases m<;>simp[Eff.g,Eff.st,Eff.sd,Eff.Y,Eff.Mk]
theorem Jz {c:Prop}{e:Eff}: (Eff.req c e).g P m H k=(c/\e.g P m H k):=by
 cases m
 ·rfl
 ·simp only[Eff.g,Eff.sd,Eff.Y,Eff.Mk];apply propext;constructor
  ·rintro(⟨u,⟨p,a⟩,h⟩|⟨i,o,v,⟨p,a⟩,h⟩)
   ·exact⟨p,Or.inl ⟨u,a,h⟩⟩
   ·exact⟨p,Or.inr ⟨i,o,v,a,h⟩⟩
  ·rintro⟨p,(⟨u,a,h⟩|⟨i,o,v,a,h⟩)⟩
   ·exact Or.inl ⟨u,⟨p,a⟩,h⟩
   ·exact Or.inr ⟨i,o,v,⟨p,a⟩,h⟩
theorem J0: (Eff.val v).g P m H k=k v H:=by cases m<;>simp[Eff.g,Eff.st,Eff.sd,Eff.Y,Eff.Mk]
theorem QW {l:List (List AV)}{i:Nat}{v:List AV->AV}: (Eff.row l i v).g P m H k = ∃r,l[i]?=some r/\k (v r) H:=by
 cases m
 ·rfl
 ·simp only[Eff.g,Eff.sd,Eff.Y,Eff.Mk];apply propext;constructor
  ·rintro(⟨u,⟨r,a,rfl⟩,p⟩|⟨i,o,v,h,_⟩)
   ·exact⟨r,a,p⟩
   ·exact h.elim
  ·rintro⟨r,a,e⟩;exact Or.inl ⟨_,⟨r,a,rfl⟩,e⟩
theorem My {h:Type}{F:h->List AV}{l:List h}{i:Nat}{v:List AV->AV}: (Eff.row (l.map F) i v).g P m H k = ∃x,l[i]?=some x/\k (v (F x)) H:=by
 rw[QW];apply propext;constructor
 ·rintro⟨r,a,e⟩;rw[List.getElem?_map,Option.map_eq_some_iff] at a;obtain⟨x,hx,rfl⟩:=a;exact⟨x,hx,e⟩
 ·rintro⟨x,a,e⟩;exact⟨F x,by rw[List.getElem?_map,a];rfl,e⟩
theorem Gs{o:Ob}: (Eff.wr i o v).g P m H k=k v (ze H i o):=by
 cases m
 ·rfl
 ·simp only[Eff.g,Eff.sd,Eff.Y,Eff.Mk];apply propext;constructor
  ·rintro(⟨u,h,_⟩|⟨a,e,v',⟨rfl,rfl,rfl⟩,h⟩)
   ·exact h.elim
   ·exact h 0 0
  ·exact λh=>Or.inr ⟨_,_,_,⟨rfl,rfl,rfl⟩,λ_ _=>h⟩
theorem Gt{o:Nat->Nat->Ob}{v:Nat->Nat->AV}: (Eff.mk i o v).g P m H k = ∀b c,k (v b c) (ze H i (o b c)):=by
 cases m
 ·rfl
 ·simp only[Eff.g,Eff.sd,Eff.Y,Eff.Mk];apply propext;constructor
  ·rintro(⟨u,h,_⟩|⟨a,e,v',⟨rfl,rfl,rfl⟩,h⟩)
   ·exact h.elim
   ·exact h
  ·exact λh=>Or.inr ⟨_,_,_,⟨rfl,rfl,rfl⟩,h⟩
theorem Mz {g:Nat}: (Eff.call g l).g P m H k=wu m P g l H k:=by
 cases m
 ·rfl
 ·simp[Eff.g,Eff.sd,Eff.Y,Eff.Mk,wu]
theorem zd {g:Nat}(h:K1 P g l v)(q:k v H): wu m P g l H k:=by
 cases m
 ·exact Mp h q
 ·exact⟨v,⟨[],l,h,svl.refl _ _ _,Or.inl rfl⟩,q⟩
theorem VU {g:Nat}{l l':List AV}(L:List Id)(h:K1 P g l' v)(hs:svl H L l l')(a:mu v=true)(q:k v H): wu m P g l H k:=by
 cases m
 ·exact aS L h (pE hs) a q
 ·exact⟨v,⟨L,l',h,hs,Or.inr a⟩,q⟩
theorem Gu{b s r j:Nat}: z8 P d H (.fieldAddr t x n) [.ptr i b s r j]=t7 P t n (.ptr i b s r j):=rfl
theorem Gv: z8 P d H (.fieldAddr t x n) [.rp l]=t7 P t n (.rp l):=rfl
theorem Gw: z8 P d H (.field t x n) [.agg l]=t7 P t n (.agg l):=rfl
theorem Gx{x y:Operand}{l:List (List AV)}{i:Int}: z8 P d H (.indexAddr t x y) [.vec s l,.int kd i]=vH P t (.vec s l) i:=rfl
theorem Gy{x y:Operand}{j:Id}{b s n c:Nat}{i:Int}: z8 P d H (.indexAddr t x y) [.sl j b s n c,.int kd i]=vH P t (.sl j b s n c) i:=rfl
theorem Gz{x y:Operand}{j:Id}{b s n c:Nat}{i:Int}: z8 P d H (.indexAddr t x y) [.ptr j b s n c,.int kd i]=vH P t (.ptr j b s n c) i:=rfl
theorem G0{x y:Operand}{i:Int}: z8 P d H (.indexAddr t x y) [.rp l,.int kd i]=vH P t (.rp l) i:=rfl
theorem G4{x y:Operand}{i:Int}: z8 P d H (.index t x y) [.agg l,.int kd i]=vH P t (.agg l) i:=rfl
theorem G5{b s r j:Nat}: z8 P d H (.nilCheck x) [.ptr i b s r j] = .val (.ptr i b s r j):=rfl
theorem G6: z8 P d H (.nilCheck x) [.rp l] = .val (.rp l):=rfl
theorem G7{g:Nat}: z8 P d H (.nilCheck x) [.fn g l] = .val (.fn g l):=rfl
theorem G8: z8 P d H (.extract x n) [.tup l]=(match l[n]? with|some v=>.val v|none=>.no):=rfl
theorem G9{x y:Operand}{k1 e:IntKind}{a c:Int}: z8 P d H (.makeSlice t x y) [.int k1 a,.int e c]=kV P d H t a c:=rfl
theorem GA {s t:TypeId}{n:Int}: z8 P d H (.convert s t x) [.int k1 n]=(match P.underlying s,P.underlying t with|some _,some (.int k)=>.val (.int k (k.wrap n))|_,_=>.no):=rfl
theorem J1: z8 P d H (.slice t x none none none) [v]=sV P t v none none none:=rfl
theorem J2{x y:Operand}{n:Int}: z8 P d H (.slice t x (some y) none none) [v,.int k1 n]=sV P t v (some n) none none:=rfl
theorem J3{x y:Operand}{n:Int}: z8 P d H (.slice t x none (some y) none) [v,.int k1 n]=sV P t v none (some n) none:=rfl
theorem J4{x y z:Operand}{k1 a:IntKind}{n m:Int}: z8 P d H (.slice t x none (some y) (some z)) [v,.int k1 n,.int a m]=sV P t v none (some n) (some m):=rfl
theorem GB{l:List (List AV)}{a b:Option Int}: sV P t (.vec s l) a b none=t8 P t (.vec s l) a b:=by cases a<;>rfl
theorem GC{e s n c:Nat}{a b:Option Int}: sV P t (.sl i e s n c) a b none=t8 P t (.sl i e s n c) a b:=by cases a<;>rfl
theorem GD{a b:Option Int}: sV P t .nils a b none=t8 P t .nils a b:=by cases a<;>rfl
theorem GE{b:Option Int}: sV P t (.rp l) none b none=nj P t (.rp l) b none:=rfl
theorem GF{x:AV}{b:Option Int}{c:Int}: sV P t x none b (some c)=nj P t x b (some c):=by cases x<;>rfl
theorem J5{x y z:Operand}{k1 a:IntKind}{n m:Int}: z8 P d H (.slice t x (some y) (some z) none) [v,.int k1 n,.int a m]=sV P t v (some n) (some m) none:=rfl
theorem GG {g:Operand}{h:Nat}{fs l:List AV}: z8 P d H (.call ⟨.value g,as,ts⟩) (.bm h fs::l) = .req (vQ P h) (.call h (fs++l)):=rfl
theorem GH {g:Operand}{h:Nat}{a l:List AV}: z8 P d H (.call ⟨.value g,as,ts⟩) (.fn h a::l) = .req (vQ P h) (.call h (l++a)):=rfl
theorem GI: yo (.agg l)=if l.all xW then some l else none:=rfl
theorem GJ{n:Int}: yo (.int k1 n)=some [.int k1 n]:=rfl
theorem GK: yo (.bool b)=some [.bool b]:=rfl
theorem GM {s:ByteArray}: yo (.str s)=some [.str s]:=rfl
theorem GN{l:List (List AV)}: yo (.vec s l)=some [.vec s l]:=rfl
theorem J6{b s r n c:Nat}: yo (.so i b s r n c)=some [.so i b s r n c]:=rfl
theorem J7{e s r n c:Nat}{a b:Option Int}: sV P t (.so i e s r n c) a b none=t8 P t (.so i e s r n c) a b:=by cases a<;>rfl
theorem J8 {g:Nat}: yo (.bm g l)=some [.bm g l]:=rfl
theorem GO{b s n c:Nat}: yo (.sl i b s n c)=some [.sl i b s n c]:=rfl
theorem GP{b s n c:Nat}: yo (.ptr i b s n c)=some [.ptr i b s n c]:=rfl
theorem GQ: yo (.rp l)=some [.rp l]:=rfl
theorem GR:yo .nils=some [.nils]:=rfl
theorem GS:yo .nilp=some [.nilp]:=rfl
theorem GT:yo .nilf=some [.nilf]:=rfl
theorem GU {g:Nat}: yo (.fn g l)=some [.fn g l]:=rfl
theorem GV: eU P rs v .ret f H=(match vy P f H rs with|some l=>yK H [] (vI l) v|none=>False):=rfl
theorem GW: eU P rs v .normal f H=(match vy P f H rs with|some l=>yK H [] (vI l) v|none=>False):=rfl
theorem GX {t:Nat}: ib P f H (.tmp t)=some (f t):=rfl
theorem GY {a t:Nat}: ib P f H (.cell a t)=(match xS H (f a),rZ P t,xN P t with
  |some l,some true,some n=>if n<=l.length then some (.agg (l.take n)) else none
  |some (v::_),some false,_=>some v
  |_,_,_=>none):=rfl
theorem GZ:vy P f H []=some []:=rfl
theorem Fa {x:ResultVar}{l:List ResultVar}: vy P f H (x::l)=(match ib P f H x,vy P f H l with|some v,some r=>some (v::r)|_,_=>none):=rfl
theorem t1: vI [v]=v:=rfl
theorem t2 {u v:AV}: vI (u::v::l) = .tup (u::v::l):=rfl
theorem f0a: fr0 n []=λ_=>.any:=rfl
theorem f0b{a:AV}: fr0 n (a::l)=xb (fr0 (n+1) l) n a:=rfl
theorem Fb: nh (.agg cs.toArray) = .agg (cs.map av1):=rfl
theorem Fc{n:Int}: nh (.int kd n) = .int kd n:=rfl
theorem Fd: nh (.bool b) = .bool b:=rfl
theorem Fe {s:ByteArray}: nh (.string s) = .str s:=rfl
theorem Ff:nh (.slice none 0 0) = .nils:=rfl
theorem Fg:nh (.pointer none) = .nilp:=rfl
theorem Fh:nh .nilFunc = .nilf:=rfl
theorem J9: xN P t=if(P.types[t]?).isSome=true then okN ((sizeOf t).run P default) else none:=rfl
theorem JA: rZ P t=okN ((isAgg t).run P default):=rfl
theorem JB: vq P t=okN ((zeroValue t).run P default):=rfl
theorem JC: ux P t=(vq P t).map λz=>z.cells.toList.map av1:=rfl
theorem JD {e:Type}{a:e}: okN (.ok a w)=some a:=rfl
end
attribute [go_sem] HK HL HN HO Jc Jd Je HP
attribute [go_sem] Ge Gf kU H5 H6 H7 H8 H9 HA HB HC HD HE HF Oq Rq Tn Mr Ot HG HI HJ Rr Ou Ov Ms Ow HQ HR HS HT HU HV HW HX HY HZ Mt Ox Oy WE Ga Gb pk pk0 fp fs hs Gc Gd Gg Gh Gi Gj Gk Gl Gm Oz Mu O0 Gn Gp Gq Mv Jj Mw Rs O1 Rt Mx Jk Jl Jm Jn Jo Jp Jq Jr Js O2 Jt Jv Jy Jw Gr Jz J0 QW Gs Gt Mz Gu Gv Gw Gx Gy Gz G4 G5 G6 G7 G8 G9 GA J1 J2 J3 J5 J4 GB GC GD GE GF GH GG GI GJ GK GM GN GO J6 J8 J7 GP GQ GR GS GT GU GV GW GX GY GZ Fa t1 t2 f0a f0b Fb Fc Fd Fe Ff Fg Fh J9 JA JB JC JD
attribute [go_sem high] My Jf Jg Jh Ji
attribute [go_sem] mkS VQ VP gF bU ni sU yT tj xS t6 t7 vH eT ws xw qc pR oO tJ kV t8 nj xW av1 aun tQ qb nH tI yK tR vQ mu bV gH Id.l.injEq
def frl:List (Nat×AV)->Fr
 |[]=>λ_=>.any
 |(k,v)::l=>xb (frl l) k v
def hpl:List (Id×Ob)->Hp
 |[]=>λ_=>none
 |(i,o)::l=>ze (hpl l) i o
def fle:List (Nat×AV)->Fr->Prop
 |[],_=>True
 |(k,v)::l,f=>f k=v/\fle l f
def hle:List (Id×Ob)->Hp->Prop
 |[],_=>True
 |(i,o)::l,H=>H i=some o/\hle l H
theorem To:∀ {l:List (Nat×AV)} {f:Fr},fle l f->∀t,frl l t=f t\/frl l t = .any
 |[],f,_,t=>Or.inr rfl
 |(k,v)::l,f,h,t=>by
  simp only[frl,xb];split
  ·rename_i e;subst e;exact Or.inl h.1.symm
  ·exact To h.2 t
theorem Tp:∀ {l:List (Id×Ob)} {H:Hp},hle l H->∀i o,hpl l i=some o->H i=some o
 |[],H,_,i,o,h=>by cases h
 |(j,p)::l,H,h,i,o,q=>by
  simp only[hpl,ze] at q;split at q
  ·rename_i e;subst e;injection q with q;subst q;exact h.1
  ·exact Tp h.2 i o q
theorem Rel.less{a:Act}(r:Rel X N f H a w){l:List (Nat×AV)}{hl:List (Id×Ob)}(g:fle l f)(p:hle hl H):
  Rel X N (frl l) (hpl hl) a w/\Ev (own H) w (own (hpl hl)) w:=by
 have hs:∀i o,hpl hl i=some o->H i=some o:=Tp p;have u:∀b,own (hpl hl) b->own H b:=λb ⟨i,o,k1,y⟩=>⟨i,o,hs i o k1,y⟩
 have e:Ev (own H) w (own (hpl hl)) w:=⟨rfl,rfl,rfl,Nat.le_refl _,λb _ q=>⟨λz=>q (u b z),rfl⟩⟩
 have A:=r.wide (To g);exact⟨⟨λt=>RV.mono e.fb _ _ (A.tm t),r.hp.grown ⟨rfl,rfl,rfl,Nat.le_refl _,λ_ _ q=>⟨q,rfl⟩⟩ λi o h=>⟨o,hs i o h,rfl,rfl,rfl,rfl,rfl,λz=>z⟩,r.df,r.sz⟩,e⟩
def mz(F:G->List (Nat×AV))(q:G->List (Id×Ob))(h:G->Prop)(p:G->Nat)(g:G)(Q:AQ): AQ
 |.normal,f,H=>∃a,h a/\p a<p g/\fle (F a) f/\hle (q a) H
 |e,f,H=>Q e f H
theorem zf(hP:wI P){B:List Nat}(F:G->List (Nat×AV))(p:G->List (Id×Ob))(h:G->Prop)(z:G->Nat)(u:G)
  (J:yS N B c=true) (D:h u) (I:fle (F u) f) (E:hle (p u) H)
  (round:∀g,h g->avc P X N B c (stQ P X N B [] (mz F p h z g Q)) (frl (F g)) (hpl (p g))):AW P X N (.loop c) Q f H:=by
 refine AW.loop (λg y H'=>h g/\fle (F g) y/\hle (p g) H') z u ⟨D,I,E⟩ λg Z Y ⟨k1,L,M⟩ a w r=>?_;obtain⟨W,A⟩:=r.less L M;refine wp_mono (tX hP J (round g k1) a w W) λe a' w' ⟨y,H',q,V,v⟩=>⟨y,H',?_,V,A.trans v⟩
 cases e
 case normal=>obtain⟨C,O,R,T,U⟩:=q;exact⟨C,⟨O,T,U⟩,R⟩
 all_goals exact q
theorem Fi{F:G->List (Nat×AV)}{p:G->List (Id×Ob)}{a:G->Prop}{h:G->Nat}{g:G}: mz F p a h g Q .normal f H = ∃e,a e/\h e<h g/\fle (F e) f/\hle (p e) H:=(rfl)
theorem Fj{F:G->List (Nat×AV)}{e:G->List (Id×Ob)}{a:G->Prop}{h:G->Nat}{g:G}{l:Nat}: mz F e a h g Q (.exit l) f H=Q (.exit l) f H:=(rfl)
theorem Fk{F:G->List (Nat×AV)}{e:G->List (Id×Ob)}{a:G->Prop}{h:G->Nat}{g:G}{l:Nat}: mz F e a h g Q (.goto l) f H=Q (.goto l) f H:=(rfl)
theorem Fl{F:G->List (Nat×AV)}{e:G->List (Id×Ob)}{a:G->Prop}{h:G->Nat}{g:G}: mz F e a h g Q .ret f H=Q .ret f H:=(rfl)
theorem Fo:frl []=λ_=>.any:=rfl
theorem Fp {k:Nat}{l:List (Nat×AV)}: frl ((k,v)::l)=xb (frl l) k v:=rfl
theorem Fq:hpl []=λ_=>none:=rfl
theorem Fs {k:Id}{v:Ob}{l:List (Id×Ob)}: hpl ((k,v)::l)=ze (hpl l) k v:=rfl
theorem Ft: fle [] f=True:=rfl
theorem Fu {k:Nat}{l:List (Nat×AV)}: fle ((k,v)::l) f=(f k=v/\fle l f):=rfl
theorem Fv {f:Hp}: hle [] f=True:=rfl
theorem Fw {k:Id}{v:Ob}{l:List (Id×Ob)}{f:Hp}: hle ((k,v)::l) f=(f k=some v/\hle l f):=rfl
attribute [go_sem] Fi Fj Fk Fl Fo Fp Fq Fs Ft Fu Fv Fw
def KO (P:Program)(f:Nat)(l:List AV)(s:Nat)(t:TypeId)(rows:List (List AV))(v:Id->Nat->Nat->AV): Prop :=
 ∀(X:Nat->Prop) w cl,XOk X w->RL X w l cl->Calls P f cl.toArray w λe w'=>∃b c a,e = .returned a/\Ev (λ_=>False) w (λ_=>False) w' /\
  (c≠0->w.heap.size<=b)/\∀i,RV (zp X (hpl [(i,⟨b,c,s,t,rows,false⟩)])) w' (v i b c) a/\HOk X (hpl [(i,⟨b,c,s,t,rows,false⟩)]) w'
theorem uZ {i j:Id}{o p:Ob}(h:hpl [(i,o)] j=some p): j=i/\p=o:=by
 simp only[hpl,ze] at h;split at h
 ·rename_i e;injection h with h;exact⟨e,h.symm⟩
 ·cases h
theorem HOk.frz{L:List Id}(h:HOk X H w): HOk X (AM.frz L H) w:=h.grown ⟨rfl,rfl,rfl,Nat.le_refl _,λ_ _ q=>⟨q,rfl⟩⟩ pD
theorem QX{f:Nat}{l l':List AV}{v:Id->Nat->Nat->AV}(i:Id)(L:List Id)(h:KO P f l' s t rows v)(hs:svl H L l l')
  (q:∀b c,k (v i b c) (ze (frz L H) i ⟨b,c,s,t,rows,false⟩)):wu false P f l H k:=λX w cl A hl=>by
 refine(h (zp X (frz L H)) w cl ⟨λb hb=>eR A (hb.imp id x7),A.gl.wide λb hb=>hb.imp id x7⟩ ((pE hs).rl A hl)).mono λe w' ⟨b,c,cv,e1,k1,k2,k3⟩=>?_;obtain⟨k4,k5⟩:=k3 i;have C:HOk X (frz L H) w':=A.grown k1 pD;have W:Rk (zp (zp X (frz L H)) (hpl [(i,⟨b,c,s,t,rows,false⟩)])) w' ⟨b,c,s,t,rows,false⟩:=k5.ob i _ (by simp[hpl,ze]);have D:∀z,zp X (ze (frz L H) i ⟨b,c,s,t,rows,false⟩) z->zp (zp X (frz L H)) (hpl [(i,⟨b,c,s,t,rows,false⟩)]) z:=λz u=>by
  rcases u with u|⟨j,o,p,E,F,T⟩
  ·exact Or.inl (Or.inl u)
  ·unfold ze at p;split at p
   ·rename_i e;injection p with p;subst p;exact Or.inr ⟨i,_,by simp[hpl,ze],E,F,T⟩
   ·exact Or.inl (Or.inr ⟨j,o,p,E,F,T⟩)
 have V:∀j o,frz L H j=some o->o.cap≠0->c≠0->o.b≠b:=λj o p E F e=>by
  have h1:=(A.frz (L:=L)).lt p E;have:=k2 F;omega
 have U:Ev (own H) w (own (ze (frz L H) i ⟨b,c,s,t,rows,false⟩)) w':=⟨k1.os,k1.tape,k1.output,k1.size,λz u hn=>⟨by
  rintro⟨O,R,r,Y,y3,Z⟩;unfold ze at r;split at r
  ·injection r with r;subst r;have:=k2 Y;simp only at Z;omega
  ·exact hn (x7 ⟨O,R,r,Y,y3,Z⟩),(k1.block z u (by simp)).2⟩⟩
 refine⟨_,_,cv,q b c,e1,k4.wide D,⟨λj o a=>?_,λj o a M=>?_,λj O o R a g ho J e=>?_,λz u=>Nat.lt_of_lt_of_le (A.xs z u) k1.size,A.gl.mono U.fb⟩,U⟩
 ·unfold ze at a;split at a
  ·injection a with a;subst a;refine⟨W.1,λM=>?_⟩;obtain⟨I,p,E,F,T⟩:=W.2 M;exact⟨I,p,E,F,RR.mono ⟨rfl,rfl,rfl,Nat.le_refl _,λz _ u=>⟨λy=>u (D z y),rfl⟩⟩ _ _ _ (λ_ _ h=>h) _ T⟩
  ·-- an older object: what it reads lies in older memory
   obtain⟨o1,o2⟩:=(A.frz (L:=L)).ob j o a;refine⟨o1,λM=>?_⟩;obtain⟨I,p,E,F,T⟩:=o2 M;have hb:=(k1.block o.b (Array.getElem?_eq_some_iff.1 p).1 (by simp)).2;refine⟨I,by rw[hb,p],E,F,RR.mono ⟨k1.os,k1.tape,k1.output,k1.size,λz u hn=>⟨?_,(k1.block z u (by simp)).2⟩⟩ _ _ _ (λ_ _=>tW hb) _ T⟩;rintro(y|⟨O,R,r,Y,y3,Z⟩)
   ·exact hn (Or.inl y)
   ·unfold ze at r;split at r
    ·injection r with r;subst r;have:=k2 Y;simp only at Z;omega
    ·exact hn (Or.inr ⟨O,R,r,Y,y3,Z⟩)
 ·unfold ze at a;split at a
  ·injection a with a;subst a;exact λhx=>by have:=A.xs _ hx;have:=k2 M;simp only at *;omega
  ·exact C.nx j o a M
 ·unfold ze at a g;split at a<;>split at g
  ·simp_all
  ·injection a with a;subst a;exact absurd e.symm (V O R g J ho)
  ·injection g with g;subst g;exact absurd e (V j o a ho J)
  ·exact C.inj j O o R a g ho J e
theorem xu{f:Nat}{v:Id->Nat->Nat->AV}(i:Id)(h:KO P f l s t rows v)
  (q:∀b c,k (v i b c) (ze H i ⟨b,c,s,t,rows,false⟩)):wu false P f l H k:=QX i [] h (svl.refl _ _ _) (by rw[sM];exact q)
def Za (P:Program)(a:List ResultVar)(s:Nat)(t:TypeId)(rows:List (List AV))(v:Id->Nat->Nat->AV): AQ
 |.ret,f,H|.normal,f,H=>(match vy P f H a with|some l=>∃j b c,H j=some ⟨b,c,s,t,rows,false⟩/\yK H [j] (vI l) (v j b c)|none=>False)
 |_,_,_=>False
theorem KO.avc (B:List Nat)(hP:wI P){f:Nat}{fn:Func}{v:Id->Nat->Nat->AV}(Z:P.funcs[f]?=some fn)(hb:fn.body=some c)(W:fn.ntmps=N)(hr:fn.results.toList=rs)(hl:l.length<=N)
  (ho:yS N B c=true) (hv:∀i j b c X w u,RV X w (v i b c) u->RV X w (v j b c) u) (h:∀X,AM.avc P X N B c (stQ P X N B [] (Za P rs s t rows v)) (fr0 0 l) (λ_=>none)):KO P f l s t rows v:=λX w cl Y F=>by
 refine gI Z hb W hl (gD Y) (vP (λb q=>q.resolve_right uG) F) (tX hP ho (h X)) λe T H' a' w' q p ev=>?_;have C:(match vy P T H' rs with|some l=>∃j b c,H' j=some ⟨b,c,s,t,rows,false⟩/\yK H' [j] (vI l) (v j b c)|none=>False)->bodyPost P fn (λe w'=>∃b c R,e = .returned R/\Ev (λ_=>False) w (λ_=>False) w' /\
  (c≠0->w.heap.size<=b)/\∀i,RV (zp X (hpl [(i,⟨b,c,s,t,rows,false⟩)])) w' (v i b c) R/\HOk X (hpl [(i,⟨b,c,s,t,rows,false⟩)]) w') .ret a' w':=λq=>by
  split at q
  ·rename_i lr L;obtain⟨j,b,c,D,q⟩:=q;obtain⟨u,m1,m2⟩:=ph p hr L;have I:Ev (λ_=>False) w (λ_=>False) w':=⟨ev.os,ev.tape,ev.output,ev.size,λb hb _=>⟨id,(ev.block b hb uG).2⟩⟩
   have a:∀i,∀z,zp X (hpl [(i,⟨b,c,s,t,rows,false⟩)]) z->lK X H' [j] z:=λi z A=>by
    rcases A with A|⟨O,o,q1,q2,q3,q4⟩
    ·exact Or.inl A
    ·obtain⟨rfl,rfl⟩:=uZ q1;exact Or.inr ⟨j,_,by simp,D,q2,q3,q4⟩
   refine⟨p.df,u,m1,b,c,u,rfl,I,λr=>?_,λi=>⟨hv _ _ _ _ _ _ _ ((sN p.hp q m2).wide (a i)),λO o g=>?_,λO o g r=>?_,λO h3 o o' U V _ _ _=>?_,p.hp.xs,p.hp.gl.wide λz y=>yQ (a i z y)⟩⟩
   ·-- the object is new: old blocks are no one's
    rcases Nat.lt_or_ge b w.heap.size with M|J
    ·exact absurd ⟨j,_,D,r,rfl,rfl⟩ (ev.block b M uG).1
    ·exact J
   ·obtain⟨rfl,rfl⟩:=uZ g;obtain⟨k1,k2⟩:=p.hp.ob j _ D;refine⟨k1,λr=>?_⟩;obtain⟨E,p1,p2,p3,p4⟩:=k2 r;exact⟨E,p1,p2,p3,RR.mono ⟨rfl,rfl,rfl,Nat.le_refl _,λz _ A=>⟨λy=>A (yQ (a _ z y)),rfl⟩⟩ _ _ _ (λ_ _ h=>h) _ p4⟩
   ·obtain⟨rfl,rfl⟩:=uZ g;exact p.hp.nx j _ D r
   ·exact(uZ U).1.trans (uZ V).1.symm
  ·exact q.elim
 cases e with
 |ret=>exact C q
 |normal=>exact C q
 |_=>exact q.elim
end Go.Proofs.YtllodfoldffonaaGreatDoor.AM
