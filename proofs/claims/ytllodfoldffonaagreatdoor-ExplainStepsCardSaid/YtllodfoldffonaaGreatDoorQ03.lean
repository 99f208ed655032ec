/- A part of the proof. -/
import Derived.Test.YtllodfoldffonaaGreatDoorQ02
namespace Go.Proofs.YtllodfoldffonaaGreatDoor.AM
open Go.RowKit
set_option linter.unusedSimpArgs false
set_option linter.unusedVariables false
set_option maxRecDepth 100000
set_option maxHeartbeats 16000000
variable {H:Hp}{K:AV->Hp->Prop}{L:List Id}{N:Nat}{P:Program}{Q:Exit->Act->World->Prop}{X:Nat->Prop}{a:Act}{c:Code}{d:Nat}{e:Eff}{f:Fr}{fn:Func}{l:List AV}{o:Oper}{op:Op}{ops:Array Oper}{rs:List ResultVar}{v:AV}{w:World}
theorem RP.of {F:Nat->Prop}{w:World}{g:Operand->Value}: ∀ {b:List (Nat×Operand)} {l:List AV},RL F w l (b.map λx=>g x.2)->RP F w ((b.map (·.1)).zip l) (b.map λx=>(x.1,g x.2))
 |[],l,h=>by simp[RP]
 |(i,x)::b,l,h=>by
  cases l with
  |nil=>simp only[RL] at h;cases h
  |cons a l =>
   simp only[List.map_cons,RL] at h;obtain⟨c,r,e,k1,m⟩:=h;injection e with j k;subst j k;simp only[List.map_cons,List.zip_cons_cons,RP];exact⟨_,_,rfl,k1,RP.of m⟩
theorem cF {h:Type}(b:Array (Nat×Operand))(g:Operand->h): (b.map fun (x:Nat×Operand)=>(x.1,g x.2))=((b.toList.map λx=>(x.1,g x.2)).toArray):=by apply Array.ext';simp
theorem Oi(hB:∀t,(P.types[t]?).isSome=true->P.bytesOf t<=65536)(I:HOk X H w)(o:Oper)(i:Operand->Value)(l:List AV)
  (hl:RL (zp X H) w l (o.op.operands.toList.map i)):(z8 P d H o.op l).Ok P X H w ((execOp i o).run P w):=by
 obtain⟨dst,op,ty,V,after,g⟩:=o;simp only at hl ⊢;have two:∀ {x y:Operand} {l:List AV},RL (zp X H) w l [i x,i y]->∃a b,l = [a,b]/\RV (zp X H) w a (i x)/\RV (zp X H) w b (i y):=fun {x y l} h=>by
  match l,h with
  |[a,b],h=>simp only[RL] at h;obtain⟨c,r,e,k,c',r',e',k',rfl⟩:=h;subst e';injection e with B D;injection D with D;subst B D;exact⟨a,b,rfl,k,k'⟩
  |[],h=>simp[RL] at h
  |[a],h=>simp[RL] at h
  |a::b::c::l,h=>have:=h.length;simp at this
 have one:∀ {x:Operand} {l:List AV},RL (zp X H) w l [i x]->∃a,l = [a]/\RV (zp X H) w a (i x):=fun {x l} h=>by
  match l,h with
  |[a],h=>simp only[RL] at h;obtain⟨c,r,e,k,rfl⟩:=h;injection e with B D;subst B;exact⟨a,rfl,k⟩
  |[],h=>simp[RL] at h
  |a::b::l,h=>have:=h.length;simp at this
 cases op with
 |move x=>obtain⟨a,rfl,k⟩:=one (by simpa[Op.operands] using hl);exact⟨_,by simp[execOp],k⟩
 |assign x=>obtain⟨a,rfl,k⟩:=one (by simpa[Op.operands] using hl);exact⟨_,by simp[execOp],k⟩
 |pick c a b =>
  have O:∃u v z,l = [u,v,z]/\RV (zp X H) w u (i c)/\RV (zp X H) w v (i a)/\RV (zp X H) w z (i b):=by
   have p:RL (zp X H) w l [i c,i a,i b]:=by simpa[Op.operands] using hl
   match l,p with
   |[u,v,z],h=>simp only[RL] at h;obtain⟨c1,r1,B,k1,c2,r2,D,j,c3,r3,e3,F,rfl⟩:=h;subst e3 D;injection B with B W;injection W with W Y;injection Y with Y;subst B W Y;exact⟨u,v,z,rfl,k1,j,F⟩
   |[],h=>simp[RL] at h
   |[_],h=>simp[RL] at h
   |[_,_],h=>have:=h.length;simp at this
   |_::_::_::_::_,h=>have:=h.length;simp at this
  obtain⟨u,v,z,rfl,k1,j,F⟩:=O;show(mt u v z).Ok _ _ _ _ _;cases u<;>try trivial
  rename_i q;simp only[RV] at k1;refine⟨if q then i a else i b,?_,?_⟩
  ·simp only[execOp];rw[k1];simp[asBool]
  ·cases q
   ·simpa using F
   ·simpa using j
 |binOp op t x y t' =>
  obtain⟨a,b,rfl,k1,j⟩:=two (by simpa[Op.operands] using hl);exact Oc k1 j (ex:=x) (ey:=y) (by simp[execOp])
 |unOp op t x=>obtain⟨a,rfl,k⟩:=one (by simpa[Op.operands] using hl);exact Ml k (by simp[execOp])
 |box t x=>obtain⟨a,rfl,k⟩:=one (by simpa[Op.operands] using hl);exact W9 I k (by simp[execOp])
 |alloc t =>
  match l,hl with
  |[],_=>exact Td I (by simp[execOp])
  |_::_,hl=>trivial
 |load t x=>obtain⟨a,rfl,k⟩:=one (by simpa[Op.operands] using hl);exact aL I k (by simp[execOp])
 |store t x y =>
  obtain⟨a,b,rfl,k1,j⟩:=two (by simpa[Op.operands] using hl);exact Tc I k1 j (by simp[execOp])
 |nilCheck x =>
  obtain⟨a,rfl,k⟩:=one (by simpa[Op.operands] using hl);show(Ro a).Ok _ _ _ _ _;cases a<;>try trivial
  all_goals(have k':=k;simp only[RV] at k')
  ·refine⟨_,?_,k⟩;simp only[execOp];rw[k'];simp
  ·obtain⟨b,o,cs,e,_⟩:=k';refine⟨_,?_,k⟩;simp only[execOp];rw[e];simp
  ·obtain⟨cs,e,_⟩:=k';refine⟨_,?_,k⟩;simp only[execOp];rw[e];simp
 |fieldAddr t x k =>
  obtain⟨a,rfl,C⟩:=one (by simpa[Op.operands] using hl);show(afa P t k a).Ok _ _ _ _ _;cases a<;>try trivial
  all_goals exact c8 C (λa e=>by simp[execOp]) (λcs e=>by rw[e] at C;simp[RV] at C)
 |field t x k =>
  obtain⟨a,rfl,C⟩:=one (by simpa[Op.operands] using hl);show(afi P t k a).Ok _ _ _ _ _;cases a<;>try trivial
  exact c8 C (λa e=>by rw[e] at C;simp[RV] at C) (λcs e=>by simp[execOp])
 |indexAddr t x y =>
  obtain⟨a,b,rfl,k1,j⟩:=two (by simpa[Op.operands] using hl);show(aia P t a b).Ok _ _ _ _ _;cases b<;>try trivial
  simp only[RV] at j;cases a<;>try trivial
  all_goals exact cB k1 (λ_=>by simp only[execOp];rw[j];try rfl) (λcs e=>by rw[e] at k1;simp[RV] at k1)
 |index t x y =>
  obtain⟨a,b,rfl,k1,j⟩:=two (by simpa[Op.operands] using hl);show(aix P t a b).Ok _ _ _ _ _;cases b<;>try trivial
  simp only[RV] at j;cases a<;>try trivial
  have T:=k1;simp only[RV] at T;obtain⟨cs,e,_⟩:=T;exact cB k1 (λh=>absurd e (h _)) (λcs e=>by simp only[execOp];rw[j])
 |extract x k =>
  obtain⟨a,rfl,C⟩:=one (by simpa[Op.operands] using hl);show(aex k a).Ok _ _ _ _ _;cases a<;>try trivial
  rename_i q;simp only[RV] at C;obtain⟨cs,e,C⟩:=C;show(match q[k]? with|some v=>Eff.val v|none=>.no).Ok _ _ _ _ _;cases hq:q[k]? with
  |none=>trivial
  |some v =>
   obtain⟨c,hc,hv⟩:=C.get hq;refine⟨c,?_,hv⟩;simp only[execOp];rw[e];simp[Instr.extract,hc]
 |build t ps =>
  refine Te (qs:=ps.toList.map λx=>(x.1,i x.2)) (RP.of (by simpa[Op.operands,Function.comp_def] using hl)) ?_;simp only[execOp];rw[cF]
 |buildSlice t n ps =>
  refine VM (qs:=ps.toList.map λx=>(x.1,i x.2)) I (RP.of (by simpa[Op.operands,Function.comp_def] using hl)) ?_;simp only[execOp];rw[cF]
 |makeSlice t x y =>
  obtain⟨a,b,rfl,k1,j⟩:=two (by simpa[Op.operands] using hl);show(amk P d H t a b).Ok _ _ _ _ _;cases a<;>try trivial
  cases b<;>try trivial
  rename_i ka na kb nb;simp only[RV] at k1 j;exact Rl hB (k:=ka) (k':=kb) I (by simp only[execOp];rw[k1,j])
 |slice t x lo hi mx =>
  match l,hl with
  |[],_=>trivial
  |a::l,hl =>
   have p:RL (zp X H) w (a::l) (i x::(lo.toList.map i++(hi.toList.map i++mx.toList.map i))):=by cases lo<;>cases hi<;>cases mx<;>simpa[Op.operands] using hl
   simp only[RL] at p;obtain⟨c,r,e,k1,j⟩:=p;injection e with B D;subst B D;have M:∀ {o:Option Operand} {l:List AV} {us:List Value} {q:Option Int} {l':List AV},RL (zp X H) w l (o.toList.map i++us)->nk o l=some (q,l')->RL (zp X H) w l' us/\((q=none/\o.map i=none)\/∃k n,q=some n/\o.map i=some (.int k n)):=by
    intro o l us q l' E A;cases o with
    |none=>simp only[nk] at A;injection A with A;injection A with A S;subst A S;exact⟨by simpa using E,Or.inl ⟨rfl,rfl⟩⟩
    |some y =>
     cases l with
     |nil=>simp[nk] at A
     |cons b l =>
      cases b<;>simp only[nk] at A<;>try(cases A;done)
      injection A with A;injection A with A S;subst A S;simp only[Option.toList_some,List.map_cons,List.map_nil,List.cons_append,List.nil_append,RL,RV] at E;obtain⟨c,r,e,rfl,k⟩:=E;injection e with B D;subst D;exact⟨k,Or.inr ⟨_,_,rfl,congrArg some B⟩⟩
   show(aM P t lo hi mx (a::l)).Ok _ _ _ _ _;simp only[aM];cases E:nk lo l with
   |none=>trivial
   |some p1 =>
    obtain⟨q1,l1⟩:=p1;obtain⟨F,k4⟩:=M j E;simp only;cases A:nk hi l1 with
    |none=>trivial
    |some p2 =>
     obtain⟨q2,l2⟩:=p2;obtain⟨k5,k6⟩:=M F A;simp only;cases S:nk mx l2 with
     |none=>trivial
     |some p3 =>
      obtain⟨q3,l3⟩:=p3;obtain⟨k7,k8⟩:=M (us:=[]) (by simpa using k5) S;cases l3 with
      |cons _ _=>trivial
      |nil =>
       simp only;have U:q3=none->(t8 P t a q1 q2).Ok P X H w ((execOp i ⟨dst,.slice t x lo hi mx,ty,V,after,g⟩).run P w):=λe=>by
        rcases k8 with⟨_,hm⟩|⟨_,_,rfl,_⟩
        ·exact Th k1 k4 k6 (by simp[execOp,hm])
        ·cases e
       have G:q1=none->(nj P t a q2 q3).Ok P X H w ((execOp i ⟨dst,.slice t x lo hi mx,ty,V,after,g⟩).run P w):=λe=>by
        rcases k4 with⟨_,hm⟩|⟨_,_,rfl,_⟩
        ·exact Oh k1 k6 k8 (by simp[execOp,hm])
        ·cases e
       unfold sV;split
       ·split
        ·exact G rfl
        ·trivial
       ·exact U rfl
       ·exact G rfl
       ·trivial
 |convert s t x =>
  obtain⟨a,rfl,C⟩:=one (by simpa[Op.operands] using hl);show(acv P s t a).Ok _ _ _ _ _;cases a<;>try trivial
  simp only[RV] at C;simp only[acv];split<;>try trivial
  rename_i E A;refine okI (P:=P) ?_;simp only[execOp];rw[C];simp[convert,run_underlying E,run_underlying A,Conv.intToInt]
 |makeFunc f first cap =>
  cases f<;>try trivial
  rename_i f;simp only[z8];split
  ·rename_i h0;have:first = #[]:=Array.eq_empty_of_size_eq_zero h0
   subst this;refine⟨.func (.func f) #[] (cap.map i),by simp[execOp,Instr.makeFunc],?_⟩;simp only[RV];exact⟨cap.toList.map i,by congr 1;apply Array.ext';simp,by simpa[Op.operands] using hl⟩
  ·split<;>try trivial
   rename_i E;have:cap = #[]:=Array.eq_empty_of_size_eq_zero E
   subst this;refine⟨.func (.func f) (first.map i) #[],by simp[execOp,Instr.makeFunc],?_⟩;simp only[RV];exact⟨first.toList.map i,by congr 1;apply Array.ext';simp,by simpa[Op.operands] using hl⟩
 |call c =>
  obtain⟨callee,args,ts⟩:=c;cases callee with
  |invoke r m=>trivial
  |builtin b =>
   refine Xp hB (ty:=ty) (cs:=args.map fun|.const _=>true|_=>false) I hl ?_;have e:args.map i=(args.toList.map i).toArray:=by apply Array.ext';simp
   simp only[execOp,resolve,Sem.run_bind,Sem.run_pure,Result.andThen_ok,invoke,e];simp[Op.operands,Call.operands];rfl
  |value Z =>
   match l,hl with
   |[],hl=>trivial
   |a::l,hl =>
    show(acl P (a::l)).Ok _ _ _ _ _;cases a<;>try trivial
    case bm f fs =>
     intro J;have p:RL (zp X H) w (.bm f fs::l) (i Z::args.toList.map i):=by simpa[Op.operands,Call.operands] using hl
     simp only[RL,RV] at p;obtain⟨c,r,e,⟨cs,k1,j⟩,F⟩:=p;injection e with B D;subst D;refine⟨cs++args.toList.map i,?_,j.append F⟩;simp only[execOp,resolve,Sem.run_bind];rw[B,k1];have:=J ((cs++args.toList.map i).toArray) w
     have e:args.map i=(args.toList.map i).toArray:=by apply Array.ext';simp
     simp only[Deferred.ofValue,invoke,Sem.run_pure,Result.andThen_ok,e];simpa using this
    rename_i f R;intro J;have p:RL (zp X H) w (.fn f R::l) (i Z::args.toList.map i):=by simpa[Op.operands,Call.operands] using hl
    simp only[RL,RV] at p;obtain⟨c,r,e,⟨cs,k1,j⟩,F⟩:=p;injection e with B D;subst D;refine⟨args.toList.map i++cs,?_,F.append j⟩;simp only[execOp,resolve,Sem.run_bind];rw[B,k1];have:=J ((args.toList.map i++cs).toArray) w
    have e:args.map i=(args.toList.map i).toArray:=by apply Array.ext';simp
    simp only[Deferred.ofValue,invoke,Sem.run_pure,Result.andThen_ok,e];simpa using this
 |_=>trivial
def H4 (X:Nat->Prop)(H:Hp)(w:World)(K:AV->Hp->Prop)(e:Ending)(w':World): Prop :=
 ∃v H' b,K v H'/\e = .returned b/\RV (zp X H') w' v b/\HOk X H' w'/\Ev (own H) w (own H') w'
def kW (P:Program)(f:Nat)(l:List AV)(H:Hp)(K:AV->Hp->Prop): Prop :=
 ∀X w cl,HOk X H w->RL (zp X H) w l cl->Calls P f cl.toArray w (H4 X H w K)
def Eff.st (P:Program): Eff->Hp->(AV->Hp->Prop)->Prop
 |.no,_,_=>False
 |.req c e,H,K=>c/\e.st P H K
 |.val v,H,K=>K v H
 |.row l i k,H,K=>∃r,l[i]?=some r/\K (k r) H
 |.wr i o v,H,K=>K v (ze H i o)
 |.mk i o v,H,K=>∀b c,K (v b c) (ze H i (o b c))
 |.call f l,H,K=>kW P f l H K
abbrev nul:AV:=.tup []
def gd (ops:Array Oper)(f:Fr)(o:Oper): Option Bool:=match o.guard with
 |none=>some true
 |some (j,want)=>match (ops[j]?).bind (·.dst) with
  |some d=>(match f d with|.bool b=>some (b==want)|.tup []=>some false|_=>none)
  |none=>none
def qF (f:Fr)(d:Option Nat)(K:Fr->Hp->Prop)(v:AV)(H:Hp): Prop:=K (zl f d v) H
def AS (P:Program)(ops:Array Oper)(o:Oper)(f:Fr)(H:Hp)(K:Fr->Hp->Prop): Prop:=match gd ops f o with
 |some g=>(g=true->(z8 P (o.dst.getD 0) H o.op (o.op.operands.toList.map (ev f))).st P H (qF f o.dst K))/\(g=false->K (zl f o.dst nul) H)
 |none=>False
def ASi (P:Program)(ops:Array Oper)(K:Fr->Hp->Prop): List Nat->Fr->Hp->Prop
 |[],f,H=>K f H
 |i::L,f,H=>match ops[i]? with
  |some o=>AS P ops o f H (ASi P ops K L)
  |none=>ASi P ops K L f H
def ASl (P:Program)(ops:Array Oper)(K:Fr->Hp->Prop): List Oper->Fr->Hp->Prop
 |[],f,H=>K f H
 |o::l,f,H=>AS P ops o f H (ASl P ops K l)
def ur (N:Nat)(ops:Array Oper): Bool:=ops.all λo=>match o.dst with|some d=>decide (d<N)|none=>true
section
variable {P:Program} {X:Nat -> Prop} {N:Nat} {f:Fr} {H:Hp} {a:Act} {w:World}
theorem Eff.mono{K m:AV->Hp->Prop}(h:e.st P H K)(k:∀v H,K v H->m v H): e.st P H m:=by
 induction e with
 |no=>exact h
 |req c e ih=>exact⟨h.1,ih h.2⟩
 |val v=>exact k _ _ h
 |row l i q=>obtain⟨r,g,j⟩:=h;exact⟨r,g,k _ _ j⟩
 |wr i o v=>exact k _ _ h
 |mk i o v=>exact λb c=>k _ _ (h b c)
 |call f l=>exact λX w cl g j=>(h X w cl g j).mono λe w' ⟨v,H',n,q,r⟩=>⟨v,H',n,k _ _ q,r⟩
theorem AS.mono{K b:Fr->Hp->Prop}(h:AS P ops o f H K)(k:∀f H,K f H->b f H): AS P ops o f H b:=by
 unfold AS at *;split<;>rename_i g<;>rw[g] at h
 ·exact⟨λe=>Eff.mono (h.1 e) λv H=>k _ _,λe=>k _ _ (h.2 e)⟩
 ·exact h
theorem gG {ops:Array Oper}{K:Fr->Hp->Prop}: ∀ {l:List Oper} {L:List Nat} {f:Fr} {H:Hp},L.map (ops[·]?)=l.map some->ASl P ops K l f H->ASi P ops K L f H
 |[],[],f,H,_,h=>by simpa only[ASl,ASi] using h
 |o::l,i::L,f,H,e,h=>by
  simp only[List.map_cons,List.cons.injEq] at e;simp only[ASl] at h;simp only[ASi,e.1];exact h.mono λg H' b=>gG e.2 b
 |[],_::_,_,_,e,_=>by simp at e
 |_::_,[],_,_,e,_=>by simp at e
theorem Rel.put (r:Rel X N f H a w){H':Hp}{w':World}{b:Value}{d:Option Nat}(g:HOk X H' w')(h:Ev (own H) w (own H') w')(j:RV (zp X H') w' v b)(k:∀t,d=some t->t<N):
  Rel X N (zl f d v) H' (a.put d b) w':=by
 cases d with
 |none=>exact⟨λt=>RV.mono h.fb _ _ (r.tm t),g,r.df,r.sz⟩
 |some d =>
  refine⟨λt=>?_,g,r.df,by simp[Act.put,r.sz]⟩;simp only[zl,xb,Act.put];split
  ·rename_i e;subst e;have:t<a.tmps.size:=by rw[r.sz];exact k t rfl
   simpa[Array.getElem?_setIfInBounds,this] using j
  ·rename_i e;have i:(a.tmps.setIfInBounds d b).getD t undef=a.tmps.getD t undef:=by
    simp[Array.getElem?_setIfInBounds_ne (Ne.symm e)]
   rw[i];exact RV.mono h.fb _ _ (r.tm t)
theorem Ri (r:Rel X N f H a w): ∀l:List Operand,RL (zp X H) w (l.map (ev f)) (l.map a.eval)
 |[]=>by simp[RL]
 |x::l=>by simp only[List.map_cons,RL];exact⟨_,_,rfl,r.ev x,Ri r l⟩
def Mn (X:Nat->Prop)(N:Nat)(H:Hp)(w:World)(K:Fr->Hp->Prop)(a':Act)(w':World): Prop:=∃b H',K b H'/\Rel X N b H' a' w'/\Ev (own H) w (own H') w'
theorem Eff.run{K:Fr->Hp->Prop}(r:Rel X N f H a w)(n:∀t,o.dst=some t->t<N)(h:e.st P H (qF f o.dst K))(j:e.Ok P X H w ((execOp a.eval o).run P w)):
  o.wp P a w (Mn X N H w K) Q:=by
 unfold Oper.wp;induction e with
 |no=>exact h.elim
 |req c e ih=>exact ih h.2 (j h.1)
 |val v =>
  obtain⟨p,e,k⟩:=j;rw[e];exact⟨_,_,h,r.put r.hp (Ev.refl _ _) k n,Ev.refl _ _⟩
 |row l i q =>
  obtain⟨x,z,A⟩:=h;obtain⟨p,e,k⟩:=j x z;rw[e];exact⟨_,_,A,r.put r.hp (Ev.refl _ _) k n,Ev.refl _ _⟩
 |wr i ob v =>
  obtain⟨p,w',e,k1,m,s⟩:=j;rcases e with e|⟨e,rfl⟩
  ·rw[e];exact⟨_,_,h,r.put k1 m s n,m⟩
  ·rw[e];exact⟨_,_,h,r.put k1 m s n,m⟩
 |mk i ob v =>
  obtain⟨b,c,p,w',e,k1,m,s⟩:=j;rw[e];exact⟨_,_,h b c,r.put k1 m s n,m⟩
 |call g l =>
  obtain⟨cl,e,k⟩:=j;rw[e];refine(h X w cl r.hp k).mono λe w' ⟨v,H',p,q,y,B,C,u⟩=>?_;subst y;exact⟨_,_,q,r.put C u B n,u⟩
theorem Ti{g:Bool}(r:Rel X N f H a w)(h:gd ops f o=some g): Region.wanted o (yielded ops a.tmps)=g:=by
 unfold gd at h;unfold Region.wanted;cases m:o.guard with
 |none=>rw[m] at h;simp at h;simp[h]
 |some p =>
  obtain⟨j,n⟩:=p;rw[m] at h;simp only at h ⊢;split at h
  ·rename_i d i;split at h
   ·rename_i b hb;injection h with h;subst h;have:=r.tm d
    rw[hb] at this;simp only[RV] at this;have e:a.tmps[d]?=some (.bool b):=by
     cases q:a.tmps[d]? with
     |none=>rw[Array.getD_eq_getD_getElem?,q] at this;simp[undef] at this
     |some v=>rw[Array.getD_eq_getD_getElem?,q] at this;simpa using this
    unfold yielded;rw[i];simp[e]
   ·rename_i hb;injection h with h;subst h;have:=r.tm d
    rw[hb] at this;simp only[RV] at this;obtain⟨cs,e,k⟩:=this;simp only[RL] at k;subst k;unfold yielded;rw[i];simp only[Option.bind_some];cases q:a.tmps[d]? with
    |none=>rfl
    |some v =>
     rw[Array.getD_eq_getD_getElem?,q] at e;simp only[Option.getD_some] at e;subst e;rfl
   ·cases h
  ·cases h
theorem QU (j:∀t,(P.types[t]?).isSome=true->P.bytesOf t<=65536){i:Nat}{K:Fr->Hp->Prop}(hi:ops[i]?=some o)(k:ur N ops=true)(h:AS P ops o f H K)(r:Rel X N f H a w):
  wpOp P ops Q i (Mn X N H w K) a w:=by
 have b:∀t,o.dst=some t->t<N:=λt n=>by
  have:=(Array.all_eq_true.1 k) i (Array.getElem?_eq_some_iff.1 hi).1
  rw[(Array.getElem?_eq_some_iff.1 hi).2,n] at this;simpa using this
 unfold wpOp;simp only[hi];unfold AS at h;split at h
 ·rename_i g m;rw[Ti r m];cases g with
  |true=>exact Or.inl (Eff.run r b (h.1 rfl) (Oi j r.hp o a.eval _ (by simpa using Ri r o.op.operands.toList)))
  |false=>exact⟨_,_,h.2 rfl,r.put r.hp (Ev.refl _ _) (by simp only[RV];exact⟨[],rfl,by simp only[RL]⟩) b,Ev.refl _ _⟩
 ·exact h.elim
theorem aN (j:∀t,(P.types[t]?).isSome=true->P.bytesOf t<=65536){ops:Array Oper}{K:Fr->Hp->Prop}{Q:Exit->Act->World->Prop}(m:ur N ops=true):
  ∀ {L:List Nat} {f:Fr} {H:Hp} {a:Act} {w:World} {F:Nat->Prop} {w0:World},ASi P ops K L f H->Rel X N f H a w->Ev F w0 (own H) w->(∀g H' a' w',K g H'->Rel X N g H' a' w'->Ev F w0 (own H') w'->Q .normal a' w')->wpOps P ops Q L a w
 |[],f,H,a,w,F,w0,h,r,v,q=>q _ _ _ _ h r v
 |i::L,f,H,a,w,F,w0,h,r,v,q=>by
  rw[wpOps_cons];simp only[ASi] at h;cases b:ops[i]? with
  |none=>rw[b] at h;unfold wpOp;rw[b];exact aN j m h r v q
  |some o =>
   rw[b] at h;exact wpOp_mono (λa' w' ⟨g,H',k,n,v'⟩=>aN j m k n (v.trans v') q) (QU j b m h r)
theorem AW.region (j:∀t,(P.types[t]?).isSome=true->P.bytesOf t<=65536){id:Nat}{Q:AQ}(m:ur N ops=true)(h:ASl P ops (Q .normal) ops.toList f H): AW P X N (.region id ops false) Q f H:=λa w r=>by
 refine wp_region (aN j m (gG (l:=ops.toList) ?_ h) r (Ev.refl _ _) λg H' a' w' k n v'=>⟨g,H',k,n,v'⟩);apply List.ext_getElem
 ·simp
 ·intro i b p;simp at b;simp[b]
end
section
variable {P:Program} {X:Nat -> Prop} {N:Nat} {f:Fr} {H:Hp} {Q:AQ}
theorem Rel.evb(r:Rel X N f H a w){c:Operand}{b:Bool}(h:AM.ev f c = .bool b): a.eval c = .bool b:=by
 have:=r.ev c;rw[h] at this;simpa only[RV] using this
theorem AW.cond {c:Operand}{x y:Code}{b:Bool}(i:ev f c = .bool b)(g:b=true->AW P X N x Q f H)(h:b=false->AW P X N y Q f H): AW P X N (.cond c x y) Q f H:=λa w r =>
 wp_cond_split (r.evb i) (λe=>g e a w r) (λe=>h e a w r)
theorem Rel.wide {b:Fr}(r:Rel X N f H a w)(h:∀t,b t=f t\/b t = .any): Rel X N b H a w :=
 ⟨λt=>by rcases h t with e|e<;>rw[e];exact r.tm t;simp only[RV],r.hp,r.df,r.sz⟩
theorem AW.loop {G:Type}(I:G->Fr->Hp->Prop)(D:G->Nat)(R:G)(W:I R f H)
  (round:∀g f H,I g f H->AW P X N c (rY (λV H'=>∃O,I O V H'/\D O<D g) Q) f H):AW P X N (.loop c) Q f H:=λa w r=>by
 have M:∀n g C z B A,D g=n->I g C z->Rel X N C z B A->Ev (own H) w (own z) A->∀(b:Frame)(k:List Item) (cs:List Frame),
   ∃e a' w',aJ X N (own H) w Q e a' w'/\Arrives P (lone (b.at B (.code c::.inLoop c::k)) cs A) b k cs e a' w':=by
  intro n;induction n using Nat.strongRecOn with
  |_ n ih =>
   intro g C z B A hn Y Z t b k cs;obtain⟨e,p,y,⟨q,m,i,s,u⟩,h⟩:=round g C z Y B A Z b (.inLoop c::k) cs;cases e with
   |normal =>
    obtain⟨S,E,F⟩:=i;obtain⟨U,T,w3,J,j⟩:=ih (D S) (hn▸F) S q m p y rfl E s (t.trans u) b k cs;exact⟨U,T,w3,J,.of_steps (Steps.trans h (.one step_inLoop)) j⟩
   |exit id=>exact⟨_,p,y,⟨q,m,i,s,t.trans u⟩,.pass (x:=.inLoop c) rfl (λ_ _=>.inl (by simp)) h⟩
   |goto l=>exact⟨_,p,y,⟨q,m,i,s,t.trans u⟩,.pass (x:=.inLoop c) rfl (λ_ _=>.inl (by simp)) h⟩
   |ret=>exact⟨_,p,y,⟨q,m,i,s,t.trans u⟩,.pass (x:=.inLoop c) rfl (λ_ _=>.inl (by simp)) h⟩
   |panic ch=>exact⟨_,p,y,⟨q,m,i,s,t.trans u⟩,.pass (x:=.inLoop c) rfl (λ_ _=>.inl (by simp)) h⟩
   |outgrown=>exact⟨_,p,y,⟨q,m,i,s,t.trans u⟩,.pass (x:=.inLoop c) rfl (λ_ _=>.inl (by simp)) h⟩
 intro b k cs;obtain⟨e,a',w',i,h⟩:=M _ R f H a w rfl W r (Ev.refl _ _) b k cs;exact⟨e,a',w',i,.of_steps (.one step_loop) h⟩
theorem AW.wide{b:Fr}(h:∀t,b t=f t\/b t = .any)(k:AW P X N c Q b H): AW P X N c Q f H:=λa w r=>k a w (r.wide h)
end
def K1 (P:Program)(f:Nat)(l:List AV)(v:AV): Prop :=
 ∀(X:Nat->Prop) w cl,XOk X w->RL X w l cl->Calls P f cl.toArray w λe w'=>∃b,e = .returned b/\RV X w' v b/\Ev (λ_=>False) w (λ_=>False) w'
def frz (L:List Id)(H:Hp): Hp:=λi=>if i∈L then(H i).map λo=>{ o with fz:=true } else H i
def SV (H:Hp)(L:List Id)(a a':AV): Prop:=∀X w v,HOk X H w->RV (zp X H) w a v->RV (zp X (frz L H)) w a' v
def SVL (H:Hp)(L:List Id): List AV->List AV->Prop
 |[],l=>l = []
 |a::l,l'=>∃b r,l'=b::r/\SV H L a b/\SVL H L l r
theorem x7{b:Nat}(h:own (frz L H) b): own H b:=by
 obtain⟨i,o,g,k,j,m⟩:=h;unfold frz at g;split at g
 ·cases q:H i with
  |none=>rw[q] at g;cases g
  |some p=>rw[q] at g;simp at g;rw[<-g] at j;cases j
 ·exact⟨i,o,g,k,j,m⟩
theorem Ev.frz: Ev (own H) w (own (AM.frz L H)) w:=⟨rfl,rfl,rfl,Nat.le_refl _,λb _ h=>⟨λk=>h (x7 k),rfl⟩⟩
theorem RV.wide {X Y:Nat->Prop}{a:AV}{v:Value}(h:∀b,Y b->X b)(k:RV X w a v): RV Y w a v :=
 RV.mono ⟨rfl,rfl,rfl,Nat.le_refl _,λb _ q=>⟨λz=>q (h b z),rfl⟩⟩ _ _ k
theorem HOk.grown{H H':Hp}{w w':World}(h:HOk X H w)(k:Ev (λ_=>False) w (λ_=>False) w')
  (g:∀i o,H' i=some o->∃p,H i=some p/\p.b=o.b/\p.cap=o.cap/\p.sz=o.sz/\p.ty=o.ty/\p.rows=o.rows/\(o.fz=false->p.fz=false)):HOk X H' w':=by
 have u:∀b,own H' b->own H b:=λb ⟨i,o,k1,x,A,J⟩=>by
  obtain⟨p,t,n,m,_,_,_,E⟩:=g i o k1;exact⟨i,p,t,by rw[m];exact x,E A,by rw[n];exact J⟩
 have r:∀b,b<w.heap.size->w'.heap[b]?=w.heap[b]?:=λb hb=>(k.block b hb (by simp)).2;have s:Ev (zp X H) w (zp X H') w':=⟨k.os,k.tape,k.output,k.size,λb hb q=>⟨λz=>q (z.imp id (u b)),r b hb⟩⟩
 refine⟨λi o hi=>?_,λi o hi F=>?_,λi j o p hi G I hp e=>?_,λb hb=>Nat.lt_of_lt_of_le (h.xs b hb) k.size,h.gl.mono s⟩
 ·obtain⟨p,t,n,m,B,D,y,_⟩:=g i o hi;obtain⟨k1,x⟩:=h.ob i p t;refine⟨λe=>by rw[<-y];exact k1 (by rw[m,e]),λe=>?_⟩;obtain⟨c,C,R,S,T⟩:=x (by rw[m];exact e);have hb:=r p.b (Array.getElem?_eq_some_iff.1 C).1;refine⟨c,by rw[<-n,hb,<-D];exact C,by rw[<-m,<-B];exact R,by rw[<-y,<-m];exact S,?_⟩;rw[<-n,<-B,<-y];exact RR.mono s _ _ _ (λo cs=>tW hb) _ T
 ·obtain⟨p,t,n,m,_⟩:=g i o hi;rw[<-n];exact h.nx i p t (by rw[m];exact F)
 ·obtain⟨M,t,n,m,_⟩:=g i o hi;obtain⟨O,k1,x,A,_⟩:=g j p G;exact h.inj i j M O t k1 (by rw[m];exact I) (by rw[A];exact hp) (by rw[n,x,e])
theorem pD: ∀i o,frz L H i=some o->∃p,H i=some p/\p.b=o.b/\p.cap=o.cap/\p.sz=o.sz/\p.ty=o.ty/\p.rows=o.rows/\(o.fz=false->p.fz=false):=λi o hi=>by
 unfold frz at hi;split at hi
 ·cases q:H i with
  |none=>rw[q] at hi;cases hi
  |some p=>rw[q] at hi;simp at hi;subst hi;exact⟨p,rfl,rfl,rfl,rfl,rfl,rfl,λh=>by cases h⟩
 ·exact⟨o,hi,rfl,rfl,rfl,rfl,rfl,id⟩
theorem SVL.rl {X:Nat->Prop}{H:Hp}{L:List Id}{w:World}(g:HOk X H w): ∀ {l l':List AV} {cs:List Value},SVL H L l l'->RL (zp X H) w l cs->RL (zp X (frz L H)) w l' cs
 |[],l',cs,h,k=>by simp only[SVL] at h;subst h;simpa only[RL] using k
 |a::l,l',cs,h,k=>by
  simp only[SVL] at h;obtain⟨b,r,rfl,i,j⟩:=h;simp only[RL] at k ⊢;obtain⟨c,q,rfl,k1,m⟩:=k;exact⟨c,q,rfl,i X w c g k1,SVL.rl g j m⟩
theorem QV{f:Nat}{l l':List AV}(L:List Id)(m:K1 P f l' v)(hs:SVL H L l l')(k:K v (frz L H)): kW P f l H K:=λX w cl h hl=>by
 refine(m (zp X (frz L H)) w cl ⟨λb hb=>eR h (hb.imp id x7),h.gl.wide λb hb=>hb.imp id x7⟩ (hs.rl h hl)).mono λe w' ⟨i,j,k1,g⟩=>?_;exact⟨v,frz L H,i,k,j,k1,h.grown g pD,⟨g.os,g.tape,g.output,g.size,λb hb q=>⟨λz=>q (x7 z),(g.block b hb (by simp)).2⟩⟩⟩
def gH:AV->Bool
 |.int _ _|.bool _|.str _|.nilp|.nilf|.nils=>true
 |_=>false
def bV:AV->Bool
 |.agg l=>l.all gH
 |v=>gH v
def mu:AV->Bool
 |.tup l=>l.all bV
 |v=>bV v
theorem aP {X Y:Nat->Prop}{a:AV}{v:Value}(h:gH a=true)(k:RV X w a v): RV Y w a v:=by
 cases a<;>simp[gH] at h<;>simpa only[RV] using k
theorem RL.all {p:AV->Bool}{X Y:Nat->Prop}{w:World}(hp:∀a v,p a=true->RV X w a v->RV Y w a v): ∀ {l:List AV} {cs:List Value},l.all p=true->RL X w l cs->RL Y w l cs
 |[],cs,_,k=>by simpa only[RL] using k
 |a::l,cs,h,k=>by
  simp only[List.all_cons,Bool.and_eq_true] at h;simp only[RL] at k ⊢;obtain⟨c,r,rfl,k1,b⟩:=k;exact⟨c,r,rfl,hp _ _ h.1 k1,RL.all hp h.2 b⟩
theorem aQ {X Y:Nat->Prop}{a:AV}{v:Value}(h:bV a=true)(k:RV X w a v): RV Y w a v:=by
 cases a
 case agg l=>simp only[RV] at k ⊢;obtain⟨cs,e,k⟩:=k;exact⟨cs,e,RL.all (λ_ _=>aP) h k⟩
 all_goals exact aP h k
theorem Oj {X Y:Nat->Prop}{a:AV}{v:Value}(h:mu a=true)(k:RV X w a v): RV Y w a v:=by
 cases a
 case tup l=>simp only[RV] at k ⊢;obtain⟨cs,e,k⟩:=k;exact⟨cs,e,RL.all (λ_ _=>aQ) h k⟩
 all_goals exact aQ h k
theorem aS{f:Nat}{l l':List AV}(L:List Id)(p:K1 P f l' v)(hs:SVL H L l l')(r:mu v=true)(n:K v H): kW P f l H K:=λX w cl j hl=>by
 refine(p (zp X (frz L H)) w cl ⟨λb hb=>eR j (hb.imp id x7),j.gl.wide λb hb=>hb.imp id x7⟩ (hs.rl j hl)).mono λe w' ⟨k,m,k1,g⟩=>?_;exact⟨v,H,k,n,m,Oj r k1,j.grown g λi o h=>⟨o,h,rfl,rfl,rfl,rfl,rfl,id⟩,⟨g.os,g.tape,g.output,g.size,λb hb q=>⟨q,(g.block b hb (by simp)).2⟩⟩⟩
theorem SV.refl (H:Hp)(L:List Id)(a:AV): SV H L a a:=λX w v _ k=>k.wide λb q=>q.imp id x7
theorem SVL.refl (H:Hp)(L:List Id): ∀l,SVL H L l l
 |[]=>by simp[SVL]
 |a::l=>by simp only[SVL];exact⟨_,_,rfl,SV.refl H L a,SVL.refl H L l⟩
theorem sM (H:Hp): frz [] H=H:=by funext i;simp[frz]
theorem Mp{f:Nat}(g:K1 P f l v)(b:K v H): kW P f l H K :=
 QV [] g (SVL.refl _ _ _) (by rw[sM];exact b)
theorem SV.nil (H:Hp)(L:List Id)(sz:Nat): SV H L .nils (.vec sz []):=λX w v _ k=>by
 simp only[RV] at k ⊢;subst k;exact⟨none,0,rfl,Nat.le_refl _,by omega,λ_=>rfl,λp h _=>by cases h⟩
theorem Xn {X Y:Nat->Prop}{i:Id}{b sz n cap:Nat}{o:Ob}{v:Value}(r:HOk X H w)(hi:H i=some o)(hb:o.b=b)(u:o.cap=cap)(hs:o.sz=sz)(hn:n<=o.rows.length)
  (k:RV (zp X H) w (.sl i b sz n cap) v) (t:o.cap≠0->¬Y o.b) (s:∀b,Y b->zp X H b):RV Y w (.vec sz (o.rows.take n)) v:=by
 subst hb u hs;simp only[RV] at k ⊢;obtain⟨k1,x,a,rfl,m⟩:=k;have hl:(o.rows.take n).length=n:=by simp;omega
 rw[hl];refine⟨a,o.cap,rfl,k1,x,λe=>?_,λp e j=>?_⟩
 ·rcases m with rfl|m
  ·cases e
  ·exact m
 ·rcases m with rfl|m
  ·injection e with e;subst e;by_cases g:o.cap=0
   ·rw[(r.ob i o hi).1 g] at j;simp at j
   ·obtain⟨c,y,B,C,A⟩:=(r.ob i o hi).2 g;exact⟨o.b,0,rfl,(Array.getElem?_eq_some_iff.1 y).1,t g,RR.mono ⟨rfl,rfl,rfl,Nat.le_refl _,λb _ q=>⟨λz=>q (s b z),rfl⟩⟩ _ _ _ (λ_ _ h=>h) _ (A.take n)⟩
  ·rw[(r.ob i o hi).1 m] at j;simp at j
theorem QT {X Y:Nat->Prop}{i:Id}{b sz r n cap:Nat}{o:Ob}{v:Value}(t:HOk X H w)(hi:H i=some o)(hb:o.b=b)(hs:o.sz=sz)(hn:r+n<=o.rows.length)
  (k:RV (zp X H) w (.so i b sz r n cap) v) (x:o.cap≠0->¬Y o.b) (s:∀b,Y b->zp X H b):RV Y w (.vec sz ((o.rows.drop r).take n)) v:=by
 subst hb hs;simp only[RV] at k ⊢;obtain⟨k1,A,a,rfl,m⟩:=k;have hl:((o.rows.drop r).take n).length=n:=by simp;omega
 rw[hl];refine⟨a,cap,rfl,k1,A,λe=>?_,λp e j=>?_⟩
 ·rcases m with rfl|m
  ·cases e
  ·exact m
 ·have y:n≠0:=λe=>j (by rw[e];simp);rcases m with rfl|m
  ·injection e with e;subst e;by_cases g:o.cap=0
   ·rw[(t.ob i o hi).1 g] at j;simp at j
   ·obtain⟨c,B,D,E,C⟩:=(t.ob i o hi).2 g;have u:=(C.drop r (by omega)).take n;rw[Nat.zero_add] at u;exact⟨o.b,_,rfl,(Array.getElem?_eq_some_iff.1 B).1,x g,RR.mono ⟨rfl,rfl,rfl,Nat.le_refl _,λb _ q=>⟨λz=>q (s b z),rfl⟩⟩ _ _ _ (λ_ _ h=>h) _ u⟩
  ·omega
mutual
def yK (H:Hp)(E:List Id): AV->AV->Prop
 |.sl i b sz n cap,v=>(match v with
  |.vec sz' rows=>i∉E/\(match H i with
   |some o=>o.b=b/\o.cap=cap/\o.sz=sz/\sz'=sz/\n<=o.rows.length/\o.rows.take n=rows
   |none=>False)
  |.sl i' b' sz' n' cap'=>i=i'/\b=b'/\sz=sz'/\n=n'/\cap=cap'
  |_=>False)
 |.so i b sz r n cap,v=>(match v with
  |.vec sz' rows=>i∉E/\(match H i with
   |some o=>o.b=b/\o.sz=sz/\sz'=sz/\r+n<=o.rows.length/\(o.rows.drop r).take n=rows
   |none=>False)
  |.so i' b' sz' r' n' cap'=>i=i'/\b=b'/\sz=sz'/\r=r'/\n=n'/\cap=cap'
  |_=>False)
 |.nils,v=>(match v with|.vec _ rows=>rows = []|.nils=>True|_=>False)
 |.agg l,v=>(match v with|.agg l'=>tR H E l l'|_=>False)
 |.tup l,v=>(match v with|.tup l'=>tR H E l l'|_=>False)
 |a,v=>a=v
def tR (H:Hp)(E:List Id): List AV->List AV->Prop
 |[],l=>l = []
 |a::l,l'=>(match l' with|b::r=>yK H E a b/\tR H E l r|[]=>False)
end
def lK (X:Nat->Prop)(H:Hp)(E:List Id)(z:Nat): Prop:=X z\/∃i o,i∈E/\H i=some o/\o.cap≠0/\o.fz=false/\o.b=z
theorem yQ{E:List Id}{z:Nat}(h:lK X H E z): zp X H z:=h.imp id fun ⟨i,o,_,k⟩=>⟨i,o,k⟩
mutual
theorem sN {X:Nat->Prop}{H:Hp}{E:List Id}{w:World}(g:HOk X H w): ∀ {a v:AV} {u:Value},yK H E a v->RV (zp X H) w a u->RV (lK X H E) w v u
 |.sl i b sz n cap,v,u,h,k=>by
  simp only[yK] at h;split at h
  ·obtain⟨z,h⟩:=h;split at h
   ·rename_i o m;obtain⟨t,F,x,rfl,y,rfl⟩:=h;refine Xn g m t F x y k (λs q=>?_) (λb q=>yQ q);rcases q with q|⟨j,p,A,B,C,G,D⟩
    ·exact g.nx i o m s q
    ·have:=g.inj j i p o B m C s D
     subst this;exact z A
   ·exact h.elim
  ·obtain⟨rfl,rfl,rfl,rfl,rfl⟩:=h;simpa only[RV] using k
  ·exact h.elim
 |.so i b sz r n cap,v,u,h,k=>by
  simp only[yK] at h;split at h
  ·obtain⟨z,h⟩:=h;split at h
   ·rename_i o m;obtain⟨t,x,rfl,y,rfl⟩:=h;refine QT g m t x y k (λs q=>?_) (λb q=>yQ q);rcases q with q|⟨j,p,A,B,C,G,D⟩
    ·exact g.nx i o m s q
    ·have:=g.inj j i p o B m C s D
     subst this;exact z A
   ·exact h.elim
  ·obtain⟨rfl,rfl,rfl,rfl,rfl,rfl⟩:=h;simpa only[RV] using k
  ·exact h.elim
 |.nils,v,u,h,k=>by
  simp only[yK] at h;split at h
  ·subst h;simp only[RV] at k ⊢;subst k;exact⟨none,0,rfl,Nat.le_refl _,by omega,λ_=>rfl,λp h _=>by cases h⟩
  ·simpa only[RV] using k
  ·exact h.elim
 |.agg l,v,u,h,k=>by
  simp only[yK] at h;split at h
  ·simp only[RV] at k ⊢;obtain⟨cs,e,k⟩:=k;exact⟨cs,e,kX g h k⟩
  ·exact h.elim
 |.tup l,v,u,h,k=>by
  simp only[yK] at h;split at h
  ·simp only[RV] at k ⊢;obtain⟨cs,e,k⟩:=k;exact⟨cs,e,kX g h k⟩
  ·exact h.elim
 |.int _ _,v,u,h,k=>by simp only[yK] at h;subst h;exact k.wide λb q=>yQ q
 |.bool _,v,u,h,k=>by simp only[yK] at h;subst h;exact k.wide λb q=>yQ q
 |.str _,v,u,h,k=>by simp only[yK] at h;subst h;exact k.wide λb q=>yQ q
 |.nilp,v,u,h,k=>by simp only[yK] at h;subst h;exact k.wide λb q=>yQ q
 |.nilf,v,u,h,k=>by simp only[yK] at h;subst h;exact k.wide λb q=>yQ q
 |.vec _ _,v,u,h,k=>by simp only[yK] at h;subst h;exact k.wide λb q=>yQ q
 |.nv _ _,v,u,h,k=>by simp only[yK] at h;subst h;exact k.wide λb q=>yQ q
 |.ptr _ _ _ _ _,v,u,h,k=>by simp only[yK] at h;subst h;exact k.wide λb q=>yQ q
 |.rp _,v,u,h,k=>by simp only[yK] at h;subst h;exact k.wide λb q=>yQ q
 |.fn _ _,v,u,h,k=>by simp only[yK] at h;subst h;exact k.wide λb q=>yQ q
 |.bm _ _,v,u,h,k=>by simp only[yK] at h;subst h;exact k.wide λb q=>yQ q
 |.any,v,u,h,k=>by simp only[yK] at h;subst h;exact k.wide λb q=>yQ q
theorem kX {X:Nat->Prop}{H:Hp}{E:List Id}{w:World}(b:HOk X H w): ∀ {l l':List AV} {cs:List Value},tR H E l l'->RL (zp X H) w l cs->RL (lK X H E) w l' cs
 |[],l',cs,h,k=>by simp only[tR] at h;subst h;simpa only[RL] using k
 |a::l,l',cs,h,k=>by
  simp only[tR] at h;split at h
  ·simp only[RL] at k ⊢;obtain⟨c,r,rfl,k1,g⟩:=k;exact⟨c,r,rfl,sN b h.1 k1,kX b h.2 g⟩
  ·exact h.elim
end
theorem vP {X Y:Nat->Prop}(h:∀b,Y b->X b){cs:List Value}(k:RL X w l cs): RL Y w l cs :=
 RL.mono ⟨rfl,rfl,rfl,Nat.le_refl _,λb _ q=>⟨λz=>q (h b z),rfl⟩⟩ _ _ k
def ib (P:Program)(f:Fr)(H:Hp): ResultVar->Option AV
 |.tmp t=>some (f t)
 |.cell a t=>match xS H (f a),rZ P t,xN P t with
  |some l,some true,some n=>if n<=l.length then some (.agg (l.take n)) else none
  |some (v::_),some false,_=>some v
  |_,_,_=>none
def vy (P:Program)(f:Fr)(H:Hp): List ResultVar->Option (List AV)
 |[]=>some []
 |x::l=>match ib P f H x,vy P f H l with
  |some v,some r=>some (v::r)
  |_,_=>none
def vI:List AV->AV
 |[v]=>v
 |l=>.tup l
def eU (P:Program)(rs:List ResultVar)(v:AV): AQ
 |.ret,f,H|.normal,f,H=>(match vy P f H rs with|some l=>yK H [] (vI l) v|none=>False)
 |_,_,_=>False
def aT (tmps:Array Value): ResultVar->Sem Value
 |.tmp t=>pure (tmps.getD t undef)
 |.cell a t=>do loadVar t (<-asAddr (tmps.getD a undef))
theorem VR (fn:Func)(tmps:Array Value): results fn tmps=(do
  let vs <-fn.results.mapM (aT tmps)
  pure (if h:vs.size=1 then vs[0] else .tuple vs)):=rfl
theorem Ol(r:Rel X N f H a w){x:ResultVar}(h:ib P f H x=some v):
  ∃u,(aT a.tmps x).run P w = .ok u w/\RV (zp X H) w v u:=by
 cases x with
 |tmp t=>simp only[ib] at h;injection h with h;subst h;exact⟨_,rfl,r.tm t⟩
 |cell q t =>
  have i:=r.tm q;have k:∀l,xS H (f q)=some l->(tj P t l).Ok P X H w ((do let v <-loadVar t (<-asAddr (a.tmps.getD q undef));pure (Next.value v):Sem Next).run P w):=λl hl=>by
   have:=aL (P:=P) (t:=t) r.hp i rfl
   unfold yT at this;rw[hl] at this;have e:∀z:Value,(∃a,z = .pointer (some a))->(do let v <-loadVar t (<-asAddr z);pure (Next.value v):Sem Next).run P w=(do let z <-Instr.loadAt t z;pure (Next.value z):Sem Next).run P w:=by
    rintro _ ⟨a,rfl⟩;simp[Instr.loadAt,Instr.sureAddr,asAddr]
   rw[e]
   ·exact this
   ·cases y:f q<;>rw[y] at hl i<;>simp only[xS] at hl<;>try(cases hl;done)
    ·simp only[RV] at i;exact⟨_,i⟩
    ·simp only[RV] at i;obtain⟨b,o,cs,e,_⟩:=i;exact⟨_,e⟩
  have j:∀ {e:AV} {s:Sem Value},(∃m,(do let v <-s;pure (Next.value v):Sem Next).run P w = .ok (.value m) w/\RV (zp X H) w e m)->∃u,s.run P w = .ok u w/\RV (zp X H) w e u:=by
   rintro e s ⟨m,k1,A⟩;simp only[Sem.run_bind] at k1;cases hs:s.run P w with
   |ok u w'=>rw[hs] at k1;simp at k1;obtain⟨rfl,rfl⟩:=k1;exact⟨u,rfl,A⟩
   |halt _ _=>rw[hs] at k1;simp[Result.andThen] at k1
  simp only[ib] at h;split at h
  ·rename_i l n hl g p;split at h
   ·rename_i hn;injection h with h;subst h;have:=k _ hl
    unfold tj at this;rw[g,p] at this;refine j ?_;simpa[Eff.Ok,aT,Sem.run_bind,bind_assoc] using this hn
   ·cases h
  ·rename_i u l hl g;injection h with h;subst h;have:=k _ hl
   unfold tj at this;rw[g] at this;refine j ?_;simpa[Eff.Ok,aT,Sem.run_bind,bind_assoc] using this
  ·cases h
theorem WB {P:Program}{X:Nat->Prop}{N:Nat}{f:Fr}{H:Hp}{a:Act}{w:World}(r:Rel X N f H a w): ∀ {rs:List ResultVar} {l:List AV},vy P f H rs=some l ->
  ∃us,(rs.mapM (aT a.tmps)).run P w = .ok us w/\RL (zp X H) w l us
 |[],l,h=>by simp only[vy] at h;injection h with h;subst h;exact⟨[],rfl,by simp[RL]⟩
 |x::rs,l,h=>by
  simp only[vy] at h;split at h
  ·rename_i v q b g;injection h with h;subst h;obtain⟨u,k1,i⟩:=Ol r b;obtain⟨us,j,k⟩:=WB r g;refine⟨u::us,?_,by simp only[RL];exact⟨u,us,rfl,i,k⟩⟩;rw[List.mapM_cons];simp only[Sem.run_bind,k1,Result.andThen_ok,j,Sem.run_pure]
  ·cases h
def fr0:Nat->List AV->Fr
 |_,[]=>λ_=>.any
 |k,a::l=>xb (fr0 (k+1) l) k a
theorem WC:∀(l:List AV)(k t:Nat),fr0 k l t=if k<=t then(l[t-k]?).getD .any else .any
 |[],k,t=>by simp[fr0]
 |a::l,k,t=>by
  simp only[fr0,xb];split
  ·rename_i e;subst e;simp
  ·rw[WC l (k+1) t];by_cases h:k+1<=t
   ·rw[if_pos h,if_pos (by omega),show t-k=(t-(k+1))+1 by omega];simp
   ·rw[if_neg h,if_neg (by omega)]
theorem ph(r:Rel X N f H a w)(j:fn.results.toList=rs)(hl:vy P f H rs=some l):
  ∃u,(results fn a.tmps).run P w = .ok u w/\RV (zp X H) w (vI l) u:=by
 obtain⟨us,m,b⟩:=WB r hl;have g:=b.length;refine⟨if h:us.length=1 then us[0] else .tuple us.toArray,?_,?_⟩
 ·rw[VR,Array.mapM_eq_mapM_toList,j];simp only[Sem.run_bind,Sem.run_map,m,Result.andThen_ok,Sem.run_pure];simp
 ·match l,us,b,g with
  |[x],[u],b,_=>simp only[RL] at b;obtain⟨c,r,e,k,_⟩:=b;injection e with i n;subst i;simpa[vI] using k
  |[],[],b,_=>simp[vI,RV,RL]
  |x::y::z,u1::u2::u3,b,_=>simp only[vI,RV];exact⟨_,by simp,b⟩
theorem gI{f:Nat}{cl:List Value}{Q:AQ}{R:Ending->World->Prop}(r:P.funcs[f]?=some fn)(hb:fn.body=some c)(x:fn.ntmps=N)(hl:l.length<=N)
  (n:HOk X H w) (b:RL (zp X H) w l cl) (h:AW P X N c Q (fr0 0 l) H)
  (p:∀e g H' a' w',Q e g H'->Rel X N g H' a' w'->Ev (own H) w (own H') w'->bodyPost P fn R e a' w'):Calls P f cl.toArray w R:=by
 have m:=b.length;refine calls_of_wp r hb (wp_mono (h _ w ⟨λt=>?_,n,rfl,by simp;omega⟩) λe a' w' ⟨g,H',q,u,ev⟩=>p e g H' a' w' q u ev);rw[WC];simp only[Nat.zero_le,if_true,Nat.sub_zero];cases i:l[t]? with
 |none=>simp only[Option.getD_none,RV]
 |some a =>
  obtain⟨c,k,s⟩:=b.get i;have j:=(List.getElem?_eq_some_iff.1 k).1;have e:(cl.toArray++Array.replicate (fn.ntmps-cl.toArray.size) undef).getD t undef=c:=by
   rw[Array.getD_eq_getD_getElem?,Array.getElem?_append_left (by simpa using j)];simp[k]
  rw[e];exact s
theorem uG {b:Nat}: ¬own (λ_=>none) b:=by rintro⟨i,o,h,_⟩;cases h
theorem gD(g:XOk X w): HOk X (λ_=>none) w:=⟨λi o h=>(by cases h),λi o h=>(by cases h),λi j o p h=>(by cases h),g.1,g.2.wide λb q=>q.resolve_right uG⟩
theorem K1.enter{f:Nat}(s:P.funcs[f]?=some fn)(hb:fn.body=some c)(p:fn.ntmps=N)(t:fn.results.toList=rs)(hl:l.length<=N)
  (h:∀X,AW P X N c (eU P rs v) (fr0 0 l) (λ_=>none)):K1 P f l v:=λX w cl r i=>by
 refine gI s hb p hl (gD r) (vP (λb q=>q.resolve_right uG) i) (h X) λe n H' a' w' q k ev=>?_;have g:(match vy P n H' rs with|some l=>yK H' [] (vI l) v|none=>False)->bodyPost P fn (λe w'=>∃m,e = .returned m/\RV X w' v m/\Ev (λ_=>False) w (λ_=>False) w') .ret a' w':=λq=>by
  split at q
  ·rename_i z j;obtain⟨u,x,y⟩:=ph k t j;refine⟨k.df,u,x,u,rfl,(sN k.hp q y).wide λb q=>Or.inl q,?_⟩;exact⟨ev.os,ev.tape,ev.output,ev.size,λb hb _=>⟨id,(ev.block b hb uG).2⟩⟩
  ·exact q.elim
 cases e with
 |ret=>exact g q
 |normal=>exact g q
 |_=>exact q.elim
def sv (H:Hp)(L:List Id)(a a':AV): Prop :=
 a=a'\/(a = .nils/\∃sz,a' = .vec sz [])\/∃i b sz n cap o,a = .sl i b sz n cap/\H i=some o/\o.b=b/\o.cap=cap/\o.sz=sz/\n<=o.rows.length/\(i∈L\/o.fz=true)/\a' = .vec sz (o.rows.take n)
theorem bW{a a':AV}(h:sv H L a a'): SV H L a a':=by
 rcases h with rfl|⟨rfl,sz,rfl⟩|⟨i,b,sz,n,cap,o,rfl,m,x,y,z,A,g,rfl⟩
 ·exact SV.refl _ _ _
 ·exact SV.nil _ _ _
 ·intro X w v s k;refine Xn s m x y z A k (λu q=>?_) (λb q=>q.imp id x7);rcases q with q|⟨j,p,k1,B,t,C⟩
  ·exact s.nx i o m u q
  ·obtain⟨D,r,E,F,_,_,_,G⟩:=pD j p k1;have e:=s.inj j i D o r m (by rw[F];exact B) u (by rw[E,C]);subst e;rw[m] at r;injection r with r;subst r;rcases g with g|g
   ·unfold frz at k1;rw[if_pos g,m] at k1;simp at k1;rw[<-k1] at t;cases t
   ·rw[G t] at g;cases g
def svl (H:Hp)(L:List Id): List AV->List AV->Prop
 |[],l=>l = []
 |a::l,l'=>∃b r,l'=b::r/\sv H L a b/\svl H L l r
theorem pE {H:Hp}{L:List Id}: ∀ {l l':List AV},svl H L l l'->SVL H L l l'
 |[],l',h=>by simpa only[svl,SVL] using h
 |a::l,l',h=>by simp only[svl,SVL] at *;obtain⟨b,r,e,g,i⟩:=h;exact⟨b,r,e,bW g,pE i⟩
theorem svl.refl (H:Hp)(L:List Id): ∀l,svl H L l l
 |[]=>by simp[svl]
 |a::l=>by simp only[svl];exact⟨_,_,rfl,Or.inl rfl,svl.refl H L l⟩
def HLe (H H':Hp): Prop:=∀i o,H i=some o->H' i=some o
theorem HLe.set{i:Id}(h:H i=none)(o:Ob): HLe H (ze H i o):=λj p b=>by
 unfold ze;split
 ·rename_i e;subst e;rw[h] at b;cases b
 ·exact b
theorem svl.le {H H':Hp}{L:List Id}(h:HLe H H'): ∀ {l l':List AV},svl H L l l'->svl H' L l l'
 |[],l',k=>by simpa only[svl] using k
 |a::l,l',k=>by
  simp only[svl] at *;obtain⟨b,r,e,g,j⟩:=k;refine⟨b,r,e,?_,svl.le h j⟩;rcases g with g|g|⟨i,b,sz,n,cap,o,k1,m,p⟩
  ·exact Or.inl g
  ·exact Or.inr (Or.inl g)
  ·exact Or.inr (Or.inr ⟨i,b,sz,n,cap,o,k1,h _ _ m,p⟩)
def gJ (P:Program)(f:Nat)(l:List AV)(H:Hp)(v:AV): Prop:=∃L l',K1 P f l' v/\svl H L l l'/\(L = []\/mu v=true)
theorem gJ.s{f:Nat}(h:gJ P f l H v)(k:K v H): kW P f l H K:=by
 obtain⟨L,l',g,i,b⟩:=h;rcases b with rfl|b
 ·exact QV [] g (pE i) (by rw[sM];exact k)
 ·exact aS L g (pE i) b k
def Eff.Y (P:Program)(H:Hp): Eff->AV->Prop
 |.req c e,u=>c/\e.Y P H u
 |.val v,u=>u=v
 |.row l i k,u=>∃r,l[i]?=some r/\u=k r
 |.call f l,u=>gJ P f l H u
 |_,_=>False
def Eff.Mk:Eff->Id->(Nat->Nat->Ob)->(Nat->Nat->AV)->Prop
 |.req c e,i,o,v=>c/\e.Mk i o v
 |.mk i o v,i',o',v'=>i'=i/\o'=o/\v'=v
 |.wr i o v,i',o',v'=>i'=i/\o'=(λ_ _=>o)/\v'=λ_ _=>v
 |_,_,_,_=>False
def Eff.sd (P:Program)(e:Eff)(H:Hp)(K:AV->Hp->Prop): Prop :=
 (∃u,e.Y P H u/\K u H)\/∃i o v,e.Mk i o v/\∀b c,K (v b c) (ze H i (o b c))
theorem Rh: ∀ {e:Eff},e.sd P H K->e.st P H K:=by
 intro e;induction e with
 |no=>rintro(⟨u,h,_⟩|⟨i,o,v,h,_⟩)<;>exact h
 |req c e ih =>
  rintro(⟨u,⟨b,g⟩,k⟩|⟨i,o,v,⟨b,g⟩,k⟩)
  ·exact⟨b,ih (Or.inl ⟨u,g,k⟩)⟩
  ·exact⟨b,ih (Or.inr ⟨i,o,v,g,k⟩)⟩
 |val v =>
  rintro(⟨u,h,k⟩|⟨i,o,v,h,_⟩)
  ·simp only[Eff.Y] at h;subst h;exact k
  ·exact h.elim
 |row l i q =>
  rintro(⟨u,⟨r,b,rfl⟩,k⟩|⟨i,o,v,h,_⟩)
  ·exact⟨r,b,k⟩
  ·exact h.elim
 |wr i o v =>
  rintro(⟨u,h,_⟩|⟨j,m,v',⟨rfl,rfl,rfl⟩,k⟩)
  ·exact h.elim
  ·exact k 0 0
 |mk i o v =>
  rintro(⟨u,h,_⟩|⟨j,m,v',⟨rfl,rfl,rfl⟩,k⟩)
  ·exact h.elim
  ·exact k
 |call f l =>
  rintro(⟨u,h,k⟩|⟨i,o,v,h,_⟩)
  ·exact gJ.s h k
  ·exact h.elim
theorem W8{K m:AV->Hp->Prop}(h:e.sd P H K)(k:∀v H,K v H->m v H): e.sd P H m:=by
 rcases h with⟨u,g,j⟩|⟨i,o,v,g,j⟩
 ·exact Or.inl ⟨u,g,k _ _ j⟩
 ·exact Or.inr ⟨i,o,v,g,λb c=>k _ _ (j b c)⟩
def yj (f:Fr)(o:Oper): List AV:=o.op.operands.toList.map (ev f)
def zw (P:Program)(o:Oper)(f:Fr)(H:Hp): Eff:=z8 P (o.dst.getD 0) H o.op (yj f o)
def AD (P:Program)(ops:Array Oper)(o:Oper)(f:Fr)(H:Hp)(K:Fr->Hp->Prop): Prop:=match gd ops f o with
 |some g=>(g=true->(zw P o f H).sd P H (qF f o.dst K))/\(g=false->K (zl f o.dst nul) H)
 |none=>False
theorem AD.as{K:Fr->Hp->Prop}(h:AD P ops o f H K): AS P ops o f H K:=by
 unfold AD at h;unfold AS;split<;>rename_i b<;>rw[b] at h
 ·exact⟨λe=>Rh (h.1 e),h.2⟩
 ·exact h
theorem AD.mono{K b:Fr->Hp->Prop}(h:AD P ops o f H K)(k:∀f H,K f H->b f H): AD P ops o f H b:=by
 unfold AD at *;split<;>rename_i g<;>rw[g] at h
 ·exact⟨λe=>W8 (h.1 e) λv H=>k _ _,λe=>k _ _ (h.2 e)⟩
 ·exact h
def zm:Op->Nat
 |.move _|.assign _|.pick ..|.binOp ..|.unOp ..|.nilCheck _|.fieldAddr ..|.field ..|.indexAddr ..|.index ..|.extract ..|.build ..|.slice ..|.convert ..|.makeFunc ..=>0
 |.load ..=>1
 |.box ..|.alloc ..|.buildSlice ..|.makeSlice ..=>2
 |.store ..=>4
 |.call c=>(match c.callee with|.value _=>3|.builtin .append=>4|.builtin .len=>0|.builtin .max=>0|.builtin .min=>0|_=>5)
 |_=>5
def ic:Nat->Nat->Bool
 |0,b=>decide (b<=4)
 |1,b=>decide (b<=3)
 |2,b=>decide (b<=2)
 |3,b=>decide (b<=2)
 |4,b=>b==0
 |_,_=>false
theorem qG{H H':Hp}(l:List AV)(h:zm op=0): z8 P d H op l=z8 P d H' op l:=by
 cases op
 case call c =>
  obtain⟨callee,args,ts⟩:=c;cases callee
  case builtin b=>cases b<;>first|(simp[zm] at h;done)|rfl
  all_goals first|(simp[zm] at h;done)|rfl
 all_goals first|(simp[zm] at h;done)|rfl
theorem aU{H H':Hp}{u:AV}(h:zm op=0\/zm op=1\/zm op=3)(hle:HLe H H')(k:(z8 P d H op l).Y P H u): (z8 P d H' op l).Y P H' u:=by
 have g:∀e:Eff,e.Y P H u->e.Y P H' u:=by
  intro e;induction e with
  |req c e ih=>exact λh=>⟨h.1,ih h.2⟩
  |call f l=>rintro⟨L,l',j,m,n⟩;exact⟨L,l',j,m.le hle,n⟩
  |_=>exact id
 rcases h with h|h|h
 ·rw[qG (H':=H') l h] at k;exact g _ k
 ·cases op<;>simp[zm] at h
  ·rename_i t x;match l,k with
   |[p],k =>
    show(yT P t H' p).Y P H' u;have k':(yT P t H p).Y P H u:=k;unfold yT at *;split at k'
    ·rename_i q i;have:xS H' p=some q:=by
      cases p<;>simp only[xS] at i ⊢<;>try exact i
      split at i
      ·rename_i o r;rw[hle _ _ r];exact i
      ·cases i
     rw[this];exact g _ k'
    ·exact k'.elim
   |[],k=>exact k.elim
   |_::_::_,k=>exact k.elim
  ·rename_i c;obtain⟨callee,args,ts⟩:=c;cases callee<;>simp at h;rename_i b;cases b<;>simp at h
 ·cases op<;>simp[zm] at h;rename_i c;obtain⟨callee,args,ts⟩:=c;cases callee<;>simp at h
  ·exact g _ k
  ·rename_i b;cases b<;>simp at h
theorem wN(h:zm op=2):
  (∀u,¬(z8 P d H op l).Y P H u)/\∀i o v,(z8 P d H op l).Mk i o v->i = .l d/\(∀b c,(o b c).b=b)/\H (.l d)=none/\∀H':Hp,H' (.l d)=none->(z8 P d H' op l).Mk i o v:=by
 have box:∀t v,(∀u,¬(ni d H t v).Y P H u)/\∀i o v',(ni d H t v).Mk i o v'->i = .l d/\(∀b c,(o b c).b=b)/\H (.l d)=none/\∀H':Hp,H' (.l d)=none->(ni d H' t v).Mk i o v':=λt v=>by
  unfold ni;cases yo v with
  |none=>exact⟨λu h=>h,λi o v h=>h.elim⟩
  |some c=>exact⟨λu h=>h.2,λi o v h=>⟨h.2.1,λb c=>by rw[h.2.2.1],h.1,λH' hn=>⟨hn,h.2⟩⟩⟩
 cases op<;>simp[zm] at h
 ·rename_i t;match l with
  |[] =>
   show(∀u,¬(sU P d H t).Y P H u)/\∀i o v,(sU P d H t).Mk i o v->_/\_/\_/\∀H':Hp,_->(sU P d H' t).Mk i o v;unfold sU;cases vq P t with
   |none=>exact⟨λu h=>h,λi o v h=>h.elim⟩
   |some z=>exact box _ _
  |_::_=>exact⟨λu h=>h,λi o v h=>h.elim⟩
 ·rename_i t x;match l with
  |[v]=>exact box t v
  |[]=>exact⟨λu h=>h,λi o v h=>h.elim⟩
  |_::_::_=>exact⟨λu h=>h,λi o v h=>h.elim⟩
 ·rename_i t n g;show(∀u,¬(tJ P d H t n _).Y P H u)/\∀i o v,(tJ P d H t n _).Mk i o v->_/\_/\_/\∀H':Hp,_->(tJ P d H' t n _).Mk i o v;unfold tJ;split<;>try exact⟨λu h=>h,λi o v h=>h.elim⟩
  split<;>try exact⟨λu h=>h,λi o v h=>h.elim⟩
  split<;>try exact⟨λu h=>h,λi o v h=>h.elim⟩
  exact⟨λu h=>h.2,λi o v h=>⟨h.2.1,λb c=>by rw[h.2.2.1],h.1.1,λH' hn=>⟨⟨hn,h.1.2⟩,h.2⟩⟩⟩
 ·rename_i t x y;match l with
  |[]=>exact⟨λu h=>h,λi o v h=>h.elim⟩
  |[_]=>exact⟨λu h=>h,λi o v h=>h.elim⟩
  |_::_::_::_=>exact⟨λu h=>h,λi o v h=>h.elim⟩
  |[a,b] =>
  show(∀u,¬(amk P d H t a b).Y P H u)/\∀i o v,(amk P d H t a b).Mk i o v->_/\_/\_/\∀H':Hp,_->(amk P d H' t a b).Mk i o v;unfold amk;split<;>try exact⟨λu h=>h,λi o v h=>h.elim⟩
  unfold kV;split<;>try exact⟨λu h=>h,λi o v h=>h.elim⟩
  split<;>try exact⟨λu h=>h,λi o v h=>h.elim⟩
  exact⟨λu h=>h.2,λi o v h=>⟨h.2.1,λb c=>by rw[h.2.2.1],h.1.1,λH' hn=>⟨⟨hn,h.1.2⟩,h.2⟩⟩⟩
 ·rename_i c;obtain⟨callee,args,ts⟩:=c;cases callee<;>simp at h;rename_i b;cases b<;>simp at h
def NM:Eff->Prop
 |.req _ e=>NM e
 |.val _|.row _ _ _|.no=>True
 |_=>False
theorem NM.no:NM .no:=trivial
theorem NM.val (v:AV): NM (.val v):=trivial
theorem NM.row (l i v): NM (.row l i v):=trivial
theorem NM.req(c:Prop)(h:NM e): NM (.req c e):=h
theorem Om (P:Program)(t:TypeId)(op:BinOp)(x y:AV): NM (tQ P t op x y):=by
 unfold tQ qb;(repeat' split)<;>first|exact NM.no|exact NM.val _|exact NM.req _ (NM.val _)
theorem Mq (op:UnOp)(x:AV): NM (aun op x):=by
 unfold aun qb;(repeat' split)<;>first|exact NM.no|exact NM.val _
theorem eV (P:Program)(t:TypeId)(l:List AV): NM (tj P t l):=by
 unfold tj;(repeat' split)<;>first|exact NM.no|exact NM.val _|exact NM.req _ (NM.val _)
theorem cG (P:Program)(t:TypeId)(k:Nat)(p:AV): NM (t7 P t k p):=by
 unfold t7;(repeat' split)<;>first|exact NM.no|exact NM.val _|exact eV _ _ _
theorem cH (P:Program)(t:TypeId)(x:AV)(i:Int): NM (vH P t x i):=by
 unfold vH;(repeat' split)<;>first|exact NM.no|exact NM.req _ (NM.val _)|exact NM.req _ (NM.row _ _ _)|exact NM.req _ (eV _ _ _)
theorem Tj (P:Program)(t:TypeId)(b:List (Nat×AV)): NM (pR P t b):=by
 unfold pR;(repeat' split)<;>first|exact NM.no|exact NM.val _
theorem Tk (P:Program)(t:TypeId)(x:AV)(lo hi:Option Int): NM (t8 P t x lo hi):=by
 unfold t8;(repeat' split)<;>first|exact NM.no|exact NM.req _ (NM.val _)
theorem On (P:Program)(t:TypeId)(x:AV)(hi mx:Option Int): NM (nj P t x hi mx):=by
 unfold nj;(repeat' split)<;>first|exact NM.no|exact NM.req _ (NM.val _)
theorem Oo (P:Program)(t:TypeId)(x:AV): NM (eT P t x):=by
 unfold eT;(repeat' split)<;>first|exact NM.no|exact NM.val _
theorem NM.on1 {k:AV->Eff}(h:∀a,NM (k a))(l:List AV): NM (AM.on1 k l):=by
 unfold AM.on1;split<;>first|exact h _|exact NM.no
theorem NM.on2 {k:AV->AV->Eff}(h:∀a b,NM (k a b))(l:List AV): NM (AM.on2 k l):=by
 unfold AM.on2;split<;>first|exact h _ _|exact NM.no
theorem NM.on3 {k:AV->AV->AV->Eff}(h:∀a b c,NM (k a b c))(l:List AV): NM (AM.on3 k l):=by
 unfold AM.on3;split<;>first|exact h _ _ _|exact NM.no
theorem wt(h:zm op=0\/zm op=1): NM (z8 P d H op l):=by
 cases op with
 |move x=>exact NM.on1 NM.val l
 |assign x=>exact NM.on1 NM.val l
 |pick c a b=>exact NM.on3 (λa b c=>by unfold mt;split<;>first|exact NM.val _|exact NM.no) l
 |binOp op t x y u=>exact NM.on2 (Om P t op) l
 |unOp op t x=>exact NM.on1 (Mq op) l
 |load t x=>exact NM.on1 (λp=>by unfold yT;split<;>first|exact eV _ _ _|exact NM.no) l
 |nilCheck x=>exact NM.on1 (λp=>by unfold Ro;split<;>first|exact NM.val _|exact NM.no) l
 |fieldAddr t x k=>exact NM.on1 (λp=>by unfold afa;split<;>first|exact cG _ _ _ _|exact NM.no) l
 |field t x k=>exact NM.on1 (λp=>by unfold afi;split<;>first|exact cG _ _ _ _|exact NM.no) l
 |indexAddr t x y=>exact NM.on2 (λp q=>by unfold aia;(repeat' split)<;>first|exact cH _ _ _ _|exact NM.no) l
 |index t x y=>exact NM.on2 (λp q=>by unfold aix;(repeat' split)<;>first|exact cH _ _ _ _|exact NM.no) l
 |extract x k=>exact NM.on1 (λp=>by unfold aex;(repeat' split)<;>first|exact NM.val _|exact NM.no) l
 |build t ps=>exact Tj _ _ _
 |slice t x lo hi mx=>show NM (aM P t lo hi mx l);unfold aM sV;(repeat' split)<;>first|exact Tk _ _ _ _ _|exact On _ _ _ _ _|exact NM.no
 |convert s t x=>exact NM.on1 (λp=>by unfold acv;(repeat' split)<;>first|exact NM.val _|exact NM.no) l
 |makeFunc f first cap=>cases f<;>first|exact NM.no|(simp only[z8];(repeat' split)<;>first|exact NM.val _|exact NM.no)
 |call c =>
  obtain⟨callee,args,ts⟩:=c;cases callee with
  |invoke r m=>exact NM.no
  |value fx=>simp[zm] at h
  |builtin b =>
   show NM (ws P d H b ts l);cases b<;>first|(simp[zm] at h;done)|exact NM.no|(unfold ws;(repeat' split)<;>first|exact NM.no|exact NM.val _|exact Oo _ _ _|contradiction)
 |box t x=>simp[zm] at h
 |alloc t=>simp[zm] at h
 |buildSlice t n ps=>simp[zm] at h
 |makeSlice t x y=>simp[zm] at h
 |store t x y=>simp[zm] at h
 |_=>exact NM.no
theorem NM.mk:∀ {e:Eff},NM e->∀i o v,¬e.Mk i o v
 |.req c e,h,i,o,v,k=>NM.mk (e:=e) h i o v k.2
 |.val _,_,_,_,_,k=>k
 |.row _ _ _,_,_,_,_,k=>k
 |.no,_,_,_,_,k=>k
theorem NM.y {P:Program}{H H':Hp}: ∀ {e:Eff},NM e->∀u,e.Y P H u->e.Y P H' u
 |.req c e,h,u,k=>⟨k.1,NM.y (e:=e) h u k.2⟩
 |.val _,_,_,k=>k
 |.row _ _ _,_,_,k=>k
theorem NM.uniq {P:Program}{H:Hp}: ∀ {e:Eff},NM e->∀u v,e.Y P H u->e.Y P H v->u=v
 |.req c e,h,u,v,k,l=>NM.uniq (e:=e) h u v k.2 l.2
 |.val _,_,_,_,k,l=>k.trans l.symm
 |.row _ _ _,_,u,v,k,l=>by
  obtain⟨r,g,rfl⟩:=k;obtain⟨s,b,rfl⟩:=l;rw[g] at b;injection b with b;rw[b]
theorem aV(h:zm op=3): ∀i o v,¬(z8 P d H op l).Mk i o v:=by
 cases op<;>simp[zm] at h;rename_i c;obtain⟨callee,args,ts⟩:=c;cases callee<;>simp at h
 ·intro i o v k;have k':(acl P l).Mk i o v:=k;unfold acl at k';split at k'
  ·exact k'.2
  ·exact k'.2
  ·exact k'
 ·rename_i b;cases b<;>simp at h
theorem uy:∀ {e:Eff} {i b:Id} {o g:Nat->Nat->Ob} {v v':Nat->Nat->AV},e.Mk i o v->e.Mk b g v'->i=b/\o=g/\v=v'
 |.req c e,i,b,o,g,v,v',h,k=>uy (e:=e) h.2 k.2
 |.mk _ _ _,i,b,o,g,v,v',h,k=>⟨h.1.trans k.1.symm,h.2.1.trans k.2.1.symm,h.2.2.trans k.2.2.symm⟩
 |.wr _ _ _,i,b,o,g,v,v',h,k=>⟨h.1.trans k.1.symm,h.2.1.trans k.2.1.symm,h.2.2.trans k.2.2.symm⟩
theorem x8{d:Option Nat}(h:∀t,d=some t->t∉Oper.looksAt ops o): yj (zl f d v) o=yj f o:=by
 cases d with
 |none=>rfl
 |some t =>
  have b:=h t rfl;simp only[yj];apply List.map_congr_left;intro x hx;cases x with
  |tmp s =>
   have:t≠s:=λe=>b (by
    subst e;unfold Oper.looksAt;exact List.mem_append_left _ (List.mem_filterMap.2 ⟨.tmp t,hx,rfl⟩))
   show xb f t v s=f s;unfold xb;rw[if_neg (Ne.symm this)]
  |_=>rfl
theorem yM{d:Option Nat}(h:∀t,d=some t->t∉Oper.looksAt ops o): gd ops (zl f d v) o=gd ops f o:=by
 cases d with
 |none=>rfl
 |some t =>
  have k:=h t rfl;unfold gd;cases g:o.guard with
  |none=>rfl
  |some p =>
   obtain⟨j,b⟩:=p;simp only;cases i:(ops[j]?).bind (·.dst) with
   |none=>rfl
   |some s =>
    have:t≠s:=λe=>k (by
     subst e;unfold Oper.looksAt;refine List.mem_append_right _ ?_;rw[g];simp only;rw[i];simp)
    simp only[zl,xb];rw[if_neg (Ne.symm this)]
theorem zy{d e:Option Nat}{u v:AV}(h:∀t,d=some t->e≠some t): zl (zl f d u) e v=zl (zl f e v) d u:=by
 cases d<;>cases e<;>try rfl
 rename_i d e;have g:e≠d:=λq=>h d rfl (by rw[q]);funext t
 simp only[zl,xb];split<;>split<;>first|rfl|(rename_i a b;exact absurd (a.symm.trans b) g)
end Go.Proofs.YtllodfoldffonaaGreatDoor.AM
