/- A part of the proof. -/
import Derived.Test.YtllodfoldffonaaGreatDoorQ16
namespace Go.Proofs.YtllodfoldffonaaGreatDoor
open Tryz AM Go.RowKit
set_option linter.unusedSimpArgs false
set_option linter.unusedVariables false
set_option linter.defProp false
set_option maxRecDepth 100000
set_option maxHeartbeats 16000000
variable {i:Nat}{l:List Opd}{o:Opd}{ts:List Ty}{α:Type}
def tV {α:Type}(e:α->Int): List α->Int
 |[]=>0
 |a::l=>if ¬e a=0 then e a else tV e l
def sR{e:α->Int}{l:List α}(h:∀o∈l,e o=0): tV e l=0:=by
 induction l with
 |nil=>rfl
 |cons o l ih=>unfold tV;rw[if_neg (by simp[h o sm])];exact ih λg a=>h g (by simp[a])
def pL{e:α->Int}{l:List α}(hi:i<l.length)(a:∀o∈l.take i,e o=0)(h:¬e l[i]=0): tV e l=e l[i]:=by
 induction l generalizing i with
 |nil=>simp at hi
 |cons o l ih =>
  cases i with
  |zero=>unfold tV;rw[if_pos (by simpa using h)];rfl
  |succ i =>
   unfold tV;rw[if_neg (by simp[a o sm])];simp only[List.getElem_cons_succ] at h ⊢;exact ih (by simpa using hi) (λg b=>a g (by simp[b])) h
def mS {α:Type}{e:α->Int}: ∀ {l:List α},tV e l=0->∀o∈l,e o=0
 |[],_,o,h=>by simp at h
 |a::l,h,o,b=>by
  unfold tV at h;by_cases c:e a=0
  ·rw[if_neg (by simpa using c)] at h;rcases List.mem_cons.1 b with rfl|b
   ·exact c
   ·exact mS h o b
  ·rw[if_pos c] at h;exact absurd h c
def wo (ts:List Ty)(s:St): Int :=
 if s.kind=1 then(if ¬rvE ts s.r=0 then rvE ts s.r else ny ts s.pl (rvT ts s.r))
 else if s.kind=3 then(if(ts.length:Int)<=s.loc then 6 else 0) else v8 ts [s.a]
def eqT (a b:Ty): Bool:=a.kind==b.kind&&a.to==b.to
def s0 (ts:List Ty)(to:List Ty)(l:List Opd)(i:Nat): Bool:=(List.range i).all λk=>eqT (opT ts (l.getD k ⟨0,0,⟨0,false,0⟩⟩)) (to.getD (k+1) ⟨0,0⟩)
def caE (fs:List Fn)(ts:List Ty)(j:Ju): Int :=
 if(fs.length:Int)<=j.fn then 6 else if ¬x9 ts j.args=0 then x9 ts j.args
 else if s0 ts (fs.getD j.fn.toNat fnz).locals j.args j.args.length then ny ts j.dest ((fs.getD j.fn.toNat fnz).locals.getD 0 ⟨0,0⟩) else 42
def goE (fs:List Fn)(ts:List Ty)(j:Ju): Int:=if j.kind=2 then v8 ts [j.a] else if j.kind=4 then caE fs ts j else 0
def blE (fs:List Fn)(ts:List Ty)(b:Bk): Int:=if ¬tV (wo ts) b.stmts=0 then tV (wo ts) b.stmts else goE fs ts b.jump
def fuE (fs:List Fn)(f:Fn): Int:=tV (blE fs f.locals) f.blocks
def tyE (p:Pr): Int:=if ¬wl p=0 then wl p else tV (fuE p.funcs) p.funcs
def fE {ts to:List Ty}(h:i<l.length)(a:i+1<to.length): s0 ts to l (i+1)=(s0 ts to l i&&(((opT ts l[i]).kind==to[i+1].kind)&&(opT ts l[i]).to==to[i+1].to)):=by
 unfold s0;rw[List.range_succ,List.all_append];congr 1
 simp only[List.all_cons,List.all_nil,Bool.and_true,zD,zE h,zE a,eqT];rfl
structure fnG (fs:List Fn)(f:Fn): Prop where
 lo:xK f.locals=true
 hl:f.locals.length<1000000
 hb:f.blocks.length<1000000
 p0:0<=f.params
 p8:f.params<=8
 pl:f.params<(f.locals.length:Int)
 st:∀b∈f.blocks,b.stmts.length<1000000/\b.jump.args.length<1000000/\yJ b.jump=true/\w6 fs b=true/\∀s∈b.stmts,y6 s=true
def XW (ts:List Ty)(s:St)(hl:ts.length<1000000)(h:xK ts=true)(hs:y6 s=true): zK 213 [vTy_ ts,s.a'] (iI (wo ts s)):=by
 have b:=nw ts hl;have c:=gX s;rw[if_pos h] at b;rw[if_pos hs] at c;obtain⟨k,pl,r,a,j⟩:=s;obtain⟨f,op,bo,d,e,rp⟩:=r;have g:([a]:List Opd).length<1000000:=by simp
 refine eK [] func213 λX=>?_;go_simp;repeat'(first|((first|apply zd b|apply zd c|apply zd (bB ts ⟨f,op,bo,d,e,rp⟩ hl)|apply zd (jT ts pl (rvT ts ⟨f,op,bo,d,e,rp⟩) hl)|refine gL [.l 48] (nz ts [a] hl g) ?_);try go_simp)|with_reducible first|apply ai|intro)
 all_goals grind [wo]
def oY {p:Pr}(r:wfP p)(h:wl p=0): 0<p.funcs.length/\p.funcs.length<=8/\∀f∈p.funcs,fnG p.funcs f:=by
 have k:¬8<p.funcs.length:=λc=>by simp[wl,c] at h
 have j:¬p.funcs.length=0:=λc=>by simp[wl,c] at h
 have a:uX p.funcs=0:=by
  unfold wl at h;rw[if_neg k,if_neg j] at h;split at h
  ·rename_i c;exact absurd h c
  ·rename_i c;simpa using c
 have d:oq p=true:=by
  unfold wl at h;rw[if_neg k,if_neg j,if_neg (by simp[a])] at h;split at h
  ·rename_i c;simp only[zB] at c;exact c.2
  ·simp at h
 have e:∀f∈p.funcs,xt f=0:=by
  clear h k j d r;generalize p.funcs=l at a;induction l with
  |nil=>simp
  |cons f l ih =>
   unfold uX at a;split at a
   ·rename_i c;exact absurd a c
   ·rename_i c;rintro g n;rcases List.mem_cons.1 n with rfl|n
    ·simpa using c
    ·exact ih a g n
 refine⟨om,om,λf m=>?_⟩;obtain⟨hs,hm,_⟩:=tO (e f m);obtain⟨z,A,t⟩:=r.2 f m;unfold xJ uM vN at hm;unfold vT at hs;unfold oq at d;simp only[zB,zL,zA] at hs hm d;obtain⟨⟨⟨⟨⟨⟨⟨u,v⟩,w⟩,x⟩,y⟩,B⟩,C⟩,q⟩:=hm;refine⟨?_,z,A,v,w,x,λb hb=>⟨(t b hb).1,(t b hb).2,?_,d f m b hb,λs hs=>?_⟩⟩
 ·unfold xK;simp only[zB,zL,zA];exact⟨⟨u,hs.1.1⟩,y⟩
 ·have:=q b hb;unfold bkB juB at this;simp only[zB] at this;exact this.2.1
 ·have:=q b hb;unfold bkB stB at this;simp only[zB,zA] at this;exact(this.1 s hs).1
def kr (p:Pr)(q:0<p.funcs.length)(t:p.funcs.length<=8)(h:∀f∈p.funcs,fnG p.funcs f): zK 336 [p.a] (iI 0):=by
 refine eK [] func336 λX=>?_;go_simp;repeat'(first|with_reducible first|apply ai|intro)
 all_goals try omega
 rename_i b r s;refine lN [] (λi=>[(1,.ptr (.l 1) b 1 0 0),(16,vFn_ p.funcs),(17,iI p.funcs.length),(18,iI i)]) (λi=>[(.l 1,⟨b,1,1,24,[Pr.c p],false⟩)]) (λi=>i<=p.funcs.length) (λi=>p.funcs.length-i) 0 ?_
 rintro i hi;go_simp;refine λe=>⟨_,zE e,λj=>?_⟩
 have g:=h _ (zM e);generalize p.funcs[i]=f at g ⊢;have d:=nw f.locals g.hl;rw[if_pos g.lo] at d;have k:=g.p0;have m:=g.p8;have n:=g.pl;repeat'(first|(apply zd d;try go_simp)|with_reducible first|apply ai|intro)
 all_goals first
  |omega
  |exact⟨i+1,om,om,wrS om⟩
def XX (p:Pr)(ts:List Ty)(j:Ju)(hl:ts.length<1000000)(z:∀f∈p.funcs,fnG p.funcs f)(J:j.kind=4)(v:yJ j=true)(s:(j.args.length:Int)=(p.funcs.getD j.fn.toNat fnz).params)(S:j.args.length<1000000): zK 338 [p.a,vTy_ ts,j.a'] (iI (caE p.funcs ts j)):=by
 obtain⟨n,hn⟩:∃n:Nat,j.fn=n:=⟨j.fn.toNat,by unfold yJ at v;simp only[J,Bool.or_eq_true,zB,zL] at v;simp at v;omega⟩
 by_cases d:n<p.funcs.length
 ·have g:=z _ (zM d);have e:p.funcs.getD n fnz=p.funcs[n]:=by rw[zD,zE d];rfl
  have q:(n:Int)<p.funcs.length:=om;have A:p.funcs[n]?=some p.funcs[n]:=zE d;have t:caE p.funcs ts j=if ¬x9 ts j.args=0 then x9 ts j.args else if s0 ts p.funcs[n].locals j.args j.args.length then ny ts j.dest (p.funcs[n].locals.getD 0 ⟨0,0⟩) else 42:=by
   unfold caE;rw[hn,Int.toNat_natCast,e,if_neg om]
  rw[t];rw[hn,Int.toNat_natCast,e] at s;clear t e z;generalize K:p.funcs[n]=f at *;obtain⟨O,L,N,P,M,b,B⟩:=j;obtain rfl:N=n:=hn;have Q:=g.p0;have R:=g.pl;have E:((b.length:Int)==f.params)=true:=by simpa using s
  have F:b.length<f.locals.length:=by simp only at s;omega
  clear s;refine eK [] func338 λX=>?_;go_simp;refine λw x=>⟨λh=>by omega,λy=>?_⟩
  refine lN [] (λi=>[(1,vTy_ ts),(3,.ptr (.l 3) w 1 0 0),(5,.ptr (.l 5) x 13 0 0),(7,.ptr (.l 7) y 4 0 0),(8,.bool (s0 ts f.locals b i)),(32,vOpd_ b),(33,iI b.length),(34,iI i)]) (λi=>[(.l 3,⟨w,1,1,24,[Pr.c p],false⟩),(.l 5,⟨x,1,13,108,[Ju.c ⟨O,L,n,P,M,b,B⟩],false⟩),(.l 7,⟨y,1,4,60,[Fn.c f],false⟩)]) (λi=>i<=b.length/\∀o∈b.take i,opE ts o=0) (λi=>b.length-i) 0 ?_
  rintro i ⟨hi,k⟩;go_simp;refine⟨λd=>⟨_,zE d,λC=>?_⟩,λu=>?_⟩
  ·have hs:=fE (ts:=ts) (to:=f.locals) d om;have G:i+1<f.locals.length:=om;have H:(i:Int)+1<f.locals.length:=om;have I:=wrS (n:=i) (by have:=g.hl;omega);repeat'(first|(apply zd (tP ts b[i] hl);try go_simp)|with_reducible first|apply ai|intro)
   ·rename_i r;have:=oU d k r
    rw[this,if_neg r]
   all_goals first
    |omega
    |exact⟨i+1,⟨om,zr k d (by assumption)⟩,om,by rw[hs];simp[*],om⟩
  ·have D:=qm (zx k u);have m:0<f.locals.length:=om;rw[show i=b.length by omega];rw[if_pos D];refine⟨λh=>by simp[h],λh=>⟨_,zE m,?_⟩⟩;rw[if_pos h,zE m];repeat'(first|(apply zd (jT ts B f.locals[0] hl);try go_simp)|with_reducible first|apply ai|intro)
 ·have t:caE p.funcs ts j=6:=by unfold caE;rw[if_pos om]
  rw[t];have q:¬(n:Int)<p.funcs.length:=om;refine eK [] func338 λX=>?_;go_simp;all_goals omega
def XY (p:Pr)(i:Nat)(f:Fn)(j:Ju)(n:0<p.funcs.length)(q:p.funcs.length<=8)(g:∀f∈p.funcs,fnG p.funcs f)(k:p.funcs[i]?=some f)(t:yJ j=true)(r:j.args.length<1000000)
  (e:w6 p.funcs ⟨[],j⟩=true):zK 214 [p.a,iI i,j.a'] (iI (goE p.funcs f.locals j)):=by
 obtain⟨w,v⟩:=zS.1 k;have c:=g _ (zF k);have h:=gY j r;rw[if_pos t] at h;have u:([j.a]:List Opd).length<1000000:=by simp
 have b:j.kind=4->zK 338 [p.a,vTy_ f.locals,j.a'] (iI (caE p.funcs f.locals j)):=λd =>
  XX p f.locals j c.hl g d t (by unfold w6 at e;simp only[d,beq_self_eq_true,Bool.not_true,Bool.false_or,zB,zL] at e;exact e.2) r
 have s:(i:Int)<p.funcs.length:=om;obtain⟨y,x,B,C,A,m,z⟩:=j;clear e k;by_cases d:y=4
 ·have b:=b d;subst d;refine eK [] func214 λX=>?_;go_simp;repeat'(first|((first|apply zd (kr p n q g)|apply zd h|apply zd b);try go_simp)|with_reducible first|apply ai|intro)
  all_goals first
   |omega
   |grind [goE]
 ·clear b;refine eK [] func214 λX=>?_;go_simp;repeat'(first|((first|apply zd (kr p n q g)|apply zd h|refine gL [.l 42] (nz f.locals [x] c.hl u) ?_);try go_simp)|with_reducible first|apply ai|intro)
  all_goals first
   |omega
   |grind [goE]
def ks (p:Pr)(O:wfP p): zK 138 [p.a] (iI (tyE p)):=by
 refine eK [] func138 λX=>?_;go_simp;repeat'(first|(apply zd (bw p O);try go_simp)|with_reducible first|apply ai|intro)
 ·rename_i h;unfold tyE;rw[if_pos h]
 rename_i b B;obtain⟨R,T,N⟩:=oY O B;have C:tyE p=tV (fuE p.funcs) p.funcs:=by unfold tyE;rw[if_neg (by simp[B])]
 rw[C];clear C;refine lN [] (λi=>[(1,.ptr (.l 1) b 1 0 0),(18,vFn_ p.funcs),(19,iI p.funcs.length),(20,iI i)]) (λi=>[(.l 1,⟨b,1,1,24,[Pr.c p],false⟩)]) (λi=>i<=p.funcs.length/\∀f∈p.funcs.take i,fuE p.funcs f=0) (λi=>p.funcs.length-i) 0 ?_
 rintro i ⟨hi,G⟩;go_simp;refine⟨λg=>⟨_,zE g,λF=>?_⟩,λe=>(sR (zx G e)).symm⟩;have z:=N _ (zM g);have r:=λh=>pL g G h;have A:=λh=>zr G g h;generalize J:p.funcs[i]=f at z r A ⊢;clear G;refine lN [] (λk=>[(1,.ptr (.l 1) b 1 0 0),(18,vFn_ p.funcs),(19,iI p.funcs.length),(20,iI i),(4,iI i),(5,.ptr (.l 5) F 4 0 0),(26,vBk_ f.blocks),(27,iI f.blocks.length),(28,iI k)]) (λk=>[(.l 1,⟨b,1,1,24,[Pr.c p],false⟩),(.l 5,⟨F,1,4,60,[Fn.c f],false⟩)]) (λk=>k<=f.blocks.length/\∀x∈f.blocks.take k,blE p.funcs f.locals x=0) (λk=>f.blocks.length-k) 0 ?_
 rintro k ⟨Y,j⟩;go_simp;refine⟨λn=>⟨_,zE n,λM=>?_⟩,λe=>⟨i+1,⟨om,A (sR (zx j e))⟩,om,wrS om⟩⟩;obtain⟨P,K,L,D,Q⟩:=z.st _ (zM n);have t:=λh=>pL n j h;have y:=λh=>zr j n h;have D:w6 p.funcs ⟨[],f.blocks[k].jump⟩=true:=D;generalize U:f.blocks[k]=x at P K L D Q t y ⊢;clear j;have H:=XY p i f x.jump R T N (by rw[<-J];exact zE g) L K D;clear K L D;obtain⟨xs,E⟩:=x;refine lN [] (λm=>[(1,.ptr (.l 1) b 1 0 0),(18,vFn_ p.funcs),(19,iI p.funcs.length),(20,iI i),(4,iI i),(5,.ptr (.l 5) F 4 0 0),(26,vBk_ f.blocks),(27,iI f.blocks.length),(28,iI k),(7,.ptr (.l 7) M 14 0 0),(33,vSt_ xs),(34,iI xs.length),(35,iI m)]) (λm=>[(.l 1,⟨b,1,1,24,[Pr.c p],false⟩),(.l 5,⟨F,1,4,60,[Fn.c f],false⟩),(.l 7,⟨M,1,14,110,[Bk.c ⟨xs,E⟩],false⟩)]) (λm=>m<=xs.length/\∀s∈xs.take m,wo f.locals s=0) (λm=>xs.length-m) 0 ?_
 rintro m ⟨hm,u⟩;go_simp;refine⟨λq=>⟨_,zE q,λW=>?_⟩,λe=>?_⟩
 ·have I:=XW f.locals xs[m] z.hl z.lo (Q _ (zM q));repeat'(first|(apply zd I;try go_simp)|with_reducible first|apply ai|intro)
  ·rename_i d;have S:=pL q u d;have v:blE p.funcs f.locals ⟨xs,E⟩=wo f.locals xs[m]:=by unfold blE;simp only[S,if_pos d]
   have w:fuE p.funcs f=wo f.locals xs[m]:=(t (by rw[v];exact d)).trans v;exact((r (by rw[w];exact d)).trans w).symm
  ·exact⟨m+1,⟨om,zr u q (by assumption)⟩,om,wrS (by simp only at P;omega)⟩
 ·have V:=sR (zx u e);have v:blE p.funcs f.locals ⟨xs,E⟩=goE p.funcs f.locals E:=by unfold blE;simp only[V];rfl
  repeat'(first|(apply zd H;try go_simp)|with_reducible first|apply ai|intro)
  ·rename_i d;have w:fuE p.funcs f=goE p.funcs f.locals E:=(t (by rw[v];exact d)).trans v;exact((r (by rw[w];exact d)).trans w).symm
  ·exact⟨k+1,⟨om,y (v.trans (by assumption))⟩,om,wrS (by have:=z.hb;omega)⟩
def opF (o:Opd): Prop:=(o.kind=1\/o.kind=2\/o.kind=3)/\0<=o.pl.field
def fF(h:zq o=0)(a:0<=o.pl.field): opF o:=by
 unfold opF;grind [zq,xT,plZ]
def rgS (s:St): Prop:=0<=s.pl.field/\0<=s.r.a.pl.field/\0<=s.r.b.pl.field/\0<=s.r.pl.field/\0<=s.a.pl.field
def rgJ (j:Ju): Prop:=0<=j.a.pl.field/\0<=j.dest.field/\∀o∈j.args,0<=o.pl.field
def rgP (p:Pr): Prop:=∀f∈p.funcs,∀b∈f.blocks,(∀s∈b.stmts,rgS s)/\rgJ b.jump
def Sf{p:Pl}(h:zZ ts p=0): 1<=(zu ts p).kind/\(zu ts p).kind<=5/\((zu ts p).kind<=2->(zu ts p).to=0):=by
 have b:yD ts p=0:=by
  by_cases c:yD ts p=0
  ·exact c
  ·unfold zZ at h;rw[if_neg c] at h;exact absurd h c
 obtain⟨n,hn,e,d,a⟩:=nQ b;unfold zZ at h;unfold zu;rw[if_pos b] at h ⊢;rw[d] at h ⊢;generalize ts[n]=t at a h ⊢;obtain⟨k,o⟩:=t;grind [xV,drf,yE]
def U7(b:opE ts o=0): isI ts o=((opT ts o).kind==1):=by
 unfold isI;by_cases c:(opT ts o).kind=1
 ·have:(opT ts o).to=0:=by
   unfold opT at c ⊢;by_cases a:o.kind=1
   ·rw[if_pos a]
   ·rw[if_neg a,if_pos b] at c ⊢;have hp:zZ ts o.pl=0:=by unfold opE at b;grind
    exact(Sf hp).2.2 om
  rw[c,this];rfl
 ·rw[show((opT ts o).kind==1)=false by simpa using c];rfl
def kt (ts:List Ty)(o:Opd)(hl:ts.length<1000000)(d:opF o): zK 351 [vTy_ ts,o.a] (iI (v8 ts [o])):=by
 have b:v8 ts [o]=if ¬opE ts o=0 then opE ts o else if(opT ts o).kind=1 then 0 else 42:=by
  unfold v8 x9 x9;by_cases c:opE ts o=0
  ·simp[c,U7 c]
  ·simp[c]
 rw[b];clear b;obtain⟨k,n,pl⟩:=o;refine eK [] func351 λX=>?_;go_simp;repeat'(first|(apply zd (mM ts ⟨_,_,_⟩ hl d.1 d.2);try go_simp)|with_reducible first|apply ai|intro)
 all_goals grind
def Sg (r:Rv): (zs r).length<=2:=by
 unfold zs;repeat' split
 all_goals simp
def ku (ts:List Ty)(l:List Opd)(i:Nat): List Ty:=(l.take i).map (opT ts)
def Sh(h:i<l.length): ku ts l (i+1)=ku ts l i++[opT ts l[i]]:=by
 unfold ku;rw[List.take_add_one,zE h,zV];rfl
def Qt(h:i<=l.length): (ku ts l i).length=i:=by unfold ku;simp;omega
def Lr(h:¬opE ts o=0): opT ts o=⟨0,0⟩:=by
 unfold opT;by_cases c:o.kind=1
 ·exact absurd (by unfold opE;rw[if_pos c]) h
 ·rw[if_neg c,if_neg h]
def Ls{r:Rv}(hi:i<(zs r).length)(j:∀o∈(zs r).take i,opE ts o=0)(h:¬opE ts (zs r)[i]=0): rvE ts r=opE ts (zs r)[i]/\rvT ts r=⟨0,0⟩:=by
 by_cases c:r.kind=1
 ·have hp:zs r = [r.a]:=by unfold zs;rw[if_pos c]
  have e:(zs r)[i]=r.a:=by
   have:i=0:=by rw[hp] at hi;simpa using hi
   subst this;simp[hp]
  rw[e] at h ⊢;unfold rvE rvT;rw[if_pos c,if_pos c];exact⟨rfl,Lr h⟩
 ·by_cases d:r.kind=2\/r.kind=3
  ·have hp:zs r = [r.a,r.b]:=by unfold zs;rw[if_neg c,if_pos d]
   have g:=oU hi j h;have f:v8 ts [r.a,r.b]=opE ts (zs r)[i]:=by unfold v8;rw[<-hp,g,if_pos h]
   unfold rvE rvT;rw[if_neg c,if_neg c,if_pos d,if_pos d,f,if_neg h];exact⟨rfl,rfl⟩
  ·have hp:zs r = []:=by unfold zs;rw[if_neg c,if_neg d]
   rw[hp] at hi;simp at hi
def Nz{r:Rv}(e:r.kind=2\/r.kind=3)(d:opE ts r.a=0)(hb:opE ts r.b=0):
  rvE ts r=(if(opT ts r.a).kind=1/\(opT ts r.b).kind=1 then 0 else 42)/\rvT ts r=if(opT ts r.a).kind=1/\(opT ts r.b).kind=1 then⟨r.kind-1,0⟩ else⟨0,0⟩:=by
 have c:¬r.kind=1:=om;have g:x9 ts [r.a,r.b]=0:=qm (by simp[d,hb]);have f:v8 ts [r.a,r.b]=if(opT ts r.a).kind=1/\(opT ts r.b).kind=1 then 0 else 42:=by
  unfold v8;rw[if_neg (by simp[g])];simp[U7 d,U7 hb]
 unfold rvE rvT;rw[if_neg c,if_neg c,if_pos e,if_pos e,f];refine⟨rfl,?_⟩;split<;>simp
def XZ (ts:List Ty)(r:Rv)(hl:ts.length<1000000)(P:∀o∈zs r,opF o)(D:1<=r.kind/\r.kind<=5)(H:0<=r.pl.field): zK 349 [vTy_ ts,r.a'] (.tup [(rvT ts r).a,iI (rvE ts r)]):=by
 have O:=Sg r;obtain⟨k,op,bo,a,b,pl⟩:=r;refine eK [] func349 λX=>?_;go_simp;repeat'(first|(apply zd (nm ⟨_,_,_,_,_,_⟩);try go_simp)|with_reducible first|apply ai|intro)
 rename_i z A;generalize hle:zs ⟨k,op,bo,a,b,pl⟩=l at *;refine sS 7 (.l 7) 2 141 (by go_simp) (by go_simp) ?_;have R:IntKind.u8.wrap (k-1)=k-1:=QZ (by simp only at D;omega);refine lG [] (G:=Nat×Nat×Nat) (λv=>[(0,vTy_ ts),(3,.ptr (.l 3) z 16 0 0),(4,.ptr (.l 4) A 2 0 0),(6,vOpd_ l),(7,.sl (.l 7) v.2.1 2 v.1 v.2.2),(8,iI v.1)]) (λv=>[(.l 3,⟨z,1,16,87,[Rv.c ⟨k,op,bo,a,b,pl⟩],false⟩),(.l 4,⟨A,1,2,141,[[iU 0,iU 0]],false⟩),(.l 7,⟨v.2.1,v.2.2,2,141,(ku ts l v.1).map Ty.c,false⟩)]) (λv=>v.1<=l.length/\∀o∈l.take v.1,opE ts o=0) (λv=>l.length-v.1) (0,0,0) ?_
 rintro⟨i,E,F⟩ ⟨hi,f⟩;simp only at hi f;have w:=Qt (ts:=ts) hi;go_simp;refine⟨λd=>⟨_,zE d,?_⟩,λu=>?_⟩
 ·have I:=P _ (zM d);have M:=Sh (ts:=ts) d;have hx:=λe=>Ls (r:=⟨k,op,bo,a,b,pl⟩) (ts:=ts) (i:=i) (by rw[hle];exact d) (by rw[hle];exact f) e;simp only[hle] at hx;repeat'(first|(apply zd (mM ts l[i] hl I.1 I.2);try go_simp)|with_reducible first|apply ai|intro)
  all_goals first
   |omega
   |(rename_i e;rw[(hx e).2];done)
   |(rename_i e;rw[(hx e).1];done)
   |skip
  refine⟨i+1,⟨om,zr f d (by assumption)⟩,om,_,_,⟨⟨rfl,rfl,rfl⟩,wrS om⟩,rfl,rfl,?_⟩;rw[M,zV,zT (by simp[w])];rfl
 ·obtain rfl:i=l.length:=om;have x:=zx f u;have j:ku ts l l.length=l.map (opT ts):=by unfold ku;rw[List.take_length]
  rw[j];clear f j w u hi;by_cases m:k=1
  ·subst m;obtain rfl:l = [a]:=by rw[<-hle];rfl
   have g:=x a sm;go_simp;have B:rvT ts ⟨1,op,bo,a,b,pl⟩=opT ts a:=rfl;have C:rvE ts ⟨1,op,bo,a,b,pl⟩=opE ts a:=rfl;rw[B,C,g];exact⟨⟨rfl,rfl⟩,rfl⟩
  have D:=D;simp only at D;by_cases n:k=2\/k=3
  ·obtain rfl:l = [a,b]:=by rw[<-hle];unfold zs;rw[if_neg m,if_pos n]
   have g:=x a sm;have y:=x b sm;obtain⟨B,C⟩:=Nz (ts:=ts) (r:=⟨k,op,bo,a,b,pl⟩) n g y;rw[B,C];simp only;have L:k<=3:=om;clear B C x hle g y;go_simp;refine⟨?_,λh=>absurd h om⟩;generalize opT ts a=J;generalize opT ts b=K;refine lN [] (λi=>[(3,.ptr (.l 3) z 16 0 0),(4,.ptr (.l 4) A 2 0 0),(7,.sl (.l 7) E 2 2 F),(11,iI i)]) (λi=>[(.l 3,⟨z,1,16,87,[Rv.c ⟨k,op,bo,a,b,pl⟩],false⟩),(.l 4,⟨A,1,2,141,[[iU 0,iU 0]],false⟩),(.l 7,⟨E,F,2,141,[J,K].map Ty.c,false⟩)]) (λi=>i<=2/\∀t∈[J,K].take i,t.kind=1) (λi=>2-i) 0 ?_
   rintro i ⟨hi,f⟩;obtain rfl|rfl|rfl:i=0\/i=1\/i=2:=om
   ·go_simp;exact⟨λh=>by simp[h],λh=>⟨1,⟨om,by simpa using h⟩,om,by decide⟩⟩
   ·simp at f;go_simp;exact⟨λh=>by simp[h],λh=>⟨2,⟨om,by simp[f,h]⟩,om,by decide⟩⟩
   ·simp at f;go_simp
  ·obtain rfl:l = []:=by rw[<-hle];unfold zs;rw[if_neg m,if_neg n]
   have L:¬k<=3:=om;go_simp;intro _;have q:km ts ⟨k,op,bo,a,b,pl⟩=rvE ts ⟨k,op,bo,a,b,pl⟩:=by unfold rvE;rw[if_neg m,if_neg n]
   have s:iD ts ⟨k,op,bo,a,b,pl⟩=rvT ts ⟨k,op,bo,a,b,pl⟩:=by unfold rvT;rw[if_neg m,if_neg n]
   rw[<-q,<-s];clear q s x hle;have N:k=4\/k=5:=om;have Q:=λh=>Sf (ts:=ts) (p:=pl) h;repeat'(first|((first|apply zd (mL ts pl hl H)|apply zd (jS ts pl hl H));try go_simp)|with_reducible first|apply ai|intro)
   all_goals grind [km,iD]
def Lt {s:St}(h:y6 s=true): (s.kind=1/\(1<=s.r.kind/\s.r.kind<=5)/\∀o∈zs s.r,zq o=0)\/(¬s.kind=1/\(s.kind=3\/zq s.a=0)):=by
 unfold y6 at h;simp only[Bool.or_eq_true,zB,beq_iff_eq,zL] at h;rcases h with(⟨⟨⟨⟨c,e⟩,b⟩,d⟩,f⟩|⟨⟨⟨⟨c,e⟩,b⟩,d⟩,f⟩)|⟨⟨⟨⟨c,e⟩,b⟩,d⟩,f⟩
 ·refine Or.inl ⟨c,?_⟩;unfold xG at b;simp only[Bool.or_eq_true,zB,beq_iff_eq,zL] at b;unfold zs;rcases b with(((h|h)|h)|h)|h
  ·refine⟨om,?_⟩;rw[if_pos om];simp[h.1.1.1.1.2]
  ·refine⟨om,?_⟩;rw[if_neg om,if_pos om];simp[h.1.1.1.1.2,h.1.1.1.2]
  ·refine⟨om,?_⟩;rw[if_neg om,if_pos om];simp[h.1.1.1.1.2,h.1.1.1.2]
  ·refine⟨om,?_⟩;rw[if_neg om,if_neg om];simp
  ·refine⟨om,?_⟩;rw[if_neg om,if_neg om];simp
 ·exact Or.inr ⟨om,Or.inr d⟩
 ·exact Or.inr ⟨om,Or.inl c⟩
def U8 (ts:List Ty)(s:St)(hl:ts.length<1000000)(hs:y6 s=true)(n:rgS s): zK 229 [vTy_ ts,s.a'] (iI (wo ts s)):=by
 have e:=Lt hs;obtain⟨p,j,q,t,u⟩:=n;have b:s.kind=1->zK 349 [vTy_ ts,s.r.a'] (.tup [(rvT ts s.r).a,iI (rvE ts s.r)]):=λd=>by
  rcases e with⟨_,m,f⟩|h
  ·refine XZ ts s.r hl (λo c=>fF (f o c) ?_) m t;unfold zs at c;split at c
   ·simp at c;rw[c];exact j
   ·split at c
    ·simp at c;rcases c with rfl|rfl
     ·exact j
     ·exact q
    ·simp at c
  ·exact absurd d h.1
 obtain⟨k,pl,r,a,y⟩:=s;obtain⟨x,op,bo,v,w,rp⟩:=r;by_cases d:k=1
 ·have b:=b d;subst d;clear e;refine eK [] func229 λX=>?_;go_simp;repeat'(first|((first|apply zd b|apply zd (fq ts pl (rvT ts ⟨x,op,bo,v,w,rp⟩) hl p));try go_simp)|with_reducible first|apply ai|intro)
  all_goals grind [wo]
 ·by_cases f:k=3
  ·subst f;clear e b;refine eK [] func229 λX=>?_;go_simp;repeat'(first|with_reducible first|apply ai|intro)
   all_goals grind [wo]
  ·have g:opF a:=by
    rcases e with h|⟨_,h⟩
    ·exact absurd h.1 d
    ·rcases h with h|h
     ·exact absurd h f
     ·exact fF h u
   clear e b;refine eK [] func229 λX=>?_;go_simp;repeat'(first|(apply zd (kt ts a hl g);try go_simp)|with_reducible first|apply ai|intro)
   all_goals grind [wo]
def Lu {j:Ju}(h:yJ j=true)(c:rgJ j): (j.kind=2->opF j.a)/\(j.kind=4->0<=j.fn/\∀o∈j.args,opF o):=by
 unfold yJ at h;simp only[Bool.or_eq_true,zB,beq_iff_eq,zL,zA] at h;rcases h with((h|h)|h)|h
 ·exact⟨λk=>by omega,λk=>by omega⟩
 ·exact⟨λ_=>fF h.1.1.2 c.1,λk=>by omega⟩
 ·exact⟨λk=>by omega,λk=>by omega⟩
 ·exact⟨λk=>by omega,λ_=>⟨om,λo b=>fF (h.2 o b) (c.2.2 o b)⟩⟩
def U9 (p:Pr)(i:Nat)(f:Fn)(j:Ju)(G:∀f∈p.funcs,fnG p.funcs f)(F:p.funcs[i]?=some f)(ho:yJ j=true)(K:rgJ j)(hj:j.args.length<1000000)
  (e:w6 p.funcs ⟨[],j⟩=true):zK 230 [p.a,iI i,j.a'] (iI (goE p.funcs f.locals j)):=by
 obtain⟨d,W⟩:=zS.1 F;have q:=G _ (zF F);obtain⟨R,S⟩:=Lu ho K;have Q:(i:Int)<p.funcs.length:=om;clear F;by_cases k:j.kind=4
 ·obtain⟨h5,J⟩:=S k;obtain⟨n,hn⟩:∃n:Nat,j.fn=n:=⟨j.fn.toNat,om⟩
  by_cases v:n<p.funcs.length
  ·have r:=G _ (zM v);have m:p.funcs.getD n fnz=p.funcs[n]:=by rw[zD,zE v];rfl
   have w:(n:Int)<p.funcs.length:=om;have e:(j.args.length:Int)=(p.funcs.getD j.fn.toNat fnz).params:=by unfold w6 at e;simp only[k,beq_self_eq_true,Bool.not_true,Bool.false_or,zB,zL] at e;exact e.2
   have g:goE p.funcs f.locals j=if ¬x9 f.locals j.args=0 then x9 f.locals j.args else if s0 f.locals p.funcs[n].locals j.args j.args.length then ny f.locals j.dest (p.funcs[n].locals.getD 0 ⟨0,0⟩) else 42:=by
    unfold goE caE;rw[if_neg om,if_pos k,hn,Int.toNat_natCast,m,if_neg om]
   rw[g];rw[hn,Int.toNat_natCast,m] at e;clear g m G R S;generalize h6:p.funcs[n]=to at *;have E:=K.2.1;clear K;obtain⟨y,A,C,M,L,b,B⟩:=j;obtain rfl:C=n:=hn;obtain rfl:y=4:=k;have g0:=r.p0;have g3:=r.pl;have U:((b.length:Int) != to.params)=false:=by simpa using e
   have V:b.length<to.locals.length:=by simp only at e;omega
   have D:∀i:Nat,i<b.length->(i:Int)<to.params:=λi hi=>by simp only at e;omega
   clear e;refine eK [] func230 λX=>?_;go_simp;repeat'(first|with_reducible first|apply ai|intro)
   ·omega
   rename_i N O P;refine lN [] (λi=>[(3,.ptr (.l 3) N 1 0 0),(5,.ptr (.l 5) O 13 0 0),(7,vTy_ f.locals),(8,.ptr (.l 8) P 4 0 0),(9,.bool (!s0 f.locals to.locals b i)),(10,iI i)]) (λi=>[(.l 3,⟨N,1,1,24,[Pr.c p],false⟩),(.l 5,⟨O,1,13,108,[Ju.c ⟨4,A,n,M,L,b,B⟩],false⟩),(.l 8,⟨P,1,4,60,[Fn.c to],false⟩)]) (λi=>i<=b.length/\∀o∈b.take i,opE f.locals o=0) (λi=>b.length-i) 0 ?_
   rintro i ⟨hi,s⟩;go_simp;refine⟨λd=>⟨_,zE d,?_⟩,λH=>?_⟩
   ·have hs:=fE (ts:=f.locals) (to:=to.locals) d om;have Y:i+1<to.locals.length:=om;have Z:(i:Int)+1<to.locals.length:=om;have h1:=wrS (n:=i) (by have:=r.hl;omega);have h3:=D i d;have x:=J _ (zM d);repeat'(first|(apply zd (mM f.locals b[i] q.hl x.1 x.2);try go_simp)|with_reducible first|apply ai|intro)
    ·rename_i u;have:=oU d s u
     rw[this,if_neg u]
    all_goals first
     |omega
     |exact⟨i+1,⟨om,zr s d (by assumption)⟩,om,by rw[hs];simp[*],om⟩
   ·have T:=qm (zx s H);have t:0<to.locals.length:=om;rw[show i=b.length by omega];rw[if_pos T];refine⟨λh=>by simp[h],λh=>⟨_,zE t,?_⟩⟩;rw[if_pos h,zE t];repeat'(first|(apply zd (fq f.locals B to.locals[0] q.hl E);try go_simp)|with_reducible first|apply ai|intro)
  ·have g:goE p.funcs f.locals j=6:=by unfold goE caE;rw[if_neg om,if_pos k,if_pos om]
   rw[g];obtain⟨y,A,C,M,L,b,B⟩:=j;obtain rfl:C=n:=hn;obtain rfl:y=4:=k;have w:¬(n:Int)<p.funcs.length:=om;refine eK [] func230 λX=>?_;go_simp;all_goals omega
 ·by_cases z:j.kind=2
  ·have I:=R z;have g:goE p.funcs f.locals j=v8 f.locals [j.a]:=by unfold goE;rw[if_pos z]
   rw[g];obtain⟨y,A,C,M,L,b,B⟩:=j;obtain rfl:y=2:=z;refine eK [] func230 λX=>?_;go_simp;repeat'(first|(apply zd (kt f.locals A q.hl I);try go_simp)|with_reducible first|apply ai|intro)
  ·have g:goE p.funcs f.locals j=0:=by unfold goE;rw[if_neg z,if_neg k]
   rw[g];refine eK [] func230 λX=>?_;go_simp;repeat'(first|with_reducible first|apply ai|intro)
def UA (p:Pr)(i:Nat)(f:Fn)(O:∀f∈p.funcs,fnG p.funcs f)(Y:rgP p)(F:p.funcs[i]?=some f): zK 146 [p.a,iI i] (iI (fuE p.funcs f)):=by
 obtain⟨W,V⟩:=zS.1 F;have r:=O _ (zF F);have J:=Y _ (zF F);have P:(i:Int)<p.funcs.length:=om;refine eK [] func146 λX=>?_;go_simp;intro E;refine lN [] (λk=>[(1,iI i),(2,.ptr (.l 2) E 1 0 0),(5,vBk_ f.blocks),(6,iI k)]) (λk=>[(.l 2,⟨E,1,1,24,[Pr.c p],false⟩)]) (λk=>k<=f.blocks.length/\∀x∈f.blocks.take k,blE p.funcs f.locals x=0) (λk=>f.blocks.length-k) 0 ?_
 rintro k ⟨hk,j⟩;by_cases d:k<f.blocks.length
 ·have w:(k:Int)<f.blocks.length:=om;obtain⟨Q,L,M,D,R⟩:=r.st _ (zM d);obtain⟨S,T⟩:=J _ (zM d);have q:=λh=>pL d j h;have v:=λh=>zr j d h;have D:w6 p.funcs ⟨[],f.blocks[k].jump⟩=true:=D;have H:f.blocks[k]?=some f.blocks[k]:=zE d;generalize Z:f.blocks[k]=x at Q L M D R S T q v H;clear j;have G:=U9 p i f x.jump O F M T L D;clear L M D;obtain⟨xs,N⟩:=x;go_simp;refine lN [] (λm=>[(1,iI i),(2,.ptr (.l 2) E 1 0 0),(5,vBk_ f.blocks),(6,iI k),(7,iI m)]) (λm=>[(.l 2,⟨E,1,1,24,[Pr.c p],false⟩)]) (λm=>m<=xs.length/\∀s∈xs.take m,wo f.locals s=0) (λm=>xs.length-m) 0 ?_
  rintro m ⟨hm,n⟩;by_cases b:m<xs.length
  ·have z:(m:Int)<xs.length:=om;have C:=U8 f.locals xs[m] r.hl (R _ (zM b)) (S _ (zM b));have A:=λh=>pL (e:=wo f.locals) b n h;have B:=λh=>zr n b h;have I:xs[m]?=some xs[m]:=zE b;generalize h3:xs[m]=y at C A B I;clear n;go_simp;repeat'(first|(apply zd C;try go_simp)|with_reducible first|apply ai|intro)
   ·rename_i g;have U:=A g;have t:blE p.funcs f.locals ⟨xs,N⟩=wo f.locals y:=by unfold blE;simp only[U,if_pos g]
    exact((q (by rw[t];exact g)).trans t).symm
   ·exact⟨m+1,⟨om,B (by assumption)⟩,om,wrS (by simp only at Q;omega)⟩
   ·rename_i u;exact absurd u (Nat.not_le.2 b)
  ·have K:=sR (zx n om);have z:¬(m:Int)<xs.length:=om;have t:blE p.funcs f.locals ⟨xs,N⟩=goE p.funcs f.locals N:=by unfold blE;simp only[K];rfl
   go_simp;repeat'(first|(apply zd G;try go_simp)|with_reducible first|apply ai|intro)
   ·exact Nat.not_lt.1 b
   ·rename_i g;exact((q (by rw[t];exact g)).trans t).symm
   ·exact⟨k+1,⟨om,v (t.trans (by assumption))⟩,om,wrS (by have:=r.hb;omega)⟩
 ·have K:=sR (zx j om);have w:¬(k:Int)<f.blocks.length:=om;go_simp;exact K.symm
def Wa (p:Pr)(q:wfP p)(s:rgP p): zK 78 [p.a] (iI (tyE p)):=by
 refine eK [] func78 λX=>?_;go_simp;repeat'(first|(apply zd (XU p q);try go_simp)|with_reducible first|apply ai|intro)
 ·rename_i h;unfold tyE;rw[if_pos h]
 rename_i b e;obtain⟨t,u,r⟩:=oY q e;have g:tyE p=tV (fuE p.funcs) p.funcs:=by unfold tyE;rw[if_neg (by simp[e])]
 rw[g];clear g;refine lN [] (λi=>[(1,.ptr (.l 1) b 1 0 0),(4,iI i)]) (λi=>[(.l 1,⟨b,1,1,24,[Pr.c p],false⟩)]) (λi=>i<=p.funcs.length/\∀f∈p.funcs.take i,fuE p.funcs f=0) (λi=>p.funcs.length-i) 0 ?_
 rintro i ⟨hi,n⟩;go_simp;refine⟨λd=>?_,λk=>(sR (zx n k)).symm⟩;have j:=UA p i p.funcs[i] r s (zE d);repeat'(first|(apply zd j;try go_simp)|with_reducible first|apply ai|intro)
 ·rename_i m;exact(pL d n m).symm
 ·exact⟨i+1,⟨om,zr n d (by assumption)⟩,om,wrS om⟩
def bkL (b:Bk): Bool:=decide (30<b.stmts.length)||decide (12<b.jump.args.length)
def Yc (l:List Bk): Bool:=l.any bkL
def fnL (f:Fn): Bool:=decide (30<f.locals.length)||decide (30<f.blocks.length)||Yc f.blocks
def Qu (l:List Fn): Bool:=l.any fnL
def prL (p:Pr): Bool:=decide (10<p.funcs.length)||Qu p.funcs
def Si{q:α->Bool}{l:List α}(h:i<l.length)(a:q l[i]=true): l.any q=true:=List.any_eq_true.2 ⟨_,zM h,a⟩
def Yd{q:α->Bool}{l:List α}(h:∀x∈l,q x=false): l.any q=false:=by simp;exact h
def ov (ts:List Ty)(x:Pl): Int:=if zZ ts x=0 then(if x.field=2 then 1 else 0) else 0
def ox (ts:List Ty)(x:Pl): Int:=if zZ ts x=0 then zg (zu ts x) else 0
def Ye{p:Pl}(h:zZ ts p=0): yE (zu ts p)=true:=by
 have b:yD ts p=0:=by
  by_cases c:yD ts p=0
  ·exact c
  ·unfold zZ at h;rw[if_neg c] at h;exact absurd h c
 obtain⟨n,hn,e,d,a⟩:=nQ b;unfold zZ at h;unfold zu;rw[if_pos b] at h ⊢;rw[d] at h ⊢;generalize ts[n]=t at a h ⊢;obtain⟨k,o⟩:=t;grind [xV,drf,yE]
def qX (ts:List Ty)(x:Pl)(hl:ts.length<1000000): zK 180 [vTy_ ts,x.a] (.tup [iI (ov ts x),iI (ox ts x),iI (zZ ts x)]):=by
 have e:=w7 ts x hl;by_cases h:zZ ts x=0
 ·have f:=Ye h;have d:=pp (zu ts x);rw[if_pos f] at d;have j:ww (zu ts x)=0:=by unfold ww;rw[if_pos f]
  rw[j] at d;have b:ov ts x=if x.field=2 then 1 else 0:=by unfold ov;rw[if_pos h]
  have c:ox ts x=zg (zu ts x):=by unfold ox;rw[if_pos h]
  rw[b,c];obtain⟨k,df,g⟩:=x;refine eK [] func180 λX=>?_;go_simp;repeat'(first|((first|apply zd e|apply zd d);try go_simp)|with_reducible first|apply ai|intro)
  all_goals simp[*]
 ·have b:ov ts x=0:=by unfold ov;rw[if_neg h]
  have c:ox ts x=0:=by unfold ox;rw[if_neg h]
  rw[b,c];obtain⟨k,df,g⟩:=x;refine eK [] func180 λX=>?_;go_simp;repeat'(first|(apply zd e;try go_simp)|with_reducible first|apply ai|intro)
  all_goals simp[*]
def z6 (l:List Bk): Nat->Nat
 |0=>0
 |i+1=>z6 l i+match l[i]? with|some b=>b.stmts.length+1|none=>0
def qD {l:List Bk}(h:i<l.length): z6 l (i+1)=z6 l i+(l[i].stmts.length+1):=by
 show z6 l i+_=_;rw[zE h]
def nX {l:List Bk}(h:∀b∈l,b.stmts.length<1000000)(i:Nat): z6 l i<=i*1000000:=by
 induction i with
 |zero=>exact Nat.zero_le _
 |succ i ih =>
  have c:z6 l (i+1)<=z6 l i+1000000:=by
   show z6 l i+_<=_;refine Nat.add_le_add_left ?_ _;split
   ·rename_i b a;exact h b (zF a)
   ·exact Nat.zero_le _
  rw[Nat.add_mul,Nat.one_mul];omega
def p9 (f:Fn): Int:=z6 f.blocks f.blocks.length
def Yf (f:Fn)(d:wfF f): zK 233 [f.a] (.tup [iI (if xt f=0 then p9 f else 0),iI (xt f)]):=by
 have hs:∀b∈f.blocks,b.stmts.length<1000000:=λb hb=>(d.2.2 b hb).1;have hb:=d.2.1;refine eK [] func233 λX=>?_;go_simp;repeat'(first|(apply zd (uW f d);try go_simp)|with_reducible first|apply ai|intro)
 ·rename_i e h;exact absurd h e
 rename_i b h;rw[h,if_pos rfl];refine zf hP (B:=[]) (G:=Nat) (λi=>[(5,iI ((z6 f.blocks i:Int)+(f.blocks.length-i))),(17,vBk_ f.blocks),(18,iI f.blocks.length),(19,iI i)])
  (λi=>[]) (λi=>i<=f.blocks.length) (λi=>f.blocks.length-i) 0 dk sm ?_ ?_ ?_
 ·go_simp;show(f.blocks.length:Int)=((0:Nat):Int)+f.blocks.length;omega
 ·go_simp
 rintro i hi;have hle:=nX hs i;go_simp;refine⟨λc=>⟨_,zE c,?_⟩,λj=>?_⟩
 ·have k:=hs _ (zM c);have g:=qD c;refine⟨i+1,om,om,?_,wrS om⟩;rw[g,AM.Tf om];omega
 ·unfold p9;rw[show i=f.blocks.length by omega];simp
def Yg (f:Fn)(hb:f.blocks.length<1000000)(hs:∀b∈f.blocks,b.stmts.length<1000000): zK 148 [f.a] (iI (p9 f)):=by
 refine eK [] func148 λX=>?_;go_simp;repeat'(first|with_reducible first|apply ai|intro)
 rename_i b;refine lN [] (λi=>[(1,.ptr (.l 1) b 4 0 0),(3,iI (z6 f.blocks i)),(4,iI i)]) (λi=>[(.l 1,⟨b,1,4,60,[Fn.c f],false⟩)]) (λi=>i<=f.blocks.length) (λi=>f.blocks.length-i) 0 ?_
 rintro i hi;have hle:=nX hs i;go_simp;refine⟨λd=>⟨_,zE d,?_⟩,λg=>?_⟩
 ·have h:=hs _ (zM d);have e:=qD d;refine⟨i+1,om,om,?_,wrS om⟩;rw[e,wrS om,AM.Tf om];omega
 ·unfold p9;rw[show i=f.blocks.length by omega]
structure Pt where
 block:Int
 index:Int
deriving DecidableEq
def Pt.c (x:Pt): List AV:=[iI x.block,iI x.index]
def Pt.a (x:Pt): AV:=.agg x.c
attribute [go_sem] Pt.c Pt.a
theorem KY (x:Pt): Pt.mk x.block x.index=x:=rfl
attribute [go_sem] KY
def stN (l:List Bk)(i:Nat): Nat:=match l[i]? with|some b=>b.stmts.length+1|none=>0
def rQ (l:List Bk): Nat->List Pt
 |0=>[]
 |i+1=>rQ l i++(List.range (stN l i)).map λk=>⟨(i:Nat),(k:Nat)⟩
def oy (l:List Bk)(i:Nat): (rQ l i).length=z6 l i:=by
 induction i with
 |zero=>rfl
 |succ i ih=>show(_++_:List Pt).length=z6 l i+_;rw[List.length_append,ih,zU,List.length_range];rfl
def iK {l:List Bk}: ∀ {i:Nat},∀p∈rQ l i,0<=p.block/\p.block<i/\0<=p.index/\p.index<stN l p.block.toNat
 |0,p,h=>by simp[rQ] at h
 |i+1,p,h=>by
  rcases zJ.1 h with h|h
  ·have:=iK p h;omega
  ·obtain⟨k,a,rfl⟩:=List.mem_map.1 h;have:=List.mem_range.1 a
   simp;omega
def ltP (a b:Pt): Prop:=a.block<b.block\/a.block=b.block/\a.index<b.index
def Vc {l:List Bk}: ∀ {i:Nat},(rQ l i).Pairwise ltP
 |0=>List.Pairwise.nil
 |i+1=>by
  refine List.pairwise_append.2 ⟨Vc,?_,λa c b hb=>?_⟩
  ·refine List.pairwise_map.2 (List.Pairwise.imp (fun {a b} h=>Or.inr ⟨rfl,?_⟩) List.pairwise_lt_range);simpa using h
  ·obtain⟨k,d,rfl⟩:=List.mem_map.1 hb;exact Or.inl (iK a c).2.1
def dG {l:List Bk}{b k:Nat}(d:k<stN l b): ∀ {i:Nat},b<i->(rQ l i)[z6 l b+k]?=some ⟨b,k⟩
 |0,h=>absurd h (Nat.not_lt_zero _)
 |i+1,h=>by
  show(_++_:List Pt)[_]?=_;rcases Nat.lt_or_ge b i with c|c
  ·have a:=dG d c;rw[List.getElem?_append_left (zS.1 a).1];exact a
  ·obtain rfl:b=i:=om;rw[List.getElem?_append_right (by rw[oy];omega),oy,show z6 l b+k-z6 l b=k by omega];rw[List.getElem?_map,List.getElem?_range d];rfl
def uS (f:Fn): List Pt:=rQ f.blocks f.blocks.length
def thB (f:Fn)(p:Pt): Bool:=decide (0<=p.block)&&decide (p.block<(f.blocks.length:Int))&&decide (0<=p.index)&&decide (p.index<stN f.blocks p.block.toNat)
def ptE (f:Fn)(p:Pt): Int:=if ¬xt f=0 then xt f else if thB f p then 0 else 2
def ptN (f:Fn)(p:Pt): Int:=z6 f.blocks p.block.toNat+p.index
def Wb (f:Fn)(p:Pt)(hs:∀b∈f.blocks,b.stmts.length<1000000): zK 250 [f.a,p.a] (.bool (thB f p)):=by
 obtain⟨b,i⟩:=p;by_cases h:0<=b
 ·obtain⟨n,hn⟩:∃n:Nat,b=n:=⟨b.toNat,om⟩
  subst hn;by_cases d:n<f.blocks.length
  ·have c:(n:Int)<f.blocks.length:=om;have hx:f.blocks[n]?=some f.blocks[n]:=zE d;have g:stN f.blocks n=f.blocks[n].stmts.length+1:=by unfold stN;rw[hx]
   have k:=hs _ (zM d);have e:thB f ⟨n,i⟩=(decide (0<=i)&&decide (i<=(f.blocks[n].stmts.length:Int))):=by
    unfold thB;simp only[Int.toNat_natCast,g];rw[decide_eq_true om,decide_eq_true om,Bool.eq_iff_iff];simp;omega
   rw[e];clear e g;generalize j:f.blocks[n]=x at *;refine eK [] func250 λX=>?_;go_simp;repeat'(first|with_reducible first|apply ai|intro)
   all_goals omega
  ·have c:¬(n:Int)<f.blocks.length:=om;have e:thB f ⟨n,i⟩=false:=by unfold thB;rw[decide_eq_false c];simp
   rw[e];refine eK [] func250 λX=>?_;go_simp;repeat'(first|with_reducible first|apply ai|intro)
 ·have e:thB f ⟨b,i⟩=false:=by unfold thB;rw[decide_eq_false h];simp
  rw[e];refine eK [] func250 λX=>?_;go_simp;repeat'(first|with_reducible first|apply ai|intro)
  all_goals omega
def n7 (a b:Pt): Int:=if ¬a.block-b.block=0 then a.block-b.block else a.index-b.index
def Lv (x y:Int): zK 251 [.vec 1 [[iI x],[iI y]]] (iI (if ¬x=0 then x else y)):=by
 refine eK [] func251 λX=>?_;go_simp;refine lN [] (λi=>[(3,iI 0),(6,.vec 1 [[iI x],[iI y]]),(7,iI 2),(8,iI i)]) (λi=>[]) (λi=>i<=2/\(0<i->x=0)/\(1<i->y=0)) (λi=>2-i) 0 ?_
 rintro i ⟨hi,a,b⟩;obtain rfl|rfl|rfl:i=0\/i=1\/i=2:=om
 ·clear a b;go_simp;exact⟨λh k=>absurd k h,λh=>⟨1,⟨om,λ_=>h,λh=>absurd h om⟩,om,by decide⟩⟩
 ·have hx:=a om;subst hx;clear a b;go_simp;exact λh=>⟨2,⟨om,λ_=>h⟩,om,by decide⟩
 ·have hx:=a om;have c:=b om;subst hx c;clear a b;go_simp
def Wc (f:Fn)(p:Pt)(c:wfF f): zK 168 [f.a,p.a] (iI (ptE f p)):=by
 have d:=Wb f p λb hb=>(c.2.2 b hb).1;obtain⟨b,i⟩:=p;refine eK [] func168 λX=>?_;go_simp;repeat'(first|((first|apply zd (uW f c)|apply zd d);try go_simp)|with_reducible first|apply ai|intro)
 all_goals simp[ptE, *]
def Wd (a b:Pt)(c:(0<=a.block/\a.block<1000000000)/\0<=a.index/\a.index<1000000000)(d:(0<=b.block/\b.block<1000000000)/\0<=b.index/\b.index<1000000000): zK 170 [a.a,b.a] (iI (n7 a b)):=by
 obtain⟨x,y⟩:=a;obtain⟨z,t⟩:=b;simp only at c d;have e:IntKind.i64.wrap (x-z)=x-z:=AM.Tf om;have f:IntKind.i64.wrap (y-t)=y-t:=AM.Tf om;refine eK [] func170 λX=>?_;go_simp;repeat'(first|(refine gL [.l 15] (Lv (x-z) (y-t)) ?_;try go_simp)|with_reducible first|apply ai|intro)
 all_goals(unfold n7;simp only;split<;>simp_all)
def Lw (a:Pt): Prop:=(0<=a.block/\a.block<1000000000)/\0<=a.index/\a.index<1000000000
def Vd {a b:Pt}: n7 a b<0↔ltP a b:=by unfold n7 ltP;split<;>omega
def Qv {a b:Pt}: n7 a b=0↔a=b:=by
 obtain⟨x,y⟩:=a;obtain⟨z,t⟩:=b;unfold n7;simp only[Pt.mk.injEq];split<;>omega
def Ve {a b:Pt}(h:ltP a b)(k:ltP b a): False:=by unfold ltP at *;omega
def N0 (l:List Pt)(p:Pt)(n:Nat)(hp:l[n]?=some p)(hl:l.length<1000000000000000)(hs:l.Pairwise ltP)(v:∀q∈l,Lw q): zK 169 [.vec 2 (l.map Pt.c),p.a,.fn 170 []] (.tup [iI n,.bool true]):=by
 obtain⟨k,r⟩:=zS.1 hp;have w:=v p (zF hp);have e:∀i j (hi:i<l.length)(B:j<l.length),i<j->ltP l[i] l[j]:=λi j hi B h=>List.pairwise_iff_getElem.1 hs i j hi B h;have t:∀i (hi:i<l.length),i<n->n7 l[i] p<0:=λi hi h=>Vd.2 (by rw[<-r];exact e i n hi k h);have u:∀i (hi:i<l.length),n<=i->¬n7 l[i] p<0:=λi hi h c=>by
  rw[Vd,<-r] at c;rcases Nat.lt_or_ge n i with d|d
  ·exact Ve c (e n i k hi d)
  ·obtain rfl:i=n:=om;exact Ve c c
 have J:vQ Tryz.prog 170:=by go_simp
 have b:∀i (hi:i<l.length),zK 170 [l[i].a,p.a] (iI (n7 l[i] p)):=λi hi=>Wd _ _ (v _ (zM hi)) w;clear hs v e;obtain⟨x,y⟩:=p;refine eK [] func169 λX=>?_;go_simp;intro z;refine lG [] (G:=Nat×Nat) (λg=>[(0,.vec 2 (l.map Pt.c)),(2,.fn 170 []),(4,.ptr (.l 4) z 2 0 0),(8,iI l.length),(9,iI g.1),(10,iI g.2)]) (λg=>[(.l 4,⟨z,1,2,104,[Pt.c ⟨x,y⟩],false⟩)]) (λg=>g.1<=n/\n<=g.2/\g.2<=l.length) (λg=>g.2-g.1) (0,l.length) ?_ (h0:=(by simp;omega))
 rintro⟨i,j⟩ ⟨F,H,I⟩;simp only at F H I;obtain⟨m,hm,L,M⟩:∃m:Nat,IntKind.i64.wrap ((IntKind.u64.wrap (IntKind.i64.wrap ((i:Int)+(j:Int)))).fdiv 2)=(m:Int)/\2*m<=i+j/\i+j<=2*m+1:=by
  refine⟨(i+j)/2,?_,om,om⟩;have C:IntKind.i64.wrap ((i:Int)+(j:Int))=(i:Int)+j:=AM.Tf om;have D:IntKind.u64.wrap ((i:Int)+(j:Int))=(i:Int)+j:=by simp only[IntKind.wrap,IntKind.bits,IntKind.signed];simp;omega
  rw[C,D];have E:((i:Int)+j).fdiv 2=(((i+j)/2:Nat):Int):=by rw[Int.fdiv_eq_ediv_of_nonneg _ om];omega
  rw[E];exact AM.Tf om
 go_simp;clear hm;refine⟨λe=>?_,λK=>?_⟩
 ·have f:m<l.length:=om;have s:=b m f;have t:=t m f;have u:=u m f;refine⟨_,zE f,?_⟩;generalize l[m]=q at s t u ⊢;clear b;repeat'(first|(apply zd s;try go_simp)|with_reducible first|apply ai|intro)
  ·rename_i A;refine⟨m+1,j,⟨?_,om,om⟩,om,wrS om,rfl⟩;rcases Nat.lt_or_ge m n with c|c
   ·omega
   ·exact absurd A (u c)
  ·rename_i A;refine⟨i,m,⟨om,?_,om⟩,om,rfl,rfl⟩;rcases Nat.lt_or_ge m n with c|c
   ·have:=t c;omega
   ·omega
 ·obtain rfl:i=n:=om;have s:=b i k;rw[r] at s;have N:n7 ⟨x,y⟩ ⟨x,y⟩=0:=Qv.2 rfl;rw[N] at s;refine⟨λ_=>⟨_,hp,?_⟩,k⟩;repeat'(first|(apply zd s;try go_simp)|with_reducible first|apply ai|intro)
def ptK (l:List Bk)(b k:Nat): List Pt:=rQ l b++(List.range k).map λk=>⟨(b:Nat),(k:Nat)⟩
def Qw (l:List Bk)(b k:Nat): ptK l b (k+1)=ptK l b k++[⟨(b:Nat),(k:Nat)⟩]:=by unfold ptK;rw[List.range_succ,zV,List.append_assoc];rfl
def Vf (l:List Bk)(b k:Nat): (ptK l b k).length=z6 l b+k:=by unfold ptK;rw[List.length_append,oy,zU,List.length_range]
def Yh (l:List Bk)(b:Nat): ptK l b 0=rQ l b:=by unfold ptK;simp
def Qx (l:List Bk)(b:Nat): ptK l b (stN l b)=rQ l (b+1):=rfl
def cX (f:Fn)(hb:f.blocks.length<1000)(hs:∀b∈f.blocks,b.stmts.length<1000): zK 103 [f.a] (.vec 2 ((uS f).map Pt.c)):=by
 have s:∀i,i<=f.blocks.length->z6 f.blocks i<=i*1000:=λi hi=>by
  clear hb;induction i with
  |zero=>exact Nat.zero_le _
  |succ i ih =>
   have z:=ih om;have m:=qD (l:=f.blocks) (i:=i) om;have n:=hs _ (zM (by omega:i<f.blocks.length));rw[m,Nat.add_mul];omega
 refine eK [] func103 λX=>?_;go_simp;intro e;refine sS 3 (.l 3) 2 104 (by go_simp) (by go_simp) ?_;refine lG [] (G:=Nat×Nat×Nat) (λv=>[(1,.ptr (.l 1) e 4 0 0),(3,.sl (.l 3) v.2.1 2 (rQ f.blocks v.1).length v.2.2),(8,iI f.blocks.length),(9,iI v.1)]) (λv=>[(.l 1,⟨e,1,4,60,[Fn.c f],false⟩),(.l 3,⟨v.2.1,v.2.2,2,104,(rQ f.blocks v.1).map Pt.c,false⟩)]) (λv=>v.1<=f.blocks.length) (λv=>f.blocks.length-v.1) (0,0,0) ?_
 rintro⟨i,c1,c2⟩ hi;simp only at hi;by_cases d:i<f.blocks.length
 ·have hx:f.blocks[i]?=some f.blocks[i]:=zE d;have j:stN f.blocks i=f.blocks[i].stmts.length+1:=by unfold stN;rw[hx]
  have n:=hs _ (zM d);have A:=s i om;have p:=qD d;generalize y:f.blocks[i]=x at *;go_simp;refine zf hP (B:=[]) (G:=Nat×Nat×Nat) (λv=>[(1,.ptr (.l 1) e 4 0 0),(3,.sl (.l 3) v.2.1 2 (ptK f.blocks i v.1).length v.2.2),(4,iI i),(8,iI f.blocks.length),(9,iI i),(19,iI ((x.stmts.length:Int)+1)),(20,iI v.1)])
   (λv=>[(.l 1,⟨e,1,4,60,[Fn.c f],false⟩),(.l 3,⟨v.2.1,v.2.2,2,104,(ptK f.blocks i v.1).map Pt.c,false⟩)]) (λv=>v.1<=x.stmts.length+1) (λv=>x.stmts.length+1-v.1) (0,c1,c2) dk sm ?_ ?_ ?_
  ·go_simp;exact⟨by rw[Yh],wrS om⟩
  ·go_simp;rw[Yh]
  rintro⟨k,c1,c2⟩ u;simp only at u;have q:=Vf f.blocks i k;have r:=Vf f.blocks i (k+1);have g:=Qw f.blocks i k;go_simp;refine⟨λw=>⟨om,λb c=>⟨k+1,om,om,b,c,⟨⟨rfl,om,rfl⟩,wrS om⟩,rfl,rfl,?_⟩⟩,λt=>?_⟩
  ·rw[g,zV,zT (by rw[zU,q];exact Nat.le_refl _)];rfl
  ·have h:ptK f.blocks i k=rQ f.blocks (i+1):=by rw[<-Qx,j];congr 1;omega
   refine⟨i+1,om,om,c1,c2,⟨⟨rfl,?_,rfl⟩,wrS om⟩,rfl,rfl,by rw[h]⟩;rw[oy,p];omega
 ·obtain rfl:i=f.blocks.length:=om;go_simp;rfl
def Vg {f:Fn}(h:xt f=0): f.blocks.length<=24/\∀b∈f.blocks,b.stmts.length<=24:=by
 have:=(tO h).1
 unfold vT at this;simp only[zB,zL,zA] at this;exact⟨this.1.2,λb hb=>by have:=this.2 b hb;unfold pG at this;simpa using this⟩
def Qy {l:List Bk}(h:∀b∈l,b.stmts.length<=24)(i:Nat): z6 l i<=i*25:=by
 induction i with
 |zero=>exact Nat.zero_le _
 |succ i ih =>
  have c:z6 l (i+1)<=z6 l i+25:=by
   show z6 l i+_<=_;refine Nat.add_le_add_left ?_ _;split
   ·rename_i b a;exact Nat.succ_le_succ (h b (zF a))
   ·exact Nat.zero_le _
  rw[Nat.add_mul,Nat.one_mul];omega
def Yi (f:Fn)(p:Pt)(z:wfF f): zK 95 [f.a,p.a] (.tup [iI (if ptE f p=0 then ptN f p else 0),iI (ptE f p)]):=by
 have g:=Wc f p z;by_cases d:ptE f p=0
 ·have j:xt f=0:=by unfold ptE at d;grind
  have c:thB f p=true:=by unfold ptE at d;grind
  obtain⟨A,m⟩:=Vg j;have r:=cX f om λb hb=>by have:=m b hb;omega
  have n:(uS f)[z6 f.blocks p.block.toNat+p.index.toNat]?=some p:=by
   unfold thB at c;simp only[zB,zL] at c;have:=dG (l:=f.blocks) (b:=p.block.toNat) (k:=p.index.toNat) (i:=f.blocks.length) om om
   unfold uS;rw[this,Int.toNat_of_nonneg om,Int.toNat_of_nonneg om]
  have t:=Qy m f.blocks.length;have h:(uS f).length=z6 f.blocks f.blocks.length:=oy _ _;have s:=N0 (uS f) p _ n om Vc λq v=>by
   have hb:=iK q v;have w:stN f.blocks q.block.toNat<=25:=by
    unfold stN;split
    ·rename_i b u;have:=m b (zF u);omega
    ·omega
   unfold Lw;omega
  have e:ptN f p=((z6 f.blocks p.block.toNat+p.index.toNat:Nat):Int):=by
   unfold thB at c;simp only[zB,zL] at c;unfold ptN;omega
  rw[d,if_pos rfl,e];rw[d] at g;clear n t h e d c;obtain⟨x,y⟩:=p;refine eK [] func95 λX=>?_;go_simp;repeat'(first|((first|apply zd g|apply zd r|apply zd s);try go_simp)|with_reducible first|apply ai|intro)
 ·rw[if_neg d];obtain⟨x,y⟩:=p;refine eK [] func95 λX=>?_;go_simp;repeat'(first|(apply zd g;try go_simp)|with_reducible first|apply ai|intro)
def xC (f:Fn)(g:wfF f): zK 51 [f.a] (.tup [.vec 2 (if xt f=0 then(uS f).map Pt.c else []),iI (xt f)]):=by
 by_cases e:xt f=0
 ·obtain⟨k,j⟩:=Vg e;have h:=cX f om λb hb=>by have:=j b hb;omega
  have d:=uW f g;rw[e] at d ⊢;rw[if_pos rfl];refine eK [] func51 λX=>?_;go_simp;repeat'(first|((first|apply zd d|apply zd h);try go_simp)|with_reducible first|apply ai|intro)
 ·rw[if_neg e];have d:=uW f g;refine eK [] func51 λX=>?_;go_simp;repeat'(first|(apply zd d;try go_simp)|with_reducible first|apply ai|intro)
  all_goals first|exact absurd (by assumption) e|trace_state
def Yj:Pl:=⟨0,false,0⟩
def Yk:Opd:=⟨0,0,Yj⟩
def yY:St:=⟨0,Yj,⟨0,0,0,Yk,Yk,Yj⟩,Yk,0⟩
attribute [go_sem] Yj Yk yY
structure z9 (s:Sa): Prop where
 mo:wfM s.mon
 fr:s.frames.length<1000000
 lo:∀x∈s.frames,x.locals.length<1000000
 pr:s.prints.length<1000000
 re:s.result.length<1000000
def tG (s:Sa)(b:z9 s): zK 163 [s.a] (iI (xm s)):=by
 have c:=wb s.mon b.mo;have d:=vM s.mon.mem b.mo.me;have l1:=b.mo.sl;have g:=b.mo.rn;obtain⟨pl,⟨⟨al,nx⟩,st,rn,nt,nc⟩,fr,pr,re⟩:=s;simp only at l1 g;have e:xm ⟨pl,⟨⟨al,nx⟩,st,rn,nt,nc⟩,fr,pr,re⟩=if pl=false then vR ⟨⟨al,nx⟩,st,rn,nt,nc⟩ else if 0<st.length+rn.length\/¬nt=0\/¬nc=0\/¬yq ⟨al,nx⟩=0 then 8 else 0:=by
  cases pl with
  |false=>simp[xm,tu,vR]
  |true =>
   simp only[xm,tu,yq,if_true];grind
 rw[e];clear e;have f:IntKind.i64.wrap ((st.length:Int)+rn.length)=((st.length+rn.length:Nat):Int):=(AM.Tf om).trans om;cases pl with
 |false =>
  refine eK [] func163 λX=>?_;go_simp;repeat'(first|(apply zd c;try go_simp)|with_reducible first|apply ai|intro)
 |true =>
  refine eK [] func163 λX=>?_;go_simp;repeat'(first|(apply zd d;try go_simp)|with_reducible first|apply ai|intro)
  all_goals first|assumption|exact List.eq_nil_of_length_eq_zero om|omega|(exfalso;simp_all;done)|(simp;omega)|trace_state
def vD (t:Ty)(h:yE t=true): zK 175 [t.a] (iI (zg t)):=by
 have b:=pp t;rw[if_pos h] at b;obtain⟨k,o⟩:=t;refine eK [] func175 λX=>?_;go_simp;repeat'(first|(apply zd b;try go_simp)|with_reducible first|apply ai|intro)
def x3 (a e:Int): zK 216 [iU a,iI e] (iU (yw a e)):=by
 refine eK [] func216 λX=>?_;go_simp;repeat'(first|with_reducible first|apply ai|intro)
 all_goals simp[yw, *]
def kv (f:Fn)(k to:Int)(hb:f.blocks.length<1000)(hs:∀b∈f.blocks,b.stmts.length<1000000)(n:0<=k/\k<1000000000000): zK 172 [f.a,iI k,iI to] (.bool (yW f.blocks k to)):=by
 refine eK [] func172 λX=>?_;go_simp;intro y;refine zf hP (B:=[]) (G:=Nat×Int) (λv=>[(1,iI v.2),(2,iI to),(10,vBk_ f.blocks),(11,iI f.blocks.length),(12,iI v.1)])
  (λv=>[]) (λv=>v.1<=f.blocks.length/\yW (f.blocks.drop v.1) v.2 to=yW f.blocks k to/\-(v.1*1000000:Nat)<=v.2/\v.2<1000000000000) (λv=>f.blocks.length-v.1) (0,k) dk ?_ ?_ ?_ ?_
 ·exact⟨Nat.zero_le _,rfl,by simpa using n.1,n.2⟩
 ·go_simp
 ·go_simp
 rintro⟨i,q⟩ ⟨hi,d,p,r⟩;simp only at hi d p r;by_cases e:i<f.blocks.length
 ·have hx:f.blocks[i]?=some f.blocks[i]:=zE e;have t:=hs _ (zM e);have m:f.blocks.drop i=f.blocks[i]::f.blocks.drop (i+1):=List.drop_eq_getElem_cons e;generalize w:f.blocks[i]=x at *;rw[m] at d;clear m;have u:IntKind.i64.wrap ((x.stmts.length:Int)+1)=(x.stmts.length:Int)+1:=AM.Tf om;have j:IntKind.i64.wrap (q-((x.stmts.length:Int)+1))=q-((x.stmts.length:Int)+1):=AM.Tf om;have c:yW f.blocks k to=if q=x.stmts.length then x.jump.kind==4&&x.jump.fn==to else yW (f.blocks.drop (i+1)) (q-(x.stmts.length+1)) to:=d.symm;rw[c];clear d;by_cases g:q=x.stmts.length
  ·rw[if_pos g];have s:¬¬q=x.stmts.length:=λh=>h g;clear c j;subst g;go_simp;exact⟨λh _=>h,λh k=>absurd k h⟩
  ·rw[if_neg g] at c ⊢;rw[<-c];go_simp;refine⟨i+1,q-(x.stmts.length+1),⟨om,rfl,?_,?_⟩,?_,rfl,?_⟩
   ·omega
   ·omega
   ·omega
   ·exact wrS om
 ·obtain rfl:i=f.blocks.length:=om;rw[List.drop_length] at d;rw[<-d];go_simp;exact d.symm
def n8 (m:Me)(n:Int)(hl:m.allocs.length<1000000): zK 164 [m.a,iI n] (iI (atA m n)):=by
 obtain⟨l,next⟩:=m;simp only at hl;have c:yF 249 [.rp [iI n]] Al.a (xO n) l:=⟨by go_simp,λx hx=>by
  have b:xO n x=(x.num==n):=rfl;rw[b];obtain⟨p,q,r⟩:=x;refine eK [] func249 λX=>?_;go_simp⟩
 refine eK [1] func164 λX=>?_;go_simp;repeat'(first|with_reducible first|apply ai|intro)
 refine z5 [.l 3] 3 (SV.ptr rfl rfl rfl rfl sm rfl) ?_;refine aO [] ?_;go_simp;repeat'(first|(apply zd (rG c hl);try go_simp)|with_reducible first|apply ai|intro)
 rfl
def N1 (q:Po)(l:List Po): yF 360 [.rp (Po.c q)] Po.a (xy q.al) l:=⟨by go_simp,λx hx=>by
  have d:xy q.al x=(x.al==q.al):=rfl;rw[d];obtain⟨a,b,c⟩:=x;refine eK [] func360 λX=>?_;go_simp⟩
def frB (p:Pr)(s:Sa): Prop:=∀x∈s.frames,(0<=x.fn/\x.fn<p.funcs.length)/\x.locals.length=(yu p x.fn).locals.length
def kw {p:Pr}{q:Po}{to:Int}{fs:List Fm}(h:∀x∈fs.take i,idx (xy q.al) x.locals<0)(hi:i<=fs.length): wW p q to (fs.drop i)=wW p q to fs:=by
 induction i generalizing fs with
 |zero=>rfl
 |succ i ih =>
  cases fs with
  |nil=>rfl
  |cons x l =>
   have hx:idx (xy q.al) x.locals<0:=h x sm;rw[List.drop_succ_cons,ih (λy a=>h y (by simp[a])) (by simpa using hi)];show _=(if idx (xy q.al) x.locals<0 then wW p q to l else _);rw[if_pos hx]
def jU (p:Pr)(s:Sa)(q:Po)(to:Int)(U:z9 s)(Y:frB p s): zK 255 [p.a,s.a,q.a,iU to] (.bool (we p s q to)):=by
 have L:=N1 q;obtain⟨b,g,d⟩:=q;refine eK [6,1001,3026] func255 λX=>?_;go_simp;intro w E F;refine sj (B:=[6,3026]) hP [(3,iU to),(4,.ptr (.l 4) w 1 0 0),(5,.ptr (.l 5) E 10 0 0),(6,.ptr (.l 6) F 3 0 0),(9,.bool (decide (1<=d)&&decide (d<s.mon.ntag)))]
  [(.l 4,⟨w,1,1,24,[Pr.c p],false⟩),(.l 5,⟨E,1,10,35,[Sa.c s],false⟩),(.l 6,⟨F,1,3,53,[Po.c ⟨b,g,d⟩],false⟩)] dk ?_ ?_
 ·go_simp;exact⟨λh _=>h,λh k=>absurd k om⟩
 go_simp;refine sj (B:=[6]) hP [(3,iU to),(4,.ptr (.l 4) w 1 0 0),(5,.ptr (.l 5) E 10 0 0),(6,.ptr (.l 6) F 3 0 0),(9,.bool (x5 s d))]
  [(.l 4,⟨w,1,1,24,[Pr.c p],false⟩),(.l 5,⟨E,1,10,35,[Sa.c s],false⟩),(.l 6,⟨F,1,3,53,[Po.c ⟨b,g,d⟩],false⟩)] dk ?_ ?_
 ·go_simp;unfold x5;exact⟨λh=>by rw[h];rfl,λh=>by rw[h];simp[Bool.decide_and]⟩
 have P:we p s ⟨b,g,d⟩ to=(x5 s d&&decide (0<=b/\b<s.mon.mem.next)&&wW p ⟨b,g,d⟩ to s.frames):=rfl;rw[P];clear P;generalize x5 s d=D;by_cases j:D=true/\0<=b/\b<s.mon.mem.next
 ·obtain⟨rfl,c1,c2⟩:=j;have c3:¬b<0:=om;have c4:¬s.mon.mem.next<=b:=om;rw[decide_eq_true ⟨c1,c2⟩];go_simp;refine z5 [.l 6] 6 (SV.ptr rfl rfl rfl rfl sm rfl) ?_;refine aO [] ?_;go_simp;refine lN [] (λi=>[(3,iU to),(4,.ptr (.l 4) w 1 0 0),(6,.rp (Po.c ⟨b,g,d⟩)),(47,vFm_ s.frames),(48,iI s.frames.length),(49,iI i)]) (λi=>[(.l 4,⟨w,1,1,24,[Pr.c p],false⟩)]) (λi=>i<=s.frames.length/\∀x∈s.frames.take i,idx (xy b) x.locals<0) (λi=>s.frames.length-i) 0 ?_
  rintro i ⟨hi,K⟩;have z:=kw (p:=p) (q:=⟨b,g,d⟩) (to:=to) K hi;rw[<-z];clear z;have h3:=U.fr;by_cases e:i<s.frames.length
  ·have hm:=λh=>zr K e h;have v:=zM e;have h8:s.frames[i]?=some s.frames[i]:=zE e;have Q:s.frames.drop i=s.frames[i]::s.frames.drop (i+1):=List.drop_eq_getElem_cons e;rw[Q];clear Q;obtain⟨⟨M,N⟩,O⟩:=Y _ v;have A:=U.lo _ v;generalize h4:s.frames[i]=x at *;obtain⟨fn,at_,call,locals⟩:=x;simp only at M N O A;obtain⟨m,rfl⟩:∃m:Nat,fn=m:=⟨fn.toNat,om⟩
   have J:m<p.funcs.length:=om;have H:=Zr (L locals) A;have r:yu p m=p.funcs[m]:=by unfold yu;rw[Int.toNat_natCast,zD,zE J];rfl
   rw[r] at O;have y:wW p ⟨b,g,d⟩ to (⟨m,at_,call,locals⟩::s.frames.drop (i+1))=if idx (xy b) locals<0 then wW p ⟨b,g,d⟩ to (s.frames.drop (i+1)) else sI (p.funcs[m].locals.getD (idx (xy b) locals).toNat ⟨0,0⟩).kind to g:=by
    rw[<-r];rfl
   rw[y];clear y r K v;generalize Z:p.funcs[m]=f at *;by_cases hn:idx (xy b) locals<0
   ·rw[if_pos hn];have I:=hm hn;have h5:¬0<=idx (xy b) locals:=om;generalize idx (xy b) locals=k at *;go_simp;intro G;repeat'(first|(apply zd H;try go_simp)|with_reducible first|apply ai|intro)
    exact⟨i+1,⟨om,I⟩,om,wrS om⟩
   ·rw[if_neg hn];obtain⟨n,u,h6,_⟩:=q9 (by omega:0<=idx (xy b) locals)
    rw[u] at H;rw[u,Int.toNat_natCast];have C:n<f.locals.length:=om;have R:(n:Int)<f.locals.length:=om;have S:(m:Int)<p.funcs.length:=om;rw[zD,zE C,zH];clear hm hn u M N;generalize h7:f.locals[n]=t at *;go_simp;intro G;repeat'(first|(apply zd H;try go_simp)|with_reducible first|apply ai|intro)
    all_goals(unfold sI;first|(simp[*];done)|grind)
  ·obtain rfl:i=s.frames.length:=om;rw[List.drop_length];go_simp;rfl
 ·have V:(D&&decide (0<=b/\b<s.mon.mem.next))=false:=by
   cases D<;>simp at j ⊢;exact j
  rw[V];clear V;by_cases T:D=true
  ·subst T;have j:=not_and.1 j rfl;by_cases h0:0<=b
   ·have h1:s.mon.mem.next<=b:=om;have W:¬b<0:=om;clear j;go_simp
   ·have W:b<0:=om;clear j;go_simp
  ·obtain rfl:D=false:=by simpa using T
   clear j;go_simp
end Go.Proofs.YtllodfoldffonaaGreatDoor
