/- A part of the proof. -/
import Derived.ProofKit
import Derived.ChangeOld
import Derived.Test.YtllodfoldffonaaGreatDoorRows
import Derived.OpenShut
import Derived.Handed
import Derived.SizedLaws
import Derived.Stop.LaidErr
import Derived.Lib.LaidTab
import Derived.Shelf.Vars
import Derived.Lay
import Derived.MakeChecks
import Derived.LaidLaws
import Derived.LaidMore
import Derived.Stop.Joined
import Derived.SevenTiedAt
import Derived.Test.YtllodfoldffonaaGreatDoorQ23
namespace Go.Proofs.YtllodfoldffonaaGreatDoor
open Go.Proofs.Tryz AM Go.RowKit Go.ChangeShapes Go.WideShapes Go.ChangeAt
set_option linter.unusedSimpArgs false
set_option linter.unusedVariables false
set_option linter.defProp false
set_option maxRecDepth 100000
set_option maxHeartbeats 16000000
variable {X:Nat->Prop}{bk:Bk}{cs:List Value}{f:Fn}{fs:Array Field}{fuel:Nat}{k:Nat}{l:List Ce}{n:Nat}{o:Opd}{p:Pr}{s:Sa}{t:TypeId}{w:World}{x:Pl}
def prS (s:Sa)(n:Int): Sa:=⟨s.plain,s.mon,s.frames,s.prints++[n],s.result⟩
attribute [go_sem] prS
def stS (p:Pr)(s:Sa)(x:St): Sa×Int :=
 if x.kind=1 then(if ¬(rvS p s x.r).2.2=0 then(s,(rvS p s x.r).2.2) else asS p (rvS p s x.r).1 x.pl (rvS p s x.r).2.1) else
 if x.kind=3 then rnS s x.loc.toNat else
 if ¬(vlS p s x.a).2.2=0 then(s,(vlS p s x.a).2.2) else
 if x.kind=4 then(if(ce0 (vlS p s x.a).2.1).n=0 then(s,4) else((vlS p s x.a).1,0)) else
 if 200<=(vlS p s x.a).1.prints.length then(s,3) else(prS (vlS p s x.a).1 (ce0 (vlS p s x.a).2.1).n,0)
structure StP (p:Pr)(s:Sa)(x:St): Prop where
 k:x.kind=1\/x.kind=2\/x.kind=3\/x.kind=4
 rv:x.kind=1->RvP p s x.r/\zZ (tyL p s) x.pl=0/\0<=x.pl.field/\x.pl.field<256
 lo:x.kind=3->∃m:Nat,x.loc=m/\m<(zn s).locals.length
 vl:x.kind=2\/x.kind=4->VlP p s x.a/\opE (tyL p s) x.a=0/\opT (tyL p s) x.a=⟨1,0⟩
def Env.rv(h:Env p s){r:Rv}: Env p (rvS p s r).1:=h.same oX (I0 h.v)
def kC(h:Env p s)(b:opE (tyL p s) o=0)(c:opT (tyL p s) o=⟨1,0⟩)(d:(vlS p s o).2.2=0): ∃n,(vlS p s o).2.1 = [ce1 n]:=by
 have a:=nW h.v h.ne b d;rw[c] at a;exact dF a
def y5 (p:Pr): Sa->List Opd->List (List Ce)->Sa×List (List Ce)×Int
 |s,[],a=>(s,a,0)
 |s,o::l,a=>if(vlS p s o).2.2=0 then y5 p (vlS p s o).1 l (a++[(vlS p s o).2.1]) else(s,a,(vlS p s o).2.2)
def rV{l:List Opd}{a:List (List Ce)}(h:(vlS p s o).2.2=0): y5 p s (o::l) a=y5 p (vlS p s o).1 l (a++[(vlS p s o).2.1]):=by
 show(if _ then _ else _)=_;rw[if_pos h]
def pO{l:List Opd}{a:List (List Ce)}(h:¬(vlS p s o).2.2=0): y5 p s (o::l) a=(s,a,(vlS p s o).2.2):=by
 show(if _ then _ else _)=_;rw[if_neg h]
def caS (p:Pr)(s:Sa)(k:Nat)(f:Fn)(args:List Opd): Sa×Int :=
 if ¬(y5 p s args []).2.2=0 then(s,(y5 p s args []).2.2) else puS (y5 p s args []).1 k f (y5 p s args []).2.1
structure CaP (p:Pr)(s:Sa)(k:Nat)(f:Fn)(args:List Opd): Prop where
 ff:p.funcs[k]?=some f
 len:args.length+1<=f.locals.length
 op:∀o∈args,(o.kind=1\/o.kind=2\/o.kind=3)/\(0<=o.pl.field/\o.pl.field<256)/\opE (tyL p s) o=0
def Vt(h:Env p s)(b:opE (tyL p s) o=0)(c:(vlS p s o).2.2=0): 0<(vlS p s o).2.1.length/\(vlS p s o).2.1.length<1000000:=by
 have:=nW h.v h.ne b c
 unfold xh um at this;simp only[zB,zL] at this;have a:=this.1.1;unfold zg at a;split at a<;>omega
def reS (p:Pr)(s:Sa)(bs:List Bk)(j:Ju): Sa×Int :=
 if ¬(zk p s).2.2=0 then(s,(zk p s).2.2) else
 if(zk p s).1.frames = [] then(⟨(zk p s).1.plain,(zk p s).1.mon,(zk p s).1.frames,(zk p s).1.prints,(zk p s).1.result++(zk p s).2.1.map Ce.n⟩,1) else
 if ¬(asS p (zk p s).1 j.dest (zk p s).2.1).2=0 then(s,(asS p (zk p s).1 j.dest (zk p s).2.1).2) else
 (atS (asS p (zk p s).1 j.dest (zk p s).2.1).1 (z6 bs j.next.toNat),0)
structure ReP (p:Pr)(s:Sa)(f:Fn)(j:Ju): Prop where
 len:(zk p s).2.1.length<1000000
 re:(zk p s).1.result.length<1000000
 go:(zk p s).2.2=0->(zk p s).1.frames≠[]->Env p (zk p s).1/\(∃n m x b bk,xR p (zk p s).1 n m x f/\f.blocks[b]?=some bk/\x.at_=z6 f.blocks b+bk.stmts.length/\bk.jump=j) /\
  zZ (tyL p (zk p s).1) j.dest=0/\(0<=j.dest.field/\j.dest.field<256)/\∃i:Nat,j.next=i/\i<=f.blocks.length
def lf: yB s (asS p s x l).1:=by
 unfold asS;split
 ·exact .rfl'
 split
 ·exact .rfl'
 ·exact vA.tr oW
def UH(h:WhV s): WhV (asS p s x l).1:=by
 unfold asS;split
 ·exact h
 split
 ·exact h
 ·exact mR (p7 h)
def xR.same{s s':Sa}{n m:Nat}{x:Fm}(K:xR p s n m x f)(h:yB s s'): xR p s' n m x f :=
 ⟨(f9 h).trans K.top,by rw[h.fr];exact K.n1,by rw[h.fr];exact K.nx,K.fn,K.ff,K.fs,K.len,K.at_,K.ge,(wn h).trans K.tyl⟩
def juS (p:Pr)(s:Sa)(f:Fn)(k:Nat)(g:Fn)(bs:List Bk)(c:Ju)(j:Ju): Sa×Int :=
 if j.kind=1 then(atS s (z6 f.blocks j.next.toNat),0) else
 if j.kind=2 then(if ¬(vlS p s j.a).2.2=0 then(s,(vlS p s j.a).2.2) else if(ce0 (vlS p s j.a).2.1).n=0 then(atS (vlS p s j.a).1 (z6 f.blocks j.els.toNat),0) else(atS (vlS p s j.a).1 (z6 f.blocks j.next.toNat),0)) else
 if j.kind=4 then caS p s k g j.args else if j.kind=5 then(s,4) else reS p s bs c
structure JuP (p:Pr)(s:Sa)(f:Fn)(k:Nat)(g:Fn)(h:Fn)(c:Ju)(j:Ju): Prop where
 kd:j.kind=1\/j.kind=2\/j.kind=3\/j.kind=4\/j.kind=5
 top:∃n m x,xR p s n m x f
 nx:j.kind=1\/j.kind=2->∃i:Nat,j.next=i/\i<=f.blocks.length
 el:j.kind=2->∃i:Nat,j.els=i/\i<=f.blocks.length
 vl:j.kind=2->VlP p s j.a/\opE (tyL p s) j.a=0/\opT (tyL p s) j.a=⟨1,0⟩
 ca:j.kind=4->CaP p s k g j.args/\j.fn=k
 re:j.kind=3->ReP p s h c
def iP {s s':Sa}(h:yB s s'): s'.frames.length=s.frames.length/\(zn s').at_=(zn s).at_:=⟨by rw[h.fr],by rw[f9 h]⟩
def NE(a:s.frames≠[]): (rnS s k).1.frames.length=s.frames.length/\(zn (rnS s k).1).at_=(zn s).at_:=by
 have hl:=List.length_pos_iff.2 a;have b:∀(A:Sa)(q:Po) (x:Fm),A.frames=s.frames->(n9 A (s.frames.length-1) k x q).frames.length=s.frames.length/\(zn (n9 A (s.frames.length-1) k x q)).at_=x.at_:=λA q x e=>by
  unfold n9;refine⟨by simp[e],?_⟩;simp only[zn,List.length_set,e];rw[zD,List.getElem?_set_self om];rfl
 unfold rnS;split
 ·exact⟨rfl,rfl⟩
 split
 ·exact⟨rfl,rfl⟩
 ·have c:=(@aA s ((zn s).locals.getD k po0).al).tr (@az (sEd s ((zn s).locals.getD k po0).al).1 (yZ s.mon.mem ((zn s).locals.getD k po0).al).cells.length);exact b _ _ _ c.fr
def Vu{x:St}(b:s.frames≠[]): (stS p s x).1.frames.length=s.frames.length/\(zn (stS p s x).1).at_=(zn s).at_:=by
 unfold stS;split
 ·split
  ·exact⟨rfl,rfl⟩
  ·exact iP (oX.tr lf)
 split
 ·exact NE b
 split
 ·exact⟨rfl,rfl⟩
 split
 ·split
  ·exact⟨rfl,rfl⟩
  ·exact iP wm
 split
 ·exact⟨rfl,rfl⟩
 ·have h:=iP (@wm p s x.a);exact⟨h.1,h.2⟩
def sdS (p:Pr)(s:Sa)(f:Fn)(k:Nat)(g:Fn)(bs:List Bk)(c:Ju)(bk:Bk)(i:Nat): Sa×Int :=
 if i<bk.stmts.length then(if ¬(stS p s (bk.stmts.getD i yY)).2=0 then(s,(stS p s (bk.stmts.getD i yY)).2) else(atS (stS p s (bk.stmts.getD i yY)).1 ((zn s).at_+1),0)) else
 if ¬(juS p s f k g bs c bk.jump).2=0/\¬(juS p s f k g bs c bk.jump).2=1 then(s,(juS p s f k g bs c bk.jump).2) else juS p s f k g bs c bk.jump
structure SdP (p:Pr)(s:Sa)(f:Fn)(k:Nat)(g h:Fn)(c:Ju)(bk:Bk)(i:Nat): Prop where
 top:∃n m x b,xR p s n m x f/\f.blocks[b]?=some bk/\x.at_=z6 f.blocks b+i/\i<bk.stmts.length+1
 st:i<bk.stmts.length->StP p s (bk.stmts.getD i yY)
 ju:¬i<bk.stmts.length->JuP p s f k g h c bk.jump
def rgL (l:List Ce): Prop:=∀c∈l,rgN c.n
def rgC (s:Sa): Prop:=∀a∈s.mon.mem.allocs,rgL a.cells
def P2:rgN 0:=by unfold rgN;omega
def IK:rgL [ceZ]:=λc a=>by rw[zX.1 a];exact P2
def dQ{q:Po}{n:Int}(e:¬(sLd s q n).2.2=0): (sLd s q n).2.1 = []:=by
 unfold sLd at e ⊢;split
 ·rename_i c;rw[if_pos c] at e;exact absurd rfl e
 ·rfl
def Sw(h:WhV s)(b:rgC s){q:Po}{n:Int}: rgC (sLd s q n).1/\rgL (sLd s q n).2.1:=by
 obtain⟨i,m,r⟩:=pz h (q:=q) (n:=n);refine⟨by unfold rgC;rw[i];exact b,λc a=>?_⟩;by_cases e:(sLd s q n).2.2=0
 ·obtain⟨k,X,d,j,g,f4⟩:=uD h e;exact b X (zF d.hx) c (g c a).1
 ·rw[dQ e] at a;simp at a
def LI(h:WhV s)(j:rgC s){q:Po}(hl:rgL l): rgC (sSt s q l).1:=by
 unfold sSt;by_cases e:yw (gSt s q l).2.1 (gSt s q l).2.2=0
 ·rw[if_pos e];obtain⟨r,u⟩:=yX.1 e;obtain⟨a,b,c,d,_,v,y⟩:=mQ h r u;obtain⟨k,X,F⟩:=i4 v y;show ∀a∈(gSt s q l).1.mem.allocs,_;rw[b,F.eq];intro a i c m;rcases List.mem_or_eq_of_mem_set i with i|rfl
  ·exact j a i c m
  ·rcases i3 m with g|g
   ·exact j X (zF F.hx) c g
   ·exact hl c g
 ·rw[if_neg e];exact j
def LJ(h:WhV s)(a:rgC s): rgC (fdS p s x).1:=by
 unfold fdS;split
 ·exact a
 split
 ·exact a
 split
 ·exact a
 ·exact(Sw h a).1
def Sx(h:WhV s)(a:rgC s)(j:o.kind=1->rgN o.n): rgC (vlS p s o).1/\rgL (vlS p s o).2.1:=by
 have e:=p7 h (p:=p) (x:=o.pl);have g:=LJ h a (p:=p) (x:=o.pl);have b:=Sw e g (q:=(fdS p s o.pl).2.1) (n:=(fdS p s o.pl).2.2.1);have i:=qn e (q:=(fdS p s o.pl).2.1) (n:=(fdS p s o.pl).2.2.1);have hn:rgL []:=λc d=>by simp at d
 unfold vlS;split
 ·rename_i k;refine⟨a,λc d=>?_⟩;rw[zX.1 d];exact j k
 split
 ·exact⟨a,hn⟩
 split
 ·exact⟨a,hn⟩
 split
 ·exact⟨a,hn⟩
 split
 ·exact b
 split
 ·exact⟨a,hn⟩
 ·exact⟨LI i b.1 IK,b.2⟩
def Sy(h:rgL l): rgN (ce0 l).n:=by
 unfold ce0;cases l with
 |nil=>exact P2
 |cons a l=>exact h a sm
def fR(h:xT x=0): x.field<256:=by
 unfold xT at h;split at h
 ·simp at h
 ·omega
def fS(h:plZ x=true): x.field<256:=by unfold plZ at h;simp at h;omega
def se(h:zq o=0): (o.kind=1\/o.kind=2\/o.kind=3)/\o.pl.field<256:=by
 unfold zq at h;split at h
 ·rename_i k;split at h
  ·rename_i a;exact⟨Or.inl k,fS a⟩
  ·simp at h
 split at h
 ·rename_i k;exact⟨Or.inr k.1,fR h⟩
 ·simp at h
def kD(h:wG o=true): o.pl.field<256:=by unfold wG at h;simp only[zB] at h;exact fS h.2
def kE {r:Rv}(h:xG r=true): (1<=r.kind/\r.kind<=5)/\r.a.pl.field<256/\r.b.pl.field<256/\r.pl.field<256/\0<=r.bo/\(r.kind<=3->zq r.a=0)/\(r.kind=2\/r.kind=3->zq r.b=0)/\(r.kind=4->1<=r.bo/\r.bo<=3):=by
 unfold xG at h;simp only[Bool.or_eq_true,zB,beq_iff_eq,zL] at h;rcases h with(((h|h)|h)|h)|h
 ·obtain⟨⟨⟨⟨⟨k,a⟩,b⟩,c⟩,d⟩,e⟩:=h;exact⟨om,(se a).2,kD b,fS c,om,λ_=>a,λz=>by omega,λz=>by omega⟩
 ·obtain⟨⟨⟨⟨⟨k,a⟩,b⟩,c⟩,d⟩,e⟩:=h;exact⟨om,(se a).2,(se b).2,fS c,om,λ_=>a,λ_=>b,λz=>by omega⟩
 ·obtain⟨⟨⟨⟨⟨k,a⟩,b⟩,c⟩,d⟩,e⟩:=h;exact⟨om,(se a).2,(se b).2,fS c,om,λ_=>a,λ_=>b,λz=>by omega⟩
 ·obtain⟨⟨⟨⟨⟨k,a⟩,b⟩,c⟩,d⟩,e⟩:=h;exact⟨om,kD a,kD b,fR c,om,λz=>by omega,λz=>by omega,λ_=>e⟩
 ·obtain⟨⟨⟨⟨⟨k,a⟩,b⟩,c⟩,d⟩,e⟩:=h;exact⟨om,kD a,kD b,fR c,om,λz=>by omega,λz=>by omega,λz=>by omega⟩
def aC {ts:List Ty}{t:Ty}(h:ny ts x t=0): zZ ts x=0/\zu ts x=t:=by
 unfold ny at h;have c1:uN ts x=0:=zC λc=>by rw[if_pos c] at h;exact c h
 rw[if_neg (by simpa using c1)] at h;have c2:zu ts x=t:=zC λc=>by rw[if_neg c] at h;simp at h
 refine⟨?_,c2⟩;unfold uN at c1;exact zC λc=>by rw[if_neg c] at c1;exact c c1
def rgK (x:St): Prop:=rgN x.r.a.n/\rgN x.r.b.n
def Ez{r:Rv}(d:Env p s)(h:rgC s)(i:xG r=true)(j:rvE (tyL p s) r=0)(c:0<=r.pl.field/\0<=r.a.pl.field/\0<=r.b.pl.field)(e:rgN r.a.n/\rgN r.b.n): RvP p s r:=by
 obtain⟨k1,m,q,u,y,A,B,_⟩:=kE i;have g:=Sx d.v.wh h (p:=p) (o:=r.a) λ_=>e.1;have C:=Sx (qp d.v (o:=r.a)).wh g.1 (p:=p) (o:=r.b) λ_=>e.2;exact⟨k1,j,⟨c.1,u⟩,y,⟨c.2.1,m⟩,⟨c.2.2,q⟩,λz=>(se (A z)).1,λz=>(se (B z)).1,λ_ _=>Sy g.2,λ_ _=>Sy C.2⟩
def LK(g:zq o=0)(e:0<=o.pl.field)(h:v8 (tyL p s) [o]=0): VlP p s o/\opE (tyL p s) o=0/\opT (tyL p s) o=⟨1,0⟩:=by
 obtain⟨a,b⟩:=fB h o sm;obtain⟨c,d⟩:=se g;exact⟨rC c ⟨e,d⟩ a,a,b⟩
def E0{n m:Nat}{x:Fm}{st:St}(i:Env p s)(K:xR p s n m x f)(h:rgC s)(g:y6 st=true)(e:wo f.locals st=0)(q:rgS st)(j:rgK st): StP p s st:=by
 rw[<-K.tyl] at e;obtain⟨u,v,y,A,B⟩:=q;unfold y6 at g;unfold wo at e;simp only[Bool.or_eq_true,zB,beq_iff_eq,zL] at g;rcases g with(g|g)|g
 ·obtain⟨⟨⟨⟨k,a⟩,b⟩,c⟩,d⟩:=g;rw[if_pos k] at e;have c1:rvE (tyL p s) st.r=0:=zC λc=>by rw[if_pos c] at e;exact c e
  rw[if_neg (by simpa using c1)] at e;exact⟨om,λ_=>⟨Ez i h b c1 ⟨A,v,y⟩ j,(aC e).1,u,fR a⟩,λz=>by omega,λz=>by omega⟩
 ·obtain⟨⟨⟨⟨k,a⟩,b⟩,c⟩,d⟩:=g;rw[if_neg om,if_neg om] at e;exact⟨om,λz=>by omega,λz=>by omega,λ_=>LK c B e⟩
 ·obtain⟨⟨⟨⟨k,a⟩,b⟩,c⟩,d⟩:=g;rw[if_neg om,if_pos k] at e;refine⟨om,λz=>by omega,λ_=>⟨st.loc.toNat,om,?_⟩,λz=>by omega⟩;rw[K.top,K.len,<-K.tyl];split at e
  ·simp at e
  ·omega
def oZ (b:Bk)(l:List Bk)(i:Nat): z6 (b::l) (i+1)=(b.stmts.length+1)+z6 l i:=by
 induction i with
 |zero=>simp[z6]
 |succ i ih =>
  show z6 (b::l) (i+1)+_=_+(z6 l i+_)
  rw[ih,List.getElem?_cons_succ];omega
def Vv:∀ {l:List Bk} {k to:Int},yW l k to=true->∃(b:Nat)(bk:Bk),l[b]?=some bk/\k=z6 l b+bk.stmts.length/\bk.jump.kind=4/\bk.jump.fn=to
 |[],_,_,h=>by simp[yW] at h
 |a::l,k,to,h=>by
  unfold yW at h;by_cases c:k=a.stmts.length
  ·rw[if_pos c] at h;simp only[zB,beq_iff_eq] at h;exact⟨0,a,rfl,by simp[z6,c],h.1,h.2⟩
  ·rw[if_neg c] at h;obtain⟨b,bk,d,g,e⟩:=Vv h;exact⟨b+1,bk,by simpa using d,by rw[oZ];omega,e⟩
def Vw:∀ {l:List Bk} {b:Nat} {bk:Bk} {to:Int},l[b]?=some bk->bk.jump.kind=4->bk.jump.fn=to->yW l ((z6 l b:Int)+bk.stmts.length) to=true
 |[],_,_,_,h,_,_=>by simp at h
 |a::l,0,bk,to,h,hk,hf=>by
  simp only[List.getElem?_cons_zero,zQ] at h;subst h;unfold yW;rw[if_pos (by simp[z6])];simp[hk,hf]
 |a::l,b+1,bk,to,h,hk,hf=>by
  rw[List.getElem?_cons_succ] at h;have ih:=Vw h hk hf;unfold yW;rw[if_neg (by rw[oZ];omega)];rw[show((z6 (a::l) (b+1):Nat):Int)+bk.stmts.length-(a.stmts.length+1)=(z6 l b:Int)+bk.stmts.length by rw[oZ];omega];exact ih
def Sz:∀ {l:List Bk} {k:Int},0<=k->k<(l.map λb=>(b.stmts.length:Int)+1).sum->∃(b i:Nat)(bk:Bk),l[b]?=some bk/\k=z6 l b+i/\i<bk.stmts.length+1
 |[],k,h0,h=>by simp at h;omega
 |a::l,k,h0,h=>by
  rw[List.map_cons,List.sum_cons] at h;by_cases c:k<a.stmts.length+1
  ·exact⟨0,k.toNat,a,rfl,by simp[z6];omega,om⟩
  ·obtain⟨b,i,bk,d,g,e⟩:=Sz (l:=l) (k:=k-(a.stmts.length+1)) om om;exact⟨b+1,i,bk,by simpa using d,by rw[oZ];omega,e⟩
structure BkF (p:Pr)(f:Fn)(bk:Bk): Prop where
 st:∀x∈bk.stmts,y6 x=true/\wo f.locals x=0
 ju:yJ bk.jump=true
 go:goE p.funcs f.locals bk.jump=0
 ca:w6 p.funcs bk=true
 ld:∀t∈xx bk.jump,t<(f.blocks.length:Int)
def QE(d:wfP p)(a:tyE p=0)(e:f∈p.funcs)(hb:bk∈f.blocks): BkF p f bk:=by
 have q:tV (fuE p.funcs) p.funcs=0:=by unfold tyE at a;rw[if_neg (by simp[vW a])] at a;exact a
 have h:=mS q f e;unfold fuE at h;have b:=mS h bk hb;have g:=(oY d (vW a)).2.2 f e;obtain⟨r,u,i,j,m⟩:=g.st bk hb;unfold blE at b;have c1:tV (wo f.locals) bk.stmts=0:=zC λc=>by rw[if_pos c] at b;exact c b
 rw[if_neg (by simpa using c1)] at b;refine⟨λx hx=>⟨m x hx,mS c1 x hx⟩,i,b,j,?_⟩;have hm:=(tO (s8 d (vW a) f e).er).2.1;unfold xJ at hm;simp only[zB,zA] at hm;have:=hm.2 bk hb
 unfold bkB juB at this;simp only[zB,zA,zL] at this;exact this.2.2.2
def Vx {ts:List Ty}: ∀ {l:List Opd},x9 ts l=0->∀o∈l,opE ts o=0
 |[],_,o,b=>by simp at b
 |a::l,hf,o,b=>by
  unfold x9 at hf;have e:opE ts a=0:=zC λd=>by rw[if_pos d] at hf;exact d hf
  rw[if_neg (by simpa using e)] at hf;rcases List.mem_cons.1 b with rfl|b
  ·exact e
  ·exact Vx hf o b
def Y8 {j:Ju}(h:yJ j=true): (j.kind=1\/j.kind=2\/j.kind=3\/j.kind=4\/j.kind=5)/\(0<=j.next/\0<=j.els)/\(j.kind=2->zq j.a=0)/\(j.kind=4->(0<=j.fn/\j.fn<8)/\j.args.length<=8/\xT j.dest=0/\∀o∈j.args,zq o=0):=by
 unfold yJ blk at h;simp only[Bool.or_eq_true,zB,beq_iff_eq,zL,zA] at h;rcases h with((h|h)|h)|h
 ·obtain⟨⟨⟨⟨k,a⟩,b⟩,c⟩,d⟩:=h;exact⟨om,om,λz=>by omega,λz=>by omega⟩
 ·obtain⟨⟨⟨⟨k,a⟩,b⟩,c⟩,d⟩:=h;exact⟨om,om,λ_=>b,λz=>by omega⟩
 ·obtain⟨⟨⟨⟨k,a⟩,b⟩,c⟩,d⟩:=h;exact⟨om,om,λz=>by omega,λz=>by omega⟩
 ·obtain⟨⟨⟨⟨⟨⟨⟨k,a⟩,b⟩,c⟩,d⟩,e⟩,f⟩,g⟩:=h;exact⟨om,om,λz=>by omega,λ_=>⟨b,c,d,g⟩⟩
structure CaF (p:Pr)(f g:Fn)(j:Ju): Prop where
 lt:j.fn<(p.funcs.length:Int)
 ge:p.funcs[j.fn.toNat]?=some g
 n:(j.args.length:Int)=g.params
 op:∀o∈j.args,opE f.locals o=0
 ty:s0 f.locals g.locals j.args j.args.length=true
 ds:zZ f.locals j.dest=0/\zu f.locals j.dest=g.locals.getD 0 ⟨0,0⟩
 sz:j.args.length+1<=g.locals.length
def QF(h:wfP p)(d:tyE p=0)(B:BkF p f bk)(a:bk.jump.kind=4): ∃g,CaF p f g bk.jump:=by
 obtain⟨r,u,v,y⟩:=(Y8 B.ju).2.2.2 a;have c:=B.ca;unfold w6 at c;rw[a] at c;simp only[beq_self_eq_true,Bool.not_true,Bool.false_or,zB,zL] at c;obtain⟨c1,c2⟩:=c;have b:bk.jump.fn.toNat<p.funcs.length:=om;have m:p.funcs[bk.jump.fn.toNat]?=some (p.funcs.getD bk.jump.fn.toNat fnz):=by rw[zD,zE b];rfl
 have q:=(oY h (vW d)).2.2 _ (zF m);have e:=B.go;unfold goE at e;rw[if_neg om,if_pos a] at e;unfold caE at e;rw[if_neg om] at e;have i:x9 f.locals bk.jump.args=0:=zC λc=>by rw[if_pos c] at e;exact c e
 rw[if_neg (by simpa using i)] at e;have j:s0 f.locals (p.funcs.getD bk.jump.fn.toNat fnz).locals bk.jump.args bk.jump.args.length=true:=zC λc=>by rw[if_neg c] at e;simp at e
 rw[if_pos j] at e;refine⟨_,c1,m,c2,Vx i,j,aC e,?_⟩;have:=q.pl
 omega
def Y9 {p:Pr}: ∀ {l:List Fm} {y x:Fm},sw p (l++[y,x])=true->yW (yu p y.fn).blocks y.at_ x.fn=true
 |[],y,x,h=>by
  simp only[List.nil_append] at h;rw[mU,zB] at h;exact h.1
 |a::l,y,x,h=>by
  rw[List.cons_append,mU,zB] at h;exact Y9 h.2
def rW: (zk p s).1.plain=s.plain/\(zk p s).1.prints=s.prints/\(zk p s).1.result=s.result:=by
 unfold zk;split
 ·exact⟨rfl,rfl,rfl⟩
 split
 ·exact⟨rfl,rfl,rfl⟩
 ·exact⟨rfl,rfl,rfl⟩
def j9(h:SaV p s)(a:s.frames≠[]): s.result.length=0:=by
 have:=h.res
 unfold uO at this;rw[if_neg (λe=>a (List.eq_nil_of_length_eq_zero e))] at this;omega
def QG(d:Env p s)(z:(zk p s).2.2=0)(g:(zk p s).1.frames≠[]): Env p (zk p s).1:=by
 obtain⟨a,b,c⟩:=Yb d.v d.ne z;refine⟨d.wp,d.ty,?_,g⟩;refine c (zk p s).1.result ?_;rw[rW.2.2,j9 d.v d.ne,if_neg (λe=>g (by rw[b];exact List.eq_nil_of_length_eq_zero e))];rfl
def juz:Ju:=⟨0,Yk,0,0,0,[],Yj⟩
structure ReF (p:Pr)(s:Sa)(h:Fn)(c:Ju): Prop where
 env:Env p (zk p s).1
 top:∃n m x b bk,xR p (zk p s).1 n m x h/\h.blocks[b]?=some bk/\x.at_=(z6 h.blocks b:Int)+bk.stmts.length/\bk.jump=c/\BkF p h bk
 kd:c.kind=4
 fn:c.fn=(zn s).fn
def LM(d:Env p s)(z:(zk p s).2.2=0)(e:(zk p s).1.frames≠[]): ∃h c,ReF p s h c:=by
 have q:=QG d z e;obtain⟨a,b,c⟩:=Yb d.v d.ne z;obtain⟨n,m,x,f,K⟩:=q.top;have hx:=d.v.nex;rw[nU d.ne,<-b,nU e,List.append_assoc] at hx;have j:=Y9 hx;rw[K.top,K.ge] at j;obtain⟨i,bk,g,r,u,y⟩:=Vv j;exact⟨f,bk.jump,q,⟨n,m,x,i,bk,K,g,r,rfl,QE d.wp d.ty (zF K.ff) (zF g)⟩,u,y⟩
def S0(b:rgP p)(a:f∈p.funcs)(hb:bk∈f.blocks): rgJ bk.jump:=(b f a bk hb).2
def ReF.P{h:Fn}{c:Ju}(a:Env p s)(q:rgP p)(R:ReF p s h c)(hl:(zk p s).2.1.length<1000000): ReP p s h c:=by
 obtain⟨n,m,x,b,bk,K,e,i,rfl,B⟩:=R.top;obtain⟨g,C⟩:=QF a.wp a.ty B R.kd;have j:=Y8 B.ju;have d:=S0 q (zF K.ff) (zF e);refine⟨hl,by rw[rW.2.2,j9 a.v a.ne];decide,λ_ _=>⟨R.env,⟨n,m,x,b,bk,K,e,i,rfl⟩,?_,⟨d.2.1,fR (j.2.2.2 R.kd).2.2.1⟩,bk.jump.next.toNat,om,?_⟩⟩
 ·rw[K.tyl];exact C.ds.1
 ·have:=B.ld bk.jump.next (by unfold xx;rw[if_neg (by have:=R.kd;omega),if_neg (by have:=R.kd;omega)];simp)
  omega
def mf(h:WhV s): (zk p s).2.1.length<1000000:=by
 unfold zk;split
 ·simp
 split
 ·simp
 ·exact Vl h
def E3(b:Env p s)(g:rgP p): ∃h c,ReP p s h c/\((zk p s).2.2=0->(zk p s).1.frames≠[]->ReF p s h c):=by
 have hl:=mf (p:=p) b.v.wh;by_cases z:(zk p s).2.2=0
 ·by_cases e:(zk p s).1.frames = []
  ·exact⟨fnz,juz,⟨hl,by rw[rW.2.2,j9 b.v b.ne];decide,λ_ d=>absurd e d⟩,λ_ d=>absurd e d⟩
  ·obtain⟨h,c,R⟩:=LM b z e;exact⟨h,c,R.P b g hl,λ_ _=>R⟩
 ·exact⟨fnz,juz,⟨hl,by rw[rW.2.2,j9 b.v b.ne];decide,λa=>absurd a z⟩,λa=>absurd a z⟩
structure JuQ (p:Pr)(s:Sa)(f:Fn)(k:Nat)(g h:Fn)(c j:Ju): Prop where
 P:JuP p s f k g h c j
 ca:j.kind=4->CaF p f g j/\j.fn=k
 re:j.kind=3->(zk p s).2.2=0->(zk p s).1.frames≠[]->ReF p s h c
 oe:j.kind=2->zq j.a=0
 ca2:j.kind=4->∀o∈j.args,zq o=0
def E4{n m:Nat}{x:Fm}(b:Env p s)(K:xR p s n m x f)(D:rgP p)(hb:bk∈f.blocks): ∃k g h c,JuQ p s f k g h c bk.jump:=by
 have B:=QE b.wp b.ty (zF K.ff) hb;have r:=S0 D (zF K.ff) hb;obtain⟨J,L,E,I⟩:=Y8 B.ju;obtain⟨h,c,G,y⟩:=E3 b D;have j:bk.jump.kind=1\/bk.jump.kind=2->∃i:Nat,bk.jump.next=i/\i<=f.blocks.length:=λz=>by
  have:=B.ld bk.jump.next (by unfold xx;rw[if_neg om];split<;>simp)
  exact⟨bk.jump.next.toNat,om,om⟩
 have d:bk.jump.kind=2->∃i:Nat,bk.jump.els=i/\i<=f.blocks.length:=λz=>by
  have:=B.ld bk.jump.els (by
   unfold xx;rw[if_neg om];by_cases e:bk.jump.els=bk.jump.next
   ·rw[if_neg (λq=>q.2 e),e];simp
   ·rw[if_pos ⟨z,e⟩];simp)
  exact⟨bk.jump.els.toNat,om,om⟩
 have u:bk.jump.kind=2->VlP p s bk.jump.a/\opE (tyL p s) bk.jump.a=0/\opT (tyL p s) bk.jump.a=⟨1,0⟩:=λz=>by
  have e:=B.go;unfold goE at e;rw[if_pos z,<-K.tyl] at e;exact LK (E z) r.1 e
 by_cases F:bk.jump.kind=4
 ·obtain⟨g,C⟩:=QF b.wp b.ty B F;obtain⟨M,N,O,A⟩:=I F;have e:bk.jump.fn=(bk.jump.fn.toNat:Nat):=om;exact⟨bk.jump.fn.toNat,g,h,c,⟨om,⟨n,m,x,K⟩,j,d,u,λ_=>⟨⟨C.ge,C.sz,λo v=>⟨(se (A o v)).1,⟨r.2.2 o v,(se (A o v)).2⟩,by rw[K.tyl];exact C.op o v⟩⟩,e⟩,λz=>by omega⟩,λ_=>⟨C,e⟩,λz=>by omega,λz=>by omega,λ_=>A⟩
 ·exact⟨0,fnz,h,c,⟨om,⟨n,m,x,K⟩,j,d,u,λz=>by omega,λ_=>G⟩,λz=>by omega,λ_=>y,E,λz=>by omega⟩
def kF (p:Pr): Prop:=∀f∈p.funcs,∀b∈f.blocks,∀x∈b.stmts,rgK x
structure SdQ (p:Pr)(s:Sa)(f:Fn)(k:Nat)(g h:Fn)(c:Ju)(bk:Bk)(i n m b:Nat)(x:Fm): Prop where
 P:SdP p s f k g h c bk i
 K:xR p s n m x f
 hb:f.blocks[b]?=some bk
 at_:x.at_=(z6 f.blocks b:Int)+i
 hi:i<bk.stmts.length+1
 B:BkF p f bk
 ju:JuQ p s f k g h c bk.jump
def LN(d:Env p s)(r:rgC s)(q:rgP p)(u:kF p): ∃f k g h c bk i n m b x,SdQ p s f k g h c bk i n m b x:=by
 obtain⟨n,m,x,f,K⟩:=d.top;obtain⟨b,i,bk,hb,a,hi⟩:=Sz K.at_.1 K.at_.2;have B:=QE d.wp d.ty (zF K.ff) (zF hb);obtain⟨k,g,h,c,J⟩:=E4 d K q (zF hb);refine⟨f,k,g,h,c,bk,i,n,m,b,x,⟨⟨n,m,x,b,K,hb,a,hi⟩,λj=>?_,λ_=>J.P⟩,K,hb,a,hi,B,J⟩;have e:bk.stmts.getD i yY∈bk.stmts:=by rw[zD,zE j,zH];exact zM _
 obtain⟨v,y⟩:=B.st _ e;exact E0 d K r v y ((q f (zF K.ff) bk (zF hb)).1 _ e) (u f (zF K.ff) bk (zF hb) _ e)
section
variable {H:Type} {enc:TypeId×Value -> H} {P:Program} {w:World} {sp:Nat -> Bool}
def YA {b:Type}{Q:Nat->b->Prop}: ∀(len:Nat),(∀i,i<len->∃x,Q i x)->∃xs:List b,xs.length=len/\∀i (hi:i<xs.length),Q i xs[i]
 |0,_=>⟨[],rfl,λi hi=>by cases hi⟩
 |m+1,key=>by
  obtain⟨xs,a,hx⟩:=YA m (λi hi=>key i om);obtain⟨x,c⟩:=key m om;refine⟨xs++[x],by simp[a],λi hi=>?_⟩;by_cases q:i<xs.length
  ·rw[List.getElem_append_left q];exact hx i q
  ·obtain rfl:i=m:=by simp at hi;omega
   rw[List.getElem_append_right om];simpa[a] using c
def P3 {X:Nat->Prop}{b k:Nat}: ∀ {l:List (List AV)} {o:Nat},(∀i (hi:i<l.length),l[i].length=k/\∃cs,RL X w l[i] cs/\AM.yL w b (o+i*k) cs)->RR X w b o k l
 |[],_,_=>by simp[RR]
 |r::l,o,h=>by
  unfold RR;obtain⟨a,c⟩:=h 0 sm;refine⟨a,by simpa using c,P3 λi hi=>?_⟩;obtain⟨d,cs,e,g⟩:=h (i+1) (by simp;omega);refine⟨d,cs,e,?_⟩;rw[show o+k+i*k=o+(i+1)*k by rw[Nat.succ_mul];omega];exact g
def ba{b o:Nat}{v:Value}(h:w.cell? ⟨b,o,none⟩=some v): b<w.heap.size:=by
 unfold World.cell? at h;rcases Nat.lt_or_ge b w.heap.size with k|k
 ·exact k
 ·rw[Array.getElem?_eq_none k] at h;cases h
def QH {G:Type}{c:G->List AV}{Q:G->Prop}{t e:TypeId}{y:DataW H×List MemPlace}(Y:P.underlying t=some (.slice e))(I:P.cellsOf e=k)(Z:0<k)(O:∀x,(c x).length=k)
  (rd:∀n cs z,DataW.trod enc P w 0 sp true n e cs=some z->∃x:G,Q x/\RL (λ_=>False) w (c x) cs) (h:DataW.trod enc P w 0 sp true fuel t cs=some y) :
  ∃(xs:List G)(v:Value),cs = [v]/\(∀x∈xs,Q x)/\RV (λ_=>False) w (.vec k (xs.map c)) v:=by
 rcases DataW.trod_slice Y h with⟨rfl,_⟩|⟨a,len,cap,L,V,n,_,rfl,_,_,hl,hm,he,C,_,_⟩
 ·exact⟨[],_,rfl,sm,by simp only[RV];exact⟨none,0,rfl,sm,by decide,λ_=>rfl,λp q=>by cases q⟩⟩
 ·have S:∀i,i<len->∃x:G,Q x/\∃cs,RL (λ_=>False) w (c x) cs/\a.spot=none/\AM.yL w a.block (a.off+i*k) cs:=by
   intro i hi;have B:=C i hi;rw[zE om] at B;cases r:w.cells? 0 (a.add (i*P.cellsOf e)) (P.cellsOf e) with
   |none=>rw[r] at B;cases B
   |some cs =>
    rw[r] at B;obtain⟨x,W,hx⟩:=rd n cs _ B;have T:cs.length=k:=by rw[<-hx.length];exact O x
    have m:∀j (J:j<cs.length),w.cell? ((a.add (i*P.cellsOf e)).add j)=some cs[j]:=by
     intro j J;simp only[World.cells?] at r;rw[if_pos (Nat.zero_le _)] at r;have:=mapM_some_get r j j (by rw[I];exact List.getElem?_range om)
     rw[this,zE J]
    have g:a.spot=none:=by
     have A:=m 0 om;rw[Addr.add_zero'] at A;by_cases N:i*P.cellsOf e=0
     ·rw[N,Addr.add_zero'] at A;exact World.cell?_spot A
     ·have E:0<len:=om;have M:=C 0 E;rw[zE om] at M;cases d:w.cells? 0 (a.add (0*P.cellsOf e)) (P.cellsOf e) with
      |none=>rw[d] at M;cases M
      |some u =>
       simp only[World.cells?] at d;rw[if_pos (Nat.zero_le _)] at d;have:=mapM_some_get d 0 0 (by rw[I];exact List.getElem?_range om)
       have D:=mapM_some_length d;rw[zE (by rw[D,I];simpa using Z)] at this;rw[Nat.zero_mul,Addr.add_zero',Addr.add_zero'] at this;exact World.cell?_spot this
    refine⟨x,W,cs,hx,g,λj J=>?_⟩;have:=m j J
    obtain⟨b,off,s⟩:=a;simp only at g;subst g;rw[Addr.add_lit,Addr.add_lit,I] at this;exact this
  obtain⟨xs,F,hx⟩:=YA len S;refine⟨xs,_,rfl,λx hm=>?_,?_⟩
  ·obtain⟨i,hi,rfl⟩:=List.getElem_of_mem hm;exact(hx i hi).1
  obtain⟨b,off,s⟩:=a;simp only[RV];refine⟨some ⟨b,off,s⟩,cap,by rw[zU,F],by rw[zU,F];exact hl,by unfold maxLen at hm;omega,(λq=>by cases q),λp q R=>?_⟩;injection q with q;subst q;have A:0<xs.length:=by
   rcases xs with _|⟨x0,xr⟩
   ·simp at R
   ·simp
  obtain⟨_,u,k1,U,k3⟩:=hx 0 A;simp only at U;subst U;have D:u.length=k:=by rw[<-k1.length];exact O _
  refine⟨b,off,rfl,ba (k3 0 om),λq=>q,P3 λi hi=>?_⟩;rw[zU] at hi;obtain⟨_,K,m1,_,m3⟩:=hx i hi;rw[zR];exact⟨O _,K,m1,m3⟩
end
abbrev NoX:Nat->Prop:=λ_=>False
def u8r (n:Int): Prop:=0<=n/\n<256
section
variable {H:Type} {enc:TypeId×Value -> H} {P:Program} {w:World} {sp:Nat -> Bool}
def rds{y:DataW H×List MemPlace}(c:P.underlying t=some (.struct fs))(h:DataW.trod enc P w 0 sp true fuel t cs=some y):
  cs.length=P.cellsOf t/\∃n,∀(i:Nat) f,fs[i]?=some f->∃z,DataW.trod enc P w 0 sp true n f.type ((cs.drop f.offset).take (P.cellsOf f.type))=some z:=by
 obtain⟨xs,n,_,_,hl,hx,b⟩:=DataW.trod_struct c h;refine⟨hl,n,λi f hi=>?_⟩;have a:i<xs.length:=by rw[hx];exact(Array.getElem?_eq_some_iff.1 hi).1
 exact⟨xs[i],by rw[b i f hi,zE a]⟩
def fld(a:∀(i:Nat) f,fs[i]?=some f->∃z,DataW.trod enc P w 0 sp true n f.type ((cs.drop f.offset).take (P.cellsOf f.type))=some z)(i:Nat){t o s:Nat}
  (hi:(fs[i]?).map (λf=>(f.type,f.offset))=some (t,o)) (hs:P.cellsOf t=s):∃z,DataW.trod enc P w 0 sp true n t ((cs.drop o).take s)=some z:=by
 cases h:fs[i]? with
 |none=>rw[h] at hi;cases hi
 |some f =>
  rw[h] at hi;simp only[Option.map_some,zQ,Prod.mk.injEq] at hi;obtain⟨rfl,rfl⟩:=hi;subst hs;exact a i f h
def rD(b:P.underlying t=some (.int .u8)): (∃y:DataW H×List MemPlace,DataW.trod enc P w 0 sp true fuel t cs=some y)->∃n,u8r n/\RL NoX w [iU n] cs:=by
 rintro⟨y,h⟩;obtain⟨n,rfl,_,a⟩:=DataW.trod_int b h;exact⟨n,by simp[Lit.wf,IntKind.min,IntKind.max,IntKind.signed,IntKind.bits] at a;unfold u8r;omega,RL.one (by simp only[RV])⟩
def x4(b:P.underlying t=some (.int .i64)): (∃y:DataW H×List MemPlace,DataW.trod enc P w 0 sp true fuel t cs=some y)->∃n,rgN n/\RL NoX w (ci n) cs:=by
 rintro⟨y,h⟩;obtain⟨n,rfl,_,a⟩:=DataW.trod_int b h;exact⟨n,by simp[Lit.wf,IntKind.min,IntKind.max,IntKind.signed,IntKind.bits] at a;unfold rgN;omega,RL.one (by simp only[RV])⟩
def jA(a:P.underlying t=some .bool): (∃y:DataW H×List MemPlace,DataW.trod enc P w 0 sp true fuel t cs=some y)->∃b,RL NoX w [.bool b] cs:=by
 rintro⟨y,h⟩;obtain⟨b,rfl,_⟩:=DataW.trod_bool a h;exact⟨b,RL.one (by simp only[RV])⟩
def uT {a:Type}{c:a->List AV}{Q:a->Prop}{t e:TypeId}(j:P.underlying t=some (.slice e))(g:P.cellsOf e=k)(m:0<k)(i:∀x,(c x).length=k)
  (q:∀n cs,(∃z:DataW H×List MemPlace,DataW.trod enc P w 0 sp true n e cs=some z)->∃x:a,Q x/\RL NoX w (c x) cs):(∃y:DataW H×List MemPlace,DataW.trod enc P w 0 sp true fuel t cs=some y) ->
  ∃xs:List a,(∀x∈xs,Q x)/\RL NoX w [.vec k (xs.map c)] cs:=by
 rintro⟨y,h⟩;obtain⟨xs,v,rfl,b,d⟩:=QH j g m i (λn cs z h=>q n cs ⟨z,h⟩) h;exact⟨xs,b,RL.one d⟩
def EG: RL X w [] []:=by simp only[RL]
def sg (cs:List Value){o s n:Nat}(h:o+s=n): cs.drop o=(cs.drop o).take s++cs.drop n:=by
 rw[<-h,<-List.drop_drop,List.take_append_drop]
def yi{l l':List AV}{o s n:Nat}(hs:o+s=n)(h:RL X w l ((cs.drop o).take s))(a:RL X w l' (cs.drop n)): RL X w (l++l') (cs.drop o):=by
 rw[sg cs hs];exact RL.append h a
def wM(h:cs.length=n): RL X w [] (cs.drop n):=by
 rw[List.drop_eq_nil_of_le om];exact EG
variable {fuel:Nat} {cs:List Value}
def vO:(Tryz.prog).cellsOf 5=1:=by kernel_rfl
def jB:(Tryz.prog).cellsOf 4=1:=by kernel_rfl
def w8:(Tryz.prog).cellsOf 3=1:=by kernel_rfl
def YB:(Tryz.prog).cellsOf 2=1:=by kernel_rfl
def Ty.wd (x:Ty): Prop:=u8r x.kind/\u8r x.to
def P4:(Tryz.prog).cellsOf 141=2:=by kernel_rfl
def IL:(∃y:DataW H×List MemPlace,DataW.trod enc Tryz.prog w 0 sp true fuel 141 cs=some y)->∃x:Ty,x.wd/\RL NoX w x.c cs:=by
 rintro⟨y,h⟩;obtain⟨hl,n,a⟩:=rds underlying141 h;rw[P4] at hl;obtain⟨i,e,b⟩:=rD underlying5 (fld a 0 (o:=0) (s:=1) rfl vO);obtain⟨j,g,d⟩:=rD underlying5 (fld a 1 (o:=1) (s:=1) rfl vO);have r:=yi rfl b (yi rfl d (wM hl));exact⟨⟨i,j⟩,⟨e,g⟩,r⟩
def Pl.wd (x:Pl): Prop:=rgN x.loc/\u8r x.field
def fT:(Tryz.prog).cellsOf 83=3:=by kernel_rfl
def aD:(∃y:DataW H×List MemPlace,DataW.trod enc Tryz.prog w 0 sp true fuel 83 cs=some y)->∃x:Pl,x.wd/\RL NoX w x.c cs:=by
 rintro⟨y,h⟩;obtain⟨hl,n,a⟩:=rds underlying83 h;rw[fT] at hl;obtain⟨j,g,b⟩:=x4 underlying3 (fld a 0 (o:=0) (s:=1) rfl w8);obtain⟨m,d⟩:=jA underlying4 (fld a 1 (o:=1) (s:=1) rfl jB);obtain⟨q,i,e⟩:=rD underlying5 (fld a 2 (o:=2) (s:=1) rfl vO);have r:=yi rfl b (yi rfl d (yi rfl e (wM hl)));exact⟨⟨j,m,q⟩,⟨g,i⟩,r⟩
def Opd.wd (x:Opd): Prop:=u8r x.kind/\rgN x.n/\x.pl.wd
def mg:(Tryz.prog).cellsOf 85=5:=by kernel_rfl
def kG:(∃y:DataW H×List MemPlace,DataW.trod enc Tryz.prog w 0 sp true fuel 85 cs=some y)->∃x:Opd,x.wd/\RL NoX w x.c cs:=by
 rintro⟨y,h⟩;obtain⟨hl,n,a⟩:=rds underlying85 h;rw[mg] at hl;obtain⟨m,g,b⟩:=rD underlying5 (fld a 0 (o:=0) (s:=1) rfl vO);obtain⟨q,i,d⟩:=x4 underlying2 (fld a 1 (o:=1) (s:=1) rfl YB);obtain⟨u,j,e⟩:=aD (fld a 2 (o:=2) (s:=3) rfl fT);have r:=yi rfl b (yi rfl d (yi rfl e (wM hl)));exact⟨⟨m,q,u⟩,⟨g,i,j⟩,r⟩
def Rv.wd (x:Rv): Prop:=u8r x.kind/\u8r x.op/\u8r x.bo/\x.a.wd/\x.b.wd/\x.pl.wd
def P5:(Tryz.prog).cellsOf 87=16:=by kernel_rfl
def IM:(∃y:DataW H×List MemPlace,DataW.trod enc Tryz.prog w 0 sp true fuel 87 cs=some y)->∃x:Rv,x.wd/\RL NoX w x.c cs:=by
 rintro⟨y,h⟩;obtain⟨hl,n,a⟩:=rds underlying87 h;rw[P5] at hl;obtain⟨B,m,b⟩:=rD underlying5 (fld a 0 (o:=0) (s:=1) rfl vO);obtain⟨C,q,d⟩:=rD underlying5 (fld a 1 (o:=1) (s:=1) rfl vO);obtain⟨D,u,e⟩:=rD underlying5 (fld a 2 (o:=2) (s:=1) rfl vO);obtain⟨E,v,g⟩:=kG (fld a 3 (o:=3) (s:=5) rfl mg);obtain⟨F,z,i⟩:=kG (fld a 4 (o:=8) (s:=5) rfl mg);obtain⟨G,A,j⟩:=aD (fld a 5 (o:=13) (s:=3) rfl fT);have r:=yi rfl b (yi rfl d (yi rfl e (yi rfl g (yi rfl i (yi rfl j (wM hl))))));exact⟨⟨B,C,D,E,F,G⟩,⟨m,q,u,v,z,A⟩,r⟩
def St.wd (x:St): Prop:=u8r x.kind/\x.pl.wd/\x.r.wd/\x.a.wd/\rgN x.loc
def P6:(Tryz.prog).cellsOf 89=26:=by kernel_rfl
def IN:(∃y:DataW H×List MemPlace,DataW.trod enc Tryz.prog w 0 sp true fuel 89 cs=some y)->∃x:St,x.wd/\RL NoX w x.c cs:=by
 rintro⟨y,h⟩;obtain⟨hl,n,a⟩:=rds underlying89 h;rw[P6] at hl;obtain⟨z,j,b⟩:=rD underlying5 (fld a 0 (o:=0) (s:=1) rfl vO);obtain⟨A,m,d⟩:=aD (fld a 1 (o:=1) (s:=3) rfl fT);obtain⟨B,q,e⟩:=IM (fld a 2 (o:=4) (s:=16) rfl P5);obtain⟨C,u,g⟩:=kG (fld a 3 (o:=20) (s:=5) rfl mg);obtain⟨D,v,i⟩:=x4 underlying3 (fld a 4 (o:=25) (s:=1) rfl w8);have r:=yi rfl b (yi rfl d (yi rfl e (yi rfl g (yi rfl i (wM hl)))));exact⟨⟨z,A,B,C,D⟩,⟨j,m,q,u,v⟩,r⟩
def Ju.wd (x:Ju): Prop:=u8r x.kind/\x.a.wd/\rgN x.fn/\rgN x.next/\rgN x.els/\(∀y∈x.args,Opd.wd y)/\x.dest.wd
def P7:(Tryz.prog).cellsOf 108=13:=by kernel_rfl
def IP:(∃y:DataW H×List MemPlace,DataW.trod enc Tryz.prog w 0 sp true fuel 108 cs=some y)->∃x:Ju,x.wd/\RL NoX w x.c cs:=by
 rintro⟨y,h⟩;obtain⟨hl,n,a⟩:=rds underlying108 h;rw[P7] at hl;obtain⟨D,q,b⟩:=rD underlying5 (fld a 0 (o:=0) (s:=1) rfl vO);obtain⟨E,u,d⟩:=kG (fld a 1 (o:=1) (s:=5) rfl mg);obtain⟨F,v,e⟩:=x4 underlying3 (fld a 2 (o:=6) (s:=1) rfl w8);obtain⟨G,z,g⟩:=x4 underlying3 (fld a 3 (o:=7) (s:=1) rfl w8);obtain⟨I,A,i⟩:=x4 underlying3 (fld a 4 (o:=8) (s:=1) rfl w8);obtain⟨J,B,j⟩:=uT underlying106 mg (by decide) (λ_=>rfl) (λ_ _=>kG) (fld a 5 (o:=9) (s:=1) rfl (by kernel_rfl));obtain⟨K,C,m⟩:=aD (fld a 6 (o:=10) (s:=3) rfl fT);have r:=yi rfl b (yi rfl d (yi rfl e (yi rfl g (yi rfl i (yi rfl j (yi rfl m (wM hl)))))));exact⟨⟨D,E,F,G,I,J,K⟩,⟨q,u,v,z,A,B,C⟩,r⟩
def Bk.wd (x:Bk): Prop:=(∀y∈x.stmts,St.wd y)/\x.jump.wd
def P8:(Tryz.prog).cellsOf 110=14:=by kernel_rfl
def IQ:(∃y:DataW H×List MemPlace,DataW.trod enc Tryz.prog w 0 sp true fuel 110 cs=some y)->∃x:Bk,x.wd/\RL NoX w x.c cs:=by
 rintro⟨y,h⟩;obtain⟨hl,n,a⟩:=rds underlying110 h;rw[P8] at hl;obtain⟨i,e,b⟩:=uT underlying105 P6 (by decide) (λ_=>rfl) (λ_ _=>IN) (fld a 0 (o:=0) (s:=1) rfl (by kernel_rfl));obtain⟨j,g,d⟩:=IP (fld a 1 (o:=1) (s:=13) rfl P7);have r:=yi rfl b (yi rfl d (wM hl));exact⟨⟨i,j⟩,⟨e,g⟩,r⟩
def Fn.wd (x:Fn): Prop:=rgN x.params/\(∀y∈x.locals,Ty.wd y)/\(∀y∈x.blocks,Bk.wd y)
def P9:(Tryz.prog).cellsOf 60=4:=by kernel_rfl
def IR:(∃y:DataW H×List MemPlace,DataW.trod enc Tryz.prog w 0 sp true fuel 60 cs=some y)->∃x:Fn,x.wd/\RL NoX w x.c cs:=by
 rintro⟨y,h⟩;obtain⟨hl,n,a⟩:=rds underlying60 h;rw[P9] at hl;obtain⟨q,i,b⟩:=x4 underlying3 (fld a 0 (o:=0) (s:=1) rfl w8);obtain⟨u,d⟩:=jA underlying4 (fld a 1 (o:=1) (s:=1) rfl jB);obtain⟨v,j,e⟩:=uT underlying57 P4 (by decide) (λ_=>rfl) (λ_ _=>IL) (fld a 2 (o:=2) (s:=1) rfl (by kernel_rfl));obtain⟨z,m,g⟩:=uT underlying58 P8 (by decide) (λ_=>rfl) (λ_ _=>IQ) (fld a 3 (o:=3) (s:=1) rfl (by kernel_rfl));have r:=yi rfl b (yi rfl d (yi rfl e (yi rfl g (wM hl))));exact⟨⟨q,u,v,z⟩,⟨i,j,m⟩,r⟩
def Pr.wd (x:Pr): Prop:=(∀y∈x.funcs,Fn.wd y)
def IS:(Tryz.prog).cellsOf 24=1:=by kernel_rfl
def IT:(∃y:DataW H×List MemPlace,DataW.trod enc Tryz.prog w 0 sp true fuel 24 cs=some y)->∃x:Pr,x.wd/\RL NoX w x.c cs:=by
 rintro⟨y,h⟩;obtain⟨hl,n,d⟩:=rds underlying24 h;rw[IS] at hl;obtain⟨e,b,a⟩:=uT underlying22 P9 (by decide) (λ_=>rfl) (λ_ _=>IR) (fld d 0 (o:=0) (s:=1) rfl (by kernel_rfl));have r:=yi rfl a (wM hl);exact⟨⟨e⟩,b,r⟩
def Po.wd (x:Po): Prop:=rgN x.al/\rgN x.off/\rgN x.tag
def UJ:(Tryz.prog).cellsOf 53=3:=by kernel_rfl
def PA:(∃y:DataW H×List MemPlace,DataW.trod enc Tryz.prog w 0 sp true fuel 53 cs=some y)->∃x:Po,x.wd/\RL NoX w x.c cs:=by
 rintro⟨y,h⟩;obtain⟨hl,n,a⟩:=rds underlying53 h;rw[UJ] at hl;obtain⟨m,g,b⟩:=x4 underlying3 (fld a 0 (o:=0) (s:=1) rfl w8);obtain⟨q,i,d⟩:=x4 underlying3 (fld a 1 (o:=1) (s:=1) rfl w8);obtain⟨u,j,e⟩:=x4 underlying3 (fld a 2 (o:=2) (s:=1) rfl w8);have r:=yi rfl b (yi rfl d (yi rfl e (wM hl)));exact⟨⟨m,q,u⟩,⟨g,i,j⟩,r⟩
def Ce.wd (x:Ce): Prop:=u8r x.kind/\rgN x.n/\x.p.wd
def PB:(Tryz.prog).cellsOf 175=5:=by kernel_rfl
def IU:(∃y:DataW H×List MemPlace,DataW.trod enc Tryz.prog w 0 sp true fuel 175 cs=some y)->∃x:Ce,x.wd/\RL NoX w x.c cs:=by
 rintro⟨y,h⟩;obtain⟨hl,n,a⟩:=rds underlying175 h;rw[PB] at hl;obtain⟨m,g,b⟩:=rD underlying5 (fld a 0 (o:=0) (s:=1) rfl vO);obtain⟨q,i,d⟩:=x4 underlying2 (fld a 1 (o:=1) (s:=1) rfl YB);obtain⟨u,j,e⟩:=PA (fld a 2 (o:=2) (s:=3) rfl UJ);have r:=yi rfl b (yi rfl d (yi rfl e (wM hl)));exact⟨⟨m,q,u⟩,⟨g,i,j⟩,r⟩
def Al.wd (x:Al): Prop:=rgN x.num/\(∀y∈x.cells,Ce.wd y)
def PC:(Tryz.prog).cellsOf 170=3:=by kernel_rfl
def IV:(∃y:DataW H×List MemPlace,DataW.trod enc Tryz.prog w 0 sp true fuel 170 cs=some y)->∃x:Al,x.wd/\RL NoX w x.c cs:=by
 rintro⟨y,h⟩;obtain⟨hl,n,a⟩:=rds underlying170 h;rw[PC] at hl;obtain⟨j,g,b⟩:=x4 underlying3 (fld a 0 (o:=0) (s:=1) rfl w8);obtain⟨m,d⟩:=jA underlying4 (fld a 1 (o:=1) (s:=1) rfl jB);obtain⟨q,i,e⟩:=uT underlying134 PB (by decide) (λ_=>rfl) (λ_ _=>IU) (fld a 2 (o:=2) (s:=1) rfl (by kernel_rfl));have r:=yi rfl b (yi rfl d (yi rfl e (wM hl)));exact⟨⟨j,m,q⟩,⟨g,i⟩,r⟩
def Me.wd (x:Me): Prop:=(∀y∈x.allocs,Al.wd y)/\rgN x.next
def PD:(Tryz.prog).cellsOf 27=2:=by kernel_rfl
def IW:(∃y:DataW H×List MemPlace,DataW.trod enc Tryz.prog w 0 sp true fuel 27 cs=some y)->∃x:Me,x.wd/\RL NoX w x.c cs:=by
 rintro⟨y,h⟩;obtain⟨hl,n,a⟩:=rds underlying27 h;rw[PD] at hl;obtain⟨i,e,b⟩:=uT underlying25 PC (by decide) (λ_=>rfl) (λ_ _=>IV) (fld a 0 (o:=0) (s:=1) rfl (by kernel_rfl));obtain⟨j,g,d⟩:=x4 underlying3 (fld a 1 (o:=1) (s:=1) rfl w8);have r:=yi rfl b (yi rfl d (wM hl));exact⟨⟨i,j⟩,⟨e,g⟩,r⟩
def It.wd (x:It): Prop:=u8r x.perm/\rgN x.tag/\rgN x.call
def PE:(Tryz.prog).cellsOf 179=3:=by kernel_rfl
def IX:(∃y:DataW H×List MemPlace,DataW.trod enc Tryz.prog w 0 sp true fuel 179 cs=some y)->∃x:It,x.wd/\RL NoX w x.c cs:=by
 rintro⟨y,h⟩;obtain⟨hl,n,a⟩:=rds underlying179 h;rw[PE] at hl;obtain⟨m,g,b⟩:=rD underlying5 (fld a 0 (o:=0) (s:=1) rfl vO);obtain⟨q,i,d⟩:=x4 underlying3 (fld a 1 (o:=1) (s:=1) rfl w8);obtain⟨u,j,e⟩:=x4 underlying3 (fld a 2 (o:=2) (s:=1) rfl w8);have r:=yi rfl b (yi rfl d (yi rfl e (wM hl)));exact⟨⟨m,q,u⟩,⟨g,i,j⟩,r⟩
def Ss.wd (x:Ss): Prop:=rgN x.num/\(∀y∈x.cells,(λs=>∀x∈s,It.wd x) y)
def QI (h:∃y:DataW H×List MemPlace,DataW.trod enc Tryz.prog w 0 sp true fuel 126 cs=some y): ∃x:List It,(∀y∈x,It.wd y)/\RL NoX w (sk x) cs :=
 uT underlying126 PE (by decide) (λ_=>rfl) (λ_ _=>IX) h
def PF:(Tryz.prog).cellsOf 124=2:=by kernel_rfl
def IY:(∃y:DataW H×List MemPlace,DataW.trod enc Tryz.prog w 0 sp true fuel 124 cs=some y)->∃x:Ss,x.wd/\RL NoX w x.c cs:=by
 rintro⟨y,h⟩;obtain⟨hl,n,a⟩:=rds underlying124 h;rw[PF] at hl;obtain⟨i,e,b⟩:=x4 underlying3 (fld a 0 (o:=0) (s:=1) rfl w8);obtain⟨j,g,d⟩:=uT (c:=sk) (Q:=(λs=>∀x∈s,It.wd x)) underlying122 (k:=1) (by kernel_rfl) (by decide) (λ_=>rfl) (λ_ _=>QI) (fld a 1 (o:=1) (s:=1) rfl (by kernel_rfl));have r:=yi rfl b (yi rfl d (wM hl));exact⟨⟨i,j⟩,⟨e,g⟩,r⟩
def Mo.wd (x:Mo): Prop:=x.mem.wd/\(∀y∈x.stacks,Ss.wd y)/\(∀y∈x.running,rgN y)/\rgN x.ntag/\rgN x.ncall
def PG:(Tryz.prog).cellsOf 31=6:=by kernel_rfl
def IZ:(∃y:DataW H×List MemPlace,DataW.trod enc Tryz.prog w 0 sp true fuel 31 cs=some y)->∃x:Mo,x.wd/\RL NoX w x.c cs:=by
 rintro⟨y,h⟩;obtain⟨hl,n,a⟩:=rds underlying31 h;rw[PG] at hl;obtain⟨z,j,b⟩:=IW (fld a 0 (o:=0) (s:=2) rfl PD);obtain⟨A,m,d⟩:=uT underlying28 PF (by decide) (λ_=>rfl) (λ_ _=>IY) (fld a 1 (o:=2) (s:=1) rfl (by kernel_rfl));obtain⟨B,q,e⟩:=uT (c:=ci) (Q:=rgN) underlying29 (k:=1) (by kernel_rfl) (by decide) (λ_=>rfl) (λ_ _=>x4 underlying3) (fld a 2 (o:=3) (s:=1) rfl (by kernel_rfl));obtain⟨C,u,g⟩:=x4 underlying3 (fld a 3 (o:=4) (s:=1) rfl w8);obtain⟨D,v,i⟩:=x4 underlying3 (fld a 4 (o:=5) (s:=1) rfl w8);have r:=yi rfl b (yi rfl d (yi rfl e (yi rfl g (yi rfl i (wM hl)))));exact⟨⟨z,A,B,C,D⟩,⟨j,m,q,u,v⟩,r⟩
def Fm.wd (x:Fm): Prop:=rgN x.fn/\rgN x.at_/\rgN x.call/\(∀y∈x.locals,Po.wd y)
def PH:(Tryz.prog).cellsOf 64=4:=by kernel_rfl
def Ha:(∃y:DataW H×List MemPlace,DataW.trod enc Tryz.prog w 0 sp true fuel 64 cs=some y)->∃x:Fm,x.wd/\RL NoX w x.c cs:=by
 rintro⟨y,h⟩;obtain⟨hl,n,a⟩:=rds underlying64 h;rw[PH] at hl;obtain⟨u,i,b⟩:=x4 underlying3 (fld a 0 (o:=0) (s:=1) rfl w8);obtain⟨v,j,d⟩:=x4 underlying3 (fld a 1 (o:=1) (s:=1) rfl w8);obtain⟨z,m,e⟩:=x4 underlying3 (fld a 2 (o:=2) (s:=1) rfl w8);obtain⟨A,q,g⟩:=uT underlying62 UJ (by decide) (λ_=>rfl) (λ_ _=>PA) (fld a 3 (o:=3) (s:=1) rfl (by kernel_rfl));have r:=yi rfl b (yi rfl d (yi rfl e (yi rfl g (wM hl))));exact⟨⟨u,v,z,A⟩,⟨i,j,m,q⟩,r⟩
def Sa.wd (x:Sa): Prop:=x.mon.wd/\(∀y∈x.frames,Fm.wd y)/\(∀y∈x.prints,rgN y)/\(∀y∈x.result,rgN y)
def Hb:(Tryz.prog).cellsOf 35=10:=by kernel_rfl
def Hc:(∃y:DataW H×List MemPlace,DataW.trod enc Tryz.prog w 0 sp true fuel 35 cs=some y)->∃x:Sa,x.wd/\RL NoX w x.c cs:=by
 rintro⟨y,h⟩;obtain⟨hl,n,a⟩:=rds underlying35 h;rw[Hb] at hl;obtain⟨v,b⟩:=jA underlying4 (fld a 0 (o:=0) (s:=1) rfl jB);obtain⟨z,j,d⟩:=IZ (fld a 1 (o:=1) (s:=6) rfl PG);obtain⟨A,m,e⟩:=uT underlying32 PH (by decide) (λ_=>rfl) (λ_ _=>Ha) (fld a 2 (o:=7) (s:=1) rfl (by kernel_rfl));obtain⟨B,q,g⟩:=uT (c:=ci) (Q:=rgN) underlying33 (k:=1) (by kernel_rfl) (by decide) (λ_=>rfl) (λ_ _=>x4 underlying2) (fld a 3 (o:=8) (s:=1) rfl (by kernel_rfl));obtain⟨C,u,i⟩:=uT (c:=ci) (Q:=rgN) underlying33 (k:=1) (by kernel_rfl) (by decide) (λ_=>rfl) (λ_ _=>x4 underlying2) (fld a 4 (o:=9) (s:=1) rfl (by kernel_rfl));have r:=yi rfl b (yi rfl d (yi rfl e (yi rfl g (yi rfl i (wM hl)))));exact⟨⟨v,z,A,B,C⟩,⟨j,m,q,u⟩,r⟩
end
def LO {W:World}(hL:laidMetH Tryz.prog Rows.explainListsRow.laid W): XOk NoX W:=by
 rw [MakeChecks.laidMetH_plain _ _ _ (by kernel_rfl)] at hL;have hT:Lib.TabIs Tryz.prog W "pawnshop/grant.perms" .u8 [0,4,1,2,3]:=Lib.tabIs_of_head (g:=kU) (n:=5) (t:=466) (e:=5) (by kernel_rfl) (by kernel_rfl) (by kernel_rfl) (by kernel_rfl) (by kernel_rfl) (by kernel_rfl) hL;have hc:=fun i hi=>hT.cell (g:=kU) (by kernel_rfl) i hi;refine ⟨fun b h=>h.elim,fun k=>?_⟩;unfold gv;split
 ·rename_i e;subst e;simp only[RV,RL];refine⟨kU,0,[.int .u8 0,.int .u8 4,.int .u8 1,.int .u8 2,.int .u8 3],rfl,ba (hc 0 (by decide)),λh=>h,⟨_,_,rfl,rfl,_,_,rfl,rfl,_,_,rfl,rfl,_,_,rfl,rfl,_,_,rfl,rfl,rfl⟩,λj hj=>?_⟩;have h1:=hc j hj;rw[Nat.zero_add,h1];have:j<5:=hj
  rcases j with _|_|_|_|_|j;all_goals first|rfl|omega
 ·simp only[RV]
def PI(h:p.wd): rgP p/\kF p:=by
 refine⟨λf a b hb=>?_,λf a b hb x hx=>?_⟩
 ·obtain⟨j,m⟩:=(h f a).2.2 b hb;obtain⟨B,r,C,D,E,u,v⟩:=m;refine⟨λs hs=>?_,r.2.2.2.1,v.2.1,λo q=>(u o q).2.2.2.1⟩;obtain⟨k1,e,⟨l1,z,A,c,d,i⟩,g,y⟩:=j s hs;exact⟨e.2.1,c.2.2.2.1,d.2.2.2.1,i.2.1,g.2.2.2.1⟩
 ·obtain⟨k1,e,⟨l1,z,A,c,d,i⟩,g,y⟩:=((h f a).2.2 b hb).1 x hx;exact⟨c.2.1,d.2.1⟩
def He(h:s.wd): rgC s:=λa b c d=>((h.1.1.1 a b).2 c d).2.1
def lg {H:Type}{enc:TypeId×Value->H}{a:Assume}{C:Checked}{os:Os}{f:FuncId}{fn:Func}{s:ChangeSpec}{d:List PathCond}{apart m c h:Bool}{laid:List (String×DataW Unit)}
  (own:ownKnob C.prog.godebug=none) (q:os.Started) (y:C.prog.inits.idxOf? f=none) (G:C.prog.funcs[f]?=some fn)
  (r:∃(w:World)(tape:Tape) (i:Input),w.os=os/\(w.forCall tape i).Shaped C.prog/\i.vars = []/\Input.okWide C.prog (w.forCall tape i) .any w.heap.size f i /\
   ((s.pre enc C.prog fn d apart (w.forCall tape i).memory i.args/\laidMetH C.prog laid (w.forCall tape i).memory)/\sizedMet enc C.prog fn (OpenSpec.ofChange s) apart (w.forCall tape i).memory i.args)/\a.holds C.prog (lone (Frame.enter C.prog f i.args .normal) [] (w.forCall tape i)))
  (g:∀(W:World)(z:Nat) (args:Array Value) (ds A:List (DataW H)) (b:List MemPlace),
   (∀(j:Nat) t v,fn.params[j]?=some t->args[j]?=some v->Value.okWide C.prog W .any z t v) ->
   DataW.Whole enc C.prog fn.params.toList s.vars apart W args.toList ds A b ->
   d.all (PathCond.test C.prog ⟨fn.params.toList,ds,s.plain.varTypes C.prog,A⟩)=true ->
   (DataW.weightsEach C.prog (fn.params.toList++s.plain.varTypes C.prog) (ds++A)).all (·<=reachBytes)=true->laidMetH C.prog laid W->W.ShapedOpen C.prog ->
   a.holds C.prog (lone (Frame.enter C.prog f args .normal) [] W) ->
   Calls C.prog f args W λe L=>∃v,e = .returned v/\s.post enc C.prog fn apart m c h W args v L) :
  ReturnsInHanded a C os f .any (λw args=>(s.pre enc C.prog fn d apart w args/\laidMetH C.prog laid w)/\sizedMet enc C.prog fn (OpenSpec.ofChange s) apart w args) (s.post enc C.prog fn apart m c h):=by
 refine returnsInHanded_of_calls own q y r ?_;intro w tape i _ J _ I D u;obtain⟨_,_,_,F,B,_,_,_,_,E⟩:=I;have e:F=fn:=zY (B.symm.trans G);subst e;obtain⟨⟨⟨ds,A,b,M,N⟩,hx⟩,Q⟩:=D;have K:=DataW.Whole.of_heap (w':=w.forCall tape i) (by rfl) M;refine(g (w.forCall tape i) w.heap.size i.args ds A b E K N (Q.weights M) (laidMetH.of_heap (by rfl) hx) J u).mono λe L ⟨v,O,hp⟩=>?_;subst O;exact ChangeSpec.post_blind hp
def Hf(h:WhV s): (fdS p s x).1.mon.mem.next=s.mon.mem.next/\(fdS p s x).1.mon.ntag=s.mon.ntag:=by
 unfold fdS;split
 ·exact⟨rfl,rfl⟩
 split
 ·exact⟨rfl,rfl⟩
 split
 ·exact⟨rfl,rfl⟩
 ·obtain⟨a,b,_⟩:=pz h (q:=xB s x) (n:=1);exact⟨by rw[a],b⟩
def Hg(h:WhV s): (vlS p s o).1.mon.mem.next=s.mon.mem.next/\(vlS p s o).1.mon.ntag=s.mon.ntag:=by
 have i:=p7 h (p:=p) (x:=o.pl);obtain⟨e,g⟩:=Hf h (p:=p) (x:=o.pl);have j:=qn i (q:=(fdS p s o.pl).2.1) (n:=(fdS p s o.pl).2.2.1);obtain⟨a,b,_⟩:=pz i (q:=(fdS p s o.pl).2.1) (n:=(fdS p s o.pl).2.2.1);obtain⟨c,d,_⟩:=Pq j (q:=(fdS p s o.pl).2.1) (l:=[ceZ]);unfold vlS;split
 ·exact⟨rfl,rfl⟩
 split
 ·exact⟨rfl,rfl⟩
 split
 ·exact⟨rfl,rfl⟩
 split
 ·exact⟨rfl,rfl⟩
 split
 ·exact⟨by rw[a];exact e,by rw[b];exact g⟩
 split
 ·exact⟨rfl,rfl⟩
 ·exact⟨by rw[c,a];exact e,by rw[d,b];exact g⟩
def S4 {p:Pr}: ∀ {l:List Opd} {s:Sa} {a:List (List Ce)},SaV p s->SaV p (y5 p s l a).1
 |[],_,_,h=>h
 |o::l,s,a,h=>by
  by_cases z:(vlS p s o).2.2=0
  ·rw[rV z];exact S4 (qp h)
  ·rw[pO z];exact h
def S5 {p:Pr}: ∀ {l:List Opd} {s:Sa} {a:List (List Ce)},yB s (y5 p s l a).1
 |[],_,_=>.rfl'
 |o::l,s,a=>by
  by_cases z:(vlS p s o).2.2=0
  ·rw[rV z];exact wm.tr S5
  ·rw[pO z];exact .rfl'
def Vy {p:Pr}: ∀ {l:List Opd} {s:Sa} {a:List (List Ce)} {T:List Ty},SaV p s->s.frames≠[]->(∀o∈l,opE (tyL p s) o=0)->a.length=T.length->(∀(i:Nat) x t,a[i]?=some x->T[i]?=some t->xh p s t x=true)->(y5 p s l a).2.2=0 ->
  (y5 p s l a).2.1.length=a.length+l.length/\∀(i:Nat) x t,(y5 p s l a).2.1[i]?=some x->(T++l.map (opT (tyL p s)))[i]?=some t->xh p (y5 p s l a).1 t x=true
 |[],s,a,T,_,_,_,_,hf,_=>⟨by simp[y5],λi x t b d=>hf i x t b (by simpa using d)⟩
 |o::l,s,a,T,hv,hne,hop,hl,hf,hz=>by
  by_cases z:(vlS p s o).2.2=0
  ·rw[rV z] at hz ⊢;have S:=@wm p s o;have M:=Hg hv.wh (p:=p) (o:=o);have ih:=Vy (l:=l) (s:=(vlS p s o).1) (a:=a++[(vlS p s o).2.1]) (T:=T++[opT (tyL p s) o]) (qp hv) (by rw[S.fr];exact hne) (λh g=>by rw[wn S];exact hop h (by simp[g])) (by simp[hl]) (λi x t b d=>by
    rcases Nat.lt_or_ge i a.length with c|c
    ·rw[List.getElem?_append_left c] at b;rw[List.getElem?_append_left om] at d;exact dD S (by rw[M.2];exact Int.le_refl _) M.1 (hf i x t b d)
    ·have e:=(zS.1 b).1;simp only[List.length_append,List.length_singleton] at e;obtain rfl:i=a.length:=om;rw[List.getElem?_append_right (Nat.le_refl _),Nat.sub_self] at b;rw[hl,List.getElem?_append_right (Nat.le_refl _),Nat.sub_self] at d;simp only[List.getElem?_cons_zero,zQ] at b d;subst b d;exact nW hv hne (hop o sm) z) hz
   refine⟨by rw[ih.1];simp;omega,λi x t b d=>ih.2 i x t b ?_⟩;rw[wn S];simpa using d
  ·rw[pO z] at hz;exact absurd hz z
def QJ {ts to:List Ty}{l:List Opd}(h:s0 ts to l n=true)(c:k<n): opT ts (l.getD k ⟨0,0,⟨0,false,0⟩⟩)=to.getD (k+1) ⟨0,0⟩:=by
 unfold s0 at h;have:=zA.1 h k (List.mem_range.2 c)
 unfold eqT at this;simp only[zB,beq_iff_eq] at this;generalize opT ts (l.getD k ⟨0,0,⟨0,false,0⟩⟩)=a at this ⊢;generalize to.getD (k+1) ⟨0,0⟩=b at this ⊢;obtain⟨d,e⟩:=a;obtain⟨g,i⟩:=b;simp only at this;rw[this.1,this.2]
def LP{n m:Nat}{x:Fm}{f g:Fn}{j:Ju}(h:Env p s)(K:xR p s n m x f)(C:CaF p f g j)(r:(y5 p s j.args []).2.2=0):
  (y5 p s j.args []).2.1.length=j.args.length/\∀(i:Nat) t l,g.locals[i+1]?=some t->(y5 p s j.args []).2.1[i]?=some l->xh p (y5 p s j.args []).1 t l=true:=by
 obtain⟨a,b⟩:=Vy (l:=j.args) (a:=[]) (T:=[]) h.v h.ne (λo q=>by rw[K.tyl];exact C.op o q) rfl (λi x t c _=>by simp at c) r;refine⟨by simpa using a,λi t l c d=>b i l t d ?_⟩;have hi:=(zS.1 d).1;rw[a] at hi;simp only[List.length_nil,Nat.zero_add] at hi;have e:=QJ C.ty hi;rw[zD,zE hi,zH,zD,c,zH] at e;rw[List.nil_append,List.getElem?_map,zE hi,Option.map_some,K.tyl,e]
structure Acc where
 kind:Int
 bo:Int
 p:Po
 n:Int
deriving DecidableEq
def Acc.c (x:Acc): List AV:=[iU x.kind,iU x.bo,iI x.p.al,iI x.p.off,iI x.p.tag,iI x.n]
def Acc.a (x:Acc): AV:=.agg x.c
attribute [go_sem] Acc.c Acc.a
abbrev tbO (p:Pr)(ι:Nat->AM.Id)(d:Nat)(s fs:Sa)(L:List Acc)(b c:Nat)(o:Int): List Ob:=[⟨d,1,23,75,[[vFn_ p.funcs,.bool s.plain,vAl_ s.mon.mem.allocs,iI s.mon.mem.next,vSs_ s.mon.stacks,vCi_ s.mon.running,iI s.mon.ntag,iI s.mon.ncall,vFm_ s.frames,vCi_ s.prints,vCi_ s.result,.bool fs.plain,vAl_ fs.mon.mem.allocs,iI fs.mon.mem.next,vSs_ fs.mon.stacks,vCi_ fs.mon.running,iI fs.mon.ntag,iI fs.mon.ncall,vFm_ fs.frames,vCi_ fs.prints,vCi_ fs.result,.sl (ι 1) b 6 L.length c,iU o]],false⟩,⟨b,c,6,55,L.map Acc.c,false⟩]
abbrev xbO (p:Pr)(ι:Nat->AM.Id)(d:Nat)(s:Sa)(la:Int)(L:List Acc)(b c:Nat): List Ob:=[⟨d,1,13,71,[[vFn_ p.funcs,.bool s.plain,vAl_ s.mon.mem.allocs,iI s.mon.mem.next,vSs_ s.mon.stacks,vCi_ s.mon.running,iI s.mon.ntag,iI s.mon.ncall,vFm_ s.frames,vCi_ s.prints,vCi_ s.result,iU la,.sl (ι 1) b 6 L.length c]],false⟩,⟨b,c,6,55,L.map Acc.c,false⟩]
abbrev xxO (p:Pr)(ι:Nat->AM.Id)(d:Nat)(la:Int)(L:List Acc)(b c:Nat): List Ob:=[⟨d,1,13,71,[[vFn_ p.funcs,.any,.any,.any,.any,.any,.any,.any,.any,.any,.any,iU la,.sl (ι 1) b 6 L.length c]],false⟩,⟨b,c,6,55,L.map Acc.c,false⟩]
abbrev txO (p:Pr)(ι:Nat->AM.Id)(d:Nat)(L:List Acc)(b c:Nat): List Ob:=[⟨d,1,23,75,[[vFn_ p.funcs,.any,.any,.any,.any,.any,.any,.any,.any,.any,.any,.any,.any,.any,.any,.any,.any,.any,.any,.any,.any,.sl (ι 1) b 6 L.length c,.any]],false⟩,⟨b,c,6,55,L.map Acc.c,false⟩]
attribute [go_sem] tbO xbO xxO txO
def trF (s:Sa)(x:Pl): List Acc:=if x.deref=true then [⟨1,0,xB s x,1⟩] else []
def trV (p:Pr)(s:Sa)(o:Opd): List Acc :=
 if o.kind=1 then [] else trF s o.pl++(if ¬(fdS p s o.pl).2.2.2=0 then [] else⟨1,0,(fdS p s o.pl).2.1,(fdS p s o.pl).2.2.1⟩ ::
  (if ¬(sLd (fdS p s o.pl).1 (fdS p s o.pl).2.1 (fdS p s o.pl).2.2.1).2.2=0 then [] else if o.kind=3 then [⟨2,0,(fdS p s o.pl).2.1,1⟩] else []))
def trA (p:Pr)(s:Sa)(x:Pl)(n:Nat): List Acc:=trF s x++(if ¬(fdS p s x).2.2.2=0 then [] else [⟨2,0,(fdS p s x).2.1,n⟩])
def trB (p:Pr)(s:Sa)(x:Pl)(kind:Int): List Acc:=trF s x++(if ¬(fdS p s x).2.2.2=0 then [] else [⟨3,kind,(fdS p s x).2.1,(fdS p s x).2.2.1⟩])
def trR (p:Pr)(s:Sa)(r:Rv): List Acc :=
 if r.kind=1 then trV p s r.a else if r.kind=4 then trB p s r.pl r.bo else if r.kind=5 then trB p s r.pl 4 else
 trV p s r.a++(if ¬(vlS p s r.a).2.2=0 then [] else trV p (vlS p s r.a).1 r.b)
def trC (p:Pr): Sa->List Opd->List Acc
 |_,[]=>[]
 |s,o::l=>trV p s o++(if(vlS p s o).2.2=0 then trC p (vlS p s o).1 l else [])
def trG (call:Int): Sa->List Ty->List (List Ce)->List Acc
 |s,t::ts,l::ls=>if t.kind=3\/t.kind=4 then⟨3,rtK t,(ce0 l).p,zg ⟨t.to,0⟩⟩ ::
   (if(sRt s (ce0 l).p (zg ⟨t.to,0⟩) (rtK t) call).2.2=0 then trG call (sRt s (ce0 l).p (zg ⟨t.to,0⟩) (rtK t) call).1 ts ls else []) else trG call s ts ls
 |_,_,_=>[]
def trK (p:Pr)(s:Sa)(g:Fn)(args:List Opd)(o:Int): List Acc :=
 trC p s args++(if ¬(y5 p s args []).2.2=0\/o=3 then [] else trG (gEn (y5 p s args []).1).2.1 (sEn (y5 p s args []).1) (g.locals.drop 1) (y5 p s args []).2.1)
def xEd (s:Sa)(n:Int): Sa×Int:=if s.plain then(yh s ⟨xP s.mon.mem n,s.mon.stacks,s.mon.running,s.mon.ntag,s.mon.ncall⟩,0) else if(mEd s.mon n).2.1=0 then(yh s (mEd s.mon n).1,0) else(s,5)
def xEs:Sa->List Po->Sa×Int
 |s,[]=>(s,0)
 |s,q::l=>if(xEd s q.al).2=0 then xEs (xEd s q.al).1 l else(s,(xEd s q.al).2)
def trE:Sa->List Po->List Ty->List Acc
 |s,q::l,t::ts=>⟨4,0,q,zg t⟩::(if(xEd s q.al).2=0 then trE (xEd s q.al).1 l ts else [])
 |_,_,_=>[]
def bkS (p:Pr)(s:Sa): Sa×List Ce×Int:=sLd s (vY (zn s)) (wK p (zn s))
def trQ (p:Pr)(s:Sa)(c:Ju): List Acc :=
 ⟨1,0,vY (zn s),wK p (zn s)⟩::(if ¬(bkS p s).2.2=0 then [] else trE (sLv (bkS p s).1) (zn s).locals (tyL p s) ++
  (if ¬(xEs (sLv (bkS p s).1) (zn s).locals).2=0 then [] else if ¬(zk p (bkS p s).1).2.2=0 then [] else if(zk p (bkS p s).1).1.frames = [] then [] else trA p (zk p (bkS p s).1).1 c.dest (bkS p s).2.1.length))
end Go.Proofs.YtllodfoldffonaaGreatDoor
