/- A part of the proof. -/
import Derived.Test.YtllodfoldffonaaGreatDoorQ11
import Derived.Test.YtllodfoldffonaaGreatDoorQ12
namespace Go.Proofs.YtllodfoldffonaaGreatDoor
open Tryz AM Go.RowKit
set_option linter.unusedSimpArgs false
set_option linter.unusedVariables false
set_option linter.defProp false
set_option maxRecDepth 100000
set_option maxHeartbeats 16000000
variable {H:Hp}{L:List AM.Id}{caps:List AV}{g:Nat}{i:Nat}{l:List Opd}{o:Opd}{p:Ss->Bool}{t:Nat}{ts:List Ty}
def tw (s:St): List Int:=if two s=true then [s.pl.loc] else []
def isB (b:Bk): List Int:=b.stmts.flatMap tw
def isF (f:Fn): List Int:=f.blocks.flatMap isB
def mvO (o:Opd): List Int:=if o.kind=3/\o.n=0/\o.pl.deref=false/\o.pl.field=0 then [o.pl.loc] else []
def mvL (l:List Opd): List Int:=l.flatMap mvO
def rh (s:St): List Int:=if kh s=true then [s.pl.loc] else []
def oo (b:Bk): List Int:=b.stmts.flatMap rh
def rL (s:St): List Int:=if s.kind=1/\s.r.kind=1 then mvL (zs s.r) else []
def dz (j:Ju): List Int:=if j.kind=4 then mvL j.args else []
def kj (b:Bk): List Int:=b.stmts.flatMap rL++dz b.jump
def mI (b:Bk): List Int:=b.stmts.flatMap u6++nu b.jump
def mJ (f:Fn)(t:Nat): Bool:=decide (f.params<(t:Int))&&decide (cw (f.blocks.flatMap oo) t=1)&&decide (cw (f.blocks.flatMap kj) t=1)&&decide (cw (f.blocks.flatMap mI) t=2)
def xZ (a:List Vis): List Int:=a.flatMap λv=>if qS v.1 v.2=true then [v.1.loc] else []
def rM (a:List Vis): List Int:=a.map λv=>v.1.loc
def WT (p:List Int×List Int)(a:List Vis): yH py p a=(p.1++rM a,p.2++xZ a):=by
 induction a generalizing p with
 |nil=>simp[yH,rM,xZ]
 |cons v a ih =>
  rw[show yH py p (v::a)=yH py (py p v.1 v.2) a from rfl,ih];unfold py rM xZ;cases h:qS v.1 v.2<;>simp[h]
def Ip (t:TS)(s:St): qU t s=⟨t.is++tw s,(t.vp.1++rM (xp s),t.vp.2++xZ (xp s)),t.sets++rh s⟩:=by
 unfold qU rh tw;rw[WT];cases h:two s<;>cases a:kh s<;>simp
def MV (t:TS)(l:List St): l.foldl qU t=⟨t.is++l.flatMap tw,(t.vp.1++l.flatMap (λs=>rM (xp s)),t.vp.2++l.flatMap λs=>xZ (xp s)),t.sets++l.flatMap rh⟩:=by
 induction l generalizing t with
 |nil=>simp
 |cons s l ih=>rw[List.foldl_cons,ih,Ip];simp[List.append_assoc]
def Iq (t:TS)(b:Bk): mF t b=⟨t.is++isB b,(t.vp.1++(b.stmts.flatMap (λs=>rM (xp s))++rM (xY b.jump)),t.vp.2++(b.stmts.flatMap (λs=>xZ (xp s))++xZ (xY b.jump))),t.sets++oo b⟩:=by
 unfold mF;rw[MV,WT];simp[List.append_assoc,isB,oo]
def MW (t:TS)(l:List Bk): l.foldl mF t=⟨t.is++l.flatMap isB,(t.vp.1++l.flatMap (λb=>b.stmts.flatMap (λs=>rM (xp s))++rM (xY b.jump)),t.vp.2++l.flatMap λb=>b.stmts.flatMap (λs=>xZ (xp s))++xZ (xY b.jump)),t.sets++l.flatMap oo⟩:=by
 induction l generalizing t with
 |nil=>simp
 |cons s l ih=>rw[List.foldl_cons,ih,Iq];simp[List.append_assoc]
def Ir (f:Fn): iB f=⟨isF f,(f.blocks.flatMap (λb=>b.stmts.flatMap (λs=>rM (xp s))++rM (xY b.jump)),f.blocks.flatMap λb=>b.stmts.flatMap (λs=>xZ (xp s))++xZ (xY b.jump)),f.blocks.flatMap oo⟩:=by
 unfold iB;rw[MW];simp[isF,ts0]
def MX(h:zq o=0): xZ (tF true o)=mvO o:=by
 unfold tF mvO xZ;by_cases a:o.kind=1
 ·simp[a]
 ·have hn:o.n=0:=by grind [zq]
  rw[if_neg a];simp only[List.flatMap_cons,List.flatMap_nil,List.append_nil,qS,Bool.true_and,zB,zL,Bool.not_eq_true',hn,true_and,and_assoc]
def Is: xZ (tF false o) = []:=by
 unfold tF xZ;split<;>simp[qS]
def WU(h:∀o∈l,zq o=0): xZ (yG true l)=mvL l:=by
 induction l with
 |nil=>rfl
 |cons o l ih =>
  have e:xZ (yG true (o::l))=xZ (tF true o)++xZ (yG true l):=by unfold yG xZ;simp[List.flatMap_cons]
  rw[e,MX (h o sm),ih (λq a=>h q (by simp[a]))];unfold mvL;simp
def d7: xZ (yG false l) = []:=by
 induction l with
 |nil=>rfl
 |cons o l ih =>
  have e:xZ (yG false (o::l))=xZ (tF false o)++xZ (yG false l):=by unfold yG xZ;simp[List.flatMap_cons]
  rw[e,Is,ih];rfl
def jt {p:Pl}{a:List Vis}: xZ ((p,false)::a)=xZ a:=by unfold xZ;simp[qS]
def MY {s:St}(h:y6 s=true): xZ (xp s)=rL s:=by
 unfold xp rL;by_cases j:s.kind=3
 ·rw[if_pos j,if_neg om,jt];rfl
 ·rw[if_neg j];by_cases f:s.kind=2\/s.kind=4
  ·rw[if_pos f,if_neg om,d7]
  ·have d:s.kind=1:=by grind [y6]
   have k:xG s.r=true:=by grind [y6]
   rw[if_neg f,if_pos d,jt];unfold uK;by_cases b:s.r.kind=4\/s.r.kind=5
   ·rw[if_pos b,if_neg om,jt];rfl
   ·rw[if_neg b];by_cases c:s.r.kind=1
    ·have hp:=WQ k;rw[if_pos c,if_pos ⟨d,c⟩];have e:zs s.r = [s.r.a]:=by unfold zs;rw[if_pos c]
     rw[e] at hp ⊢;exact WU hp
    ·rw[if_neg c,if_neg om,d7]
def MZ {j:Ju}(h:yJ j=true): xZ (xY j)=dz j:=by
 unfold xY dz;by_cases b:j.kind=2
 ·rw[if_pos b,if_neg om,d7]
 ·have hp:=iC h;unfold xo at hp;rw[if_neg b] at hp ⊢;by_cases a:j.kind=4
  ·rw[if_pos a,if_pos a,jt,WU hp]
  ·rw[if_neg a,if_neg a];rfl
def ly {b d:Type}{g a:b->List d}{l:List b}(h:∀x∈l,g x=a x): l.flatMap g=l.flatMap a:=by
 induction l with
 |nil=>rfl
 |cons x l ih=>rw[List.flatMap_cons,List.flatMap_cons,h x sm,ih (λy c=>h y (by simp[c]))]
def lz {b:Type}{g a:b->List Int}{l:List b}{t:Int}(h:∀x∈l,(g x).count t=(a x).count t): (l.flatMap g).count t=(l.flatMap a).count t:=by
 induction l with
 |nil=>rfl
 |cons x l ih=>rw[List.flatMap_cons,List.flatMap_cons,List.count_append,List.count_append,h x sm,ih (λy c=>h y (by simp[c]))]
def Qe {f:Fn}(h:xJ f=true)(t:Nat): mG (iB f) f.params t=(!qT (isF f) t||mJ f t):=by
 rw[Ir];unfold mG mJ;have a:(f.blocks.flatMap λb=>b.stmts.flatMap (λs=>xZ (xp s))++xZ (xY b.jump))=f.blocks.flatMap kj:=by
  apply ly;intro b hb;have hm:=rK h hb;rw[MZ hm.2,ly (λs hs=>MY (hm.1 s hs))];rfl
 have c:cw (f.blocks.flatMap λb=>b.stmts.flatMap (λs=>rM (xp s))++rM (xY b.jump)) t=cw (f.blocks.flatMap mI) t:=by
  unfold cw;congr 2;apply lz;intro b hb;have hm:=rK h hb;unfold mI;rw[List.count_append,List.count_append,(cQ hm.2).count_eq];congr 1
  apply lz;intro s hs;exact((cR (hm.1 s hs)).count_eq _).symm
 simp only[a,c];congr 1
 cases decide (f.params<(t:Int))<;>cases decide (cw (List.flatMap mI f.blocks) t=2)<;>cases decide (cw (List.flatMap kj f.blocks) t=1)<;>cases decide (cw (List.flatMap oo f.blocks) t=1)<;>rfl
def Qf {f:Fn}(h:xJ f=true): sc f=(List.range 16).all λt=>!qT (isF f) t||mJ f t:=by
 unfold sc;congr 1;funext t;exact Qe h t
def fi (l m:List Int)(t:Nat): IntKind.i64.wrap (cw l t+cw m t)=cw (l++m) t:=by
 unfold cw;rw[i8,Int.add_comm,i8,List.count_append,Int.natCast_add,Int.add_comm]
def WV {l m:List Int}(h:m.count (t:Int)=0): cw (l++m) t=cw l t:=by unfold cw;rw[List.count_append,h,Nat.add_zero]
def Nd(h:o.kind=3/\o.n=0/\o.pl.loc=t/\o.pl.deref=false/\o.pl.field=0): mvO o = [(t:Int)]:=by
 unfold mvO;rw[if_pos ⟨h.1,h.2.1,h.2.2.2⟩,h.2.2.1]
def La(h:¬(o.kind=3/\o.n=0/\o.pl.loc=t/\o.pl.deref=false/\o.pl.field=0)): (mvO o).count (t:Int)=0:=by
 unfold mvO;split
 ·rename_i q;rw[List.count_singleton,if_neg];simp;intro e;exact h ⟨q.1,q.2.1,e,q.2.2⟩
 ·rfl
def kl (l:List Opd)(t:Nat)(hl:l.length<1000000): zK 406 [vOpd_ l,iI t] (iI (cw (mvL l) t)):=by
 refine eK [] func406 λX=>?_;go_simp;repeat'(first|with_reducible first|apply ai|intro)
 refine lN [] (λi=>[(0,vOpd_ l),(1,iI t),(5,iI (cw (mvL (l.take i)) t)),(6,iI i)]) (λi=>[]) (λi=>i<=l.length) (λi=>l.length-i) 0 ?_
 rintro i hi;go_simp;refine⟨λa=>⟨_,zE a,?_⟩,λb=>?_⟩
 ·have hs:mvL (l.take (i+1))=mvL (l.take i)++mvO l[i]:=wV mvO a;repeat'(first|with_reducible first|apply ai|intro)
  ·refine⟨i+1,om,om,?_,wrS om⟩;rw[hs,Nd (t:=t) ⟨by assumption,by assumption,by assumption,by assumption,by assumption⟩,pH,if_pos rfl]
  ·rename_i hn;refine⟨i+1,om,om,?_,wrS om⟩;rw[hs,WV (La λq=>hn q.1 q.2.1 q.2.2.1 q.2.2.2.1 q.2.2.2.2)]
 ·rw[zT b]
def TQ (f:Fn)(J:wfF f)(hm:xJ f=true): zK 347 [f.a] (.agg (isA (isF f))):=by
 obtain⟨hl,D,w⟩:=J;refine eK [] func347 λX=>?_;go_simp;repeat'(first|with_reducible first|apply ai|intro)
 rename_i s u v;refine lN [] (λi=>[(1,.ptr (.l 1) s 4 0 0),(2,.ptr (.l 2) u 16 0 0),(3,.ptr (.l 3) v 16 0 0),(4,iI i)]) (λi=>[(.l 1,⟨s,1,4,60,[Fn.c f],false⟩),(.l 2,⟨u,1,16,283,[isA []],false⟩),(.l 3,⟨v,1,16,283,[isA ((f.blocks.take i).flatMap isB)],false⟩)]) (λi=>i<=f.blocks.length) (λi=>f.blocks.length-i) 0 ?_
 rintro i hi;go_simp;refine⟨λh=>⟨_,zE h,?_⟩,λy=>?_⟩
 ·have hb:=zM h;obtain⟨hs,C⟩:=w _ hb;obtain⟨j,r⟩:=rK hm hb;have e:=wV isB h;generalize (f.blocks.take i).flatMap isB=L at e ⊢;generalize hx:f.blocks[i]=x at hb hs C j r e ⊢;obtain⟨d,M⟩:=x;simp only at hs C j r;refine zf hP (B:=[]) (G:=Nat) (λk=>[(1,.ptr (.l 1) s 4 0 0),(2,.ptr (.l 2) u 16 0 0),(3,.ptr (.l 3) v 16 0 0),(4,iI i),(5,vSt_ d),(6,iI k)])
   (λk=>[(.l 1,⟨s,1,4,60,[Fn.c f],false⟩),(.l 2,⟨u,1,16,283,[isA []],false⟩),(.l 3,⟨v,1,16,283,[isA (L++(d.take k).flatMap tw)],false⟩)])
   (λk=>k<=d.length) (λk=>d.length-k) 0 dk sm ?_ ?_ ?_
  ·go_simp
  ·go_simp;try simp
  ·rintro k K;go_simp;refine⟨λb=>⟨_,zE b,?_⟩,λq=>?_⟩
   ·have I:=j _ (zM b);have m:=wV tw b;cases A:two d[k] with
    |true =>
     obtain⟨n,hn,E⟩:=pI (p:=d[k].pl) (by grind [two,y6])
     have F:(n:Int)<16:=om;have z:tw d[k] = [(n:Int)]:=by unfold tw;rw[if_pos A,hn]
     repeat'(first|(apply zd (qR d[k]);try go_simp)|with_reducible first|apply ai|intro)
     all_goals first
      |omega
      |(
        refine⟨k+1,om,om,wrS om,?_⟩;rw[m,z,<-List.append_assoc];try rfl)
    |false =>
     have z:tw d[k] = []:=by unfold tw;rw[A];rfl
     repeat'(first|(apply zd (qR d[k]);try go_simp)|with_reducible first|apply ai|intro)
     refine⟨k+1,om,om,wrS om,?_⟩;rw[m,z,List.append_nil]
   ·rw[zT q];refine⟨i+1,om,om,wrS om,?_⟩;rw[e];rfl
 ·rw[zT y];repeat'(first|with_reducible first|apply ai|intro)
  all_goals first
   |rfl
   |exact u5 rfl
def Lb (s:St)(t:Nat)(A:List Int): cw (A++rh s) t=if two s=true/\s.pl.loc=t/\s.pl.deref=false/\s.pl.field=0/\¬s.r.pl.loc=t then IntKind.i64.wrap (cw A t+1) else cw A t:=by
 unfold rh;by_cases h:kh s=true
 ·rw[if_pos h];simp only[kh,zB,Bool.not_eq_true',zL] at h;by_cases hl:s.pl.loc=t
  ·rw[hl,if_pos ⟨h.1.1.1,rfl,h.1.1.2,h.1.2,by rw[<-hl];exact h.2⟩,pH,if_pos rfl]
  ·rw[if_neg λq=>hl q.2.1,WV (by rw[List.count_singleton,if_neg];simpa using hl)]
 ·rw[if_neg h,List.append_nil,if_neg];rintro⟨a,b,c,d,e⟩;exact h (by simp[kh,a,b,c,d,e])
def Lc (s:St)(t:Nat)(A:List Int): cw (A++rL s) t=if s.kind=1/\s.r.kind=1 then IntKind.i64.wrap (cw A t+cw (mvL (zs s.r)) t) else cw A t:=by
 unfold rL;split
 ·rw[fi]
 ·rw[List.append_nil]
def fj {l l':List Int}(t:Nat)(h:l=l'): cw l t=cw l' t:=by rw[h]
def Nf (j:Ju)(t:Nat)(A:List Int): cw (A++dz j) t=if j.kind=4 then IntKind.i64.wrap (cw A t+cw (mvL j.args) t) else cw A t:=by
 unfold dz;split
 ·rw[fi]
 ·rw[List.append_nil]
def Uz (f:Fn)(t:Nat)(T:t<16)(O:wfF f)(hm:xJ f=true): zK 348 [f.a,iI t] (.bool (mJ f t)):=by
 obtain⟨hl,M,w⟩:=O;have N:(t:Int)<16:=om;refine eK [] func348 λX=>?_;go_simp;repeat'(first|with_reducible first|apply ai|intro)
 ·rename_i h;have:decide (f.params<(t:Int))=false:=decide_eq_false om
  simp[mJ,this]
 rename_i b hp;refine lN [] (λi=>[(1,iI t),(2,.ptr (.l 2) b 4 0 0),(4,.bool false),(5,iI (cw ((f.blocks.take i).flatMap oo) t)),(6,iI (cw ((f.blocks.take i).flatMap kj) t)),(7,iI (cw ((f.blocks.take i).flatMap mI) t)),(8,iI i)]) (λi=>[(.l 2,⟨b,1,4,60,[Fn.c f],false⟩)]) (λi=>i<=f.blocks.length) (λi=>f.blocks.length-i) 0 ?_
 rintro i hi;go_simp;refine⟨λj=>⟨_,zE j,?_⟩,λx=>?_⟩
 ·have hb:=zM j;obtain⟨hs,J⟩:=w _ hb;obtain⟨v,y⟩:=rK hm hb;have E:=wV oo j;have F:=wV kj j;have I:=wV mI j;generalize (f.blocks.take i).flatMap oo=A at E ⊢;generalize (f.blocks.take i).flatMap kj=C at F ⊢;generalize (f.blocks.take i).flatMap mI=D at I ⊢;generalize m:f.blocks[i].stmts=d at hs v;refine zf hP (B:=[]) (G:=Nat) (λk=>[(1,iI t),(2,.ptr (.l 2) b 4 0 0),(4,.bool false),(5,iI (cw (A++(d.take k).flatMap rh) t)),(6,iI (cw (C++(d.take k).flatMap rL) t)),(7,iI (cw (D++(d.take k).flatMap u6) t)),(8,iI i),(9,vSt_ d),(10,iI k)])
   (λk=>[(.l 2,⟨b,1,4,60,[Fn.c f],false⟩)])
   (λk=>k<=d.length) (λk=>d.length-k) 0 dk sm ?_ ?_ ?_
  ·go_simp;try simp[m]
  ·go_simp
  ·rintro k S;go_simp;refine⟨λe=>⟨_,zE e,?_⟩,λu=>?_⟩
   ·have z:=v _ (zM e);have q:=(fj t (show A++(d.take (k+1)).flatMap rh=(A++(d.take k).flatMap rh)++rh d[k] by rw[wV rh e,List.append_assoc])).trans (Lb d[k] t _);have s:=(fj t (show C++(d.take (k+1)).flatMap rL=(C++(d.take k).flatMap rL)++rL d[k] by rw[wV rL e,List.append_assoc])).trans (Lc d[k] t _);have n:=(fj t (show D++(d.take (k+1)).flatMap u6=(D++(d.take k).flatMap u6)++u6 d[k] by rw[wV u6 e,List.append_assoc])).trans (fi _ _ t).symm;generalize cw (A++(d.take k).flatMap rh) t=P at q ⊢;generalize cw (C++(d.take k).flatMap rL) t=Q at s ⊢;generalize cw (D++(d.take k).flatMap u6) t=R at n ⊢;have K:(zs d[k].r).length<1000000:=by have:=qf d[k].r;grind
    repeat'(first|((first|apply zd (ki d[k] z)|apply zd (qR d[k])|apply zd (nm d[k].r)|apply zd (kl (zs d[k].r) t K));try go_simp)|with_reducible first|apply ai|intro)
    all_goals refine⟨k+1,om,om,?_,?_,?_,wrS om⟩
    all_goals first
     |exact n.symm
     |(rw[q];clear s n;grind)
     |(rw[s];clear q n;grind [two])
   ·rw[zT u];have q:cw ((f.blocks.take (i+1)).flatMap oo) t=cw (A++d.flatMap rh) t:=by rw[E,oo,m]
    have s:=(fj t (show(f.blocks.take (i+1)).flatMap kj=(C++d.flatMap rL)++dz f.blocks[i].jump by rw[F,kj,m,List.append_assoc])).trans (Nf f.blocks[i].jump t _);have n:=(fj t (show(f.blocks.take (i+1)).flatMap mI=(D++d.flatMap u6)++nu f.blocks[i].jump by rw[I,mI,m,List.append_assoc])).trans (fi _ _ t).symm;generalize cw (A++d.flatMap rh) t=P at q ⊢;generalize cw (C++d.flatMap rL) t=Q at s ⊢;generalize cw (D++d.flatMap u6) t=R at n ⊢;repeat'(first|((first|apply zd (oi f.blocks[i].jump y J)|apply zd (kl f.blocks[i].jump.args t J));try go_simp)|with_reducible first|apply ai|intro)
    all_goals refine⟨i+1,om,om,?_,?_,?_,wrS om⟩
    all_goals first
     |exact n.symm
     |exact q.symm
     |(rw[s];clear q n;grind)
 ·rw[zT x];repeat'(first|with_reducible first|apply ai|intro)
  all_goals grind [mJ]
def XS (f:Fn)(b:wfF f): zK 227 [f.a] (iI (xt f)):=by
 refine eK [] func227 λX=>?_;go_simp;cases hs:vT f with
 |false =>
  repeat'(first|(apply zd (rg ⟨_,_,_,_⟩ b.2.1);try go_simp)|with_reducible first|apply ai|intro)
  all_goals simp[xt,hs]
 |true =>
  cases hm:xJ f with
  |false =>
   repeat'(first|((first|apply zd (rg ⟨_,_,_,_⟩ b.2.1)|apply zd (fh ⟨_,_,_,_⟩ b));try go_simp)|with_reducible first|apply ai|intro)
   all_goals simp[xt,hs,hm]
  |true =>
   have e:=Qf hm;repeat'(first|((first|apply zd (rg ⟨_,_,_,_⟩ b.2.1)|apply zd (fh ⟨_,_,_,_⟩ b)|apply zd (TQ ⟨_,_,_,_⟩ b hm));try go_simp)|with_reducible first|apply ai|intro)
   rename_i j k;refine lN [] (λi=>[(1,.ptr (.l 1) j 4 0 0),(2,iI 0),(3,.ptr (.l 3) k 16 0 0),(4,iI i)]) (λi=>[(.l 1,⟨j,1,4,60,[Fn.c f],false⟩),(.l 3,⟨k,1,16,283,[isA (isF f)],false⟩)]) (λi=>i<=16/\∀q<i,(!qT (isF f) q||mJ f q)=true) (λi=>16-i) 0 ?_ (h0:=⟨om,λq h=>by omega⟩)
   rintro i ⟨hi,m⟩;go_simp;refine⟨λr=>?_,λn=>?_⟩
   ·have d:i<16:=om;go_simp;repeat'(first|(apply zd (Uz f i d b hm);try go_simp)|with_reducible first|apply ai|intro)
    all_goals first
     |omega
     |(
       refine⟨i+1,⟨om,λq h=>?_⟩,om,wrS om⟩;rcases Nat.lt_succ_iff_lt_or_eq.1 h with h|rfl
       ·have:=m q h
        simpa using this
       ·simp_all)
     |(have:sc f=false:=(by rw[e];exact wj (List.mem_range.2 d) (by simp_all));simp[xt,hs,hm,this])
   ·have:sc f=true:=by
     rw[e];exact zA.2 λq h=>m q (by have:=List.mem_range.1 h;omega)
    simp[xt,hs,hm,this]
def Ng{p:Ty->Bool}{l:List Ty}(h:yF g caps Ty.a p l): yF 388 [.rp [.fn g caps]] Ty.a (λx=>!p x) l where
 cb:=by go_simp
 call x hx:=by
  refine eK [] func388 λX=>?_;go_simp;repeat'(first|(apply zd (h.call x hx);try go_simp)|exact h.cb|with_reducible first|apply ai|intro)
def Ld{p:Ty->Bool}{l:List Ty}(h:yF g caps Ty.a p l)(hl:l.length<1000000): zK 326 [vTy_ l,.fn g caps] (.bool (l.all p)):=by
 refine eK [1] func326 λX=>?_;go_simp;repeat'(first|with_reducible first|apply ai|intro)
 refine z5 [.l 3] 3 (SV.ptr rfl rfl rfl rfl sm rfl) ?_;refine aO [] ?_;go_simp;repeat'(first|(apply zd (X1 (Ng h) hl);try go_simp)|with_reducible first|apply ai|intro)
 all_goals simp[List.all_eq_not_any_not]
def Nh{p:Bk->Bool}{l:List Bk}(h:yF g caps Bk.a p l): yF 392 [.rp [.fn g caps]] Bk.a (λx=>!p x) l where
 cb:=by go_simp
 call x hx:=by
  refine eK [] func392 λX=>?_;go_simp;repeat'(first|(apply zd (h.call x hx);try go_simp)|exact h.cb|with_reducible first|apply ai|intro)
def Le{p:Bk->Bool}{l:List Bk}(h:yF g caps Bk.a p l)(hl:l.length<1000000): zK 331 [vBk_ l,.fn g caps] (.bool (l.all p)):=by
 refine eK [1] func331 λX=>?_;go_simp;repeat'(first|with_reducible first|apply ai|intro)
 refine z5 [.l 3] 3 (SV.ptr rfl rfl rfl rfl sm rfl) ?_;refine aO [] ?_;go_simp;repeat'(first|(apply zd (X2 (Nh h) hl);try go_simp)|with_reducible first|apply ai|intro)
 all_goals simp[List.all_eq_not_any_not]
def Ni{p:Fn->Bool}{l:List Fn}(h:yF g caps Fn.a p l): yF 390 [.rp [.fn g caps]] Fn.a (λx=>!p x) l where
 cb:=by go_simp
 call x hx:=by
  refine eK [] func390 λX=>?_;go_simp;repeat'(first|(apply zd (h.call x hx);try go_simp)|exact h.cb|with_reducible first|apply ai|intro)
def Lf{p:Fn->Bool}{l:List Fn}(h:yF g caps Fn.a p l)(hl:l.length<1000000): zK 329 [vFn_ l,.fn g caps] (.bool (l.all p)):=by
 refine eK [1] func329 λX=>?_;go_simp;repeat'(first|with_reducible first|apply ai|intro)
 refine z5 [.l 3] 3 (SV.ptr rfl rfl rfl rfl sm rfl) ?_;refine aO [] ?_;go_simp;repeat'(first|(apply zd (X3 (Ni h) hl);try go_simp)|with_reducible first|apply ai|intro)
 all_goals simp[List.all_eq_not_any_not]
def fnz:Fn:=⟨0,false,[],[]⟩
def mK (t:Ty): Bool:=t.kind==1&&t.to==0
def w6 (fs:List Fn)(b:Bk): Bool:=!(b.jump.kind==4)||(decide (b.jump.fn<(fs.length:Int))&&decide ((b.jump.args.length:Int)=(fs.getD b.jump.fn.toNat fnz).params))
def uX:List Fn->Int
 |[]=>0
 |f::l=>if xt f≠0 then xt f else uX l
def pJ (f:Fn): Bool:=((f.locals.drop 1).take f.params.toNat).all mK
def oq (p:Pr): Bool:=p.funcs.all λf=>f.blocks.all (w6 p.funcs)
def wl (p:Pr): Int:=if 8<p.funcs.length then 4 else if p.funcs.length=0 then 8 else if uX p.funcs≠0 then uX p.funcs else if pJ (p.funcs.getD 0 fnz)&&oq p then 0 else 8
def wfP (p:Pr): Prop:=p.funcs.length<1000000/\∀f∈p.funcs,wfF f
def tO {f:Fn}(h:xt f=0): vT f=true/\xJ f=true/\sc f=true:=by
 unfold xt at h;cases a:vT f<;>cases b:xJ f<;>cases c:sc f<;>simp[a,b,c] at h ⊢
def Qg (l:List Ty): yF 327 [] Ty.a mK l where
 cb:=by go_simp
 call t ht:=by
  refine eK [] func327 λX=>?_;go_simp;repeat'(first|(apply zd (Ud ⟨_,_⟩);try go_simp)|with_reducible first|apply ai|intro)
  all_goals grind [mK,ww,tK,yE]
def TR (p:Pr)(l:List Bk)(h:∀b∈l,yJ b.jump=true): yF 325 [.rp (Pr.c p)] Bk.a (w6 p.funcs) l where
 cb:=by go_simp
 call b hb:=by
  have q:=h b hb;by_cases e:b.jump.kind=4
  ·obtain⟨n,hn⟩:∃n:Nat,b.jump.fn=n:=⟨b.jump.fn.toNat,by grind [yJ]⟩
   by_cases j:n<p.funcs.length
   ·have d:(n:Int)<p.funcs.length:=om;refine eK [] func325 λX=>?_;go_simp;repeat'(first|with_reducible first|apply ai|intro)
    have k:p.funcs.getD n fnz=p.funcs[n]:=by rw[zD,zE j];rfl
    unfold w6;rw[hn,e,Int.toNat_natCast,k,decide_eq_true d];rw[Bool.eq_iff_iff];simp
   ·have f:¬(n:Int)<p.funcs.length:=om;refine eK [] func325 λX=>?_;go_simp;repeat'(first|with_reducible first|apply ai|intro)
    unfold w6;rw[hn,e,decide_eq_false f];rfl
  ·have m:(b.jump.kind != 4)=true:=by simp[e]
   refine eK [] func325 λX=>?_;go_simp;repeat'(first|with_reducible first|apply ai|intro)
   all_goals simp[w6,e]
def Qh (p:Pr)(h:wfP p)(d:∀f∈p.funcs,xt f=0): yF 330 [.rp [.fn 325 [.rp (Pr.c p)]]] Fn.a (λf=>f.blocks.all (w6 p.funcs)) p.funcs where
 cb:=by go_simp
 call f hf:=by
  have e:∀b∈f.blocks,yJ b.jump=true:=λb hb=>(rK (tO (d f hf)).2.1 hb).2;refine eK [] func330 λX=>?_;go_simp;repeat'(first|(apply zd (Le (TR p f.blocks e) (h.2 f hf).2.1);try go_simp)|with_reducible first|apply ai|intro)
def jO {l:List Fn}(h:∀f∈l,xt f=0): uX l=0:=by
 induction l with
 |nil=>rfl
 |cons f l ih=>unfold uX;rw[h f sm];simp;exact ih λg a=>h g (by simp[a])
def cS {l:List Fn}(hi:i<l.length)(a:∀f∈l.take i,xt f=0)(h:¬xt l[i]=0): uX l=xt l[i]:=by
 induction l generalizing i with
 |nil=>simp at hi
 |cons f l ih =>
  cases i with
  |zero=>unfold uX;rw[if_pos (by simpa using h)];rfl
  |succ i =>
   have b:xt f=0:=a f sm;unfold uX;rw[if_neg (by simp[b])];simp only[List.getElem_cons_succ] at h ⊢;exact ih (by simpa using hi) (λg c=>a g (by simp[c])) h
def bw (p:Pr)(q:wfP p): zK 212 [p.a] (iI (wl p)):=by
 refine eK [12,13] func212 λX=>?_;go_simp;repeat'(first|with_reducible first|apply ai|intro)
 ·simp[wl];omega
 ·rename_i D s;have:p.funcs.length=0:=by first|omega|simp_all
  simp[wl,this]
 rename_i b D s;refine lN [] (λi=>[(1,.ptr (.l 1) b 1 0 0),(18,vFn_ p.funcs),(19,iI p.funcs.length),(20,iI i)]) (λi=>[(.l 1,⟨b,1,1,24,[Pr.c p],false⟩)]) (λi=>i<=p.funcs.length/\∀f∈p.funcs.take i,xt f=0) (λi=>p.funcs.length-i) 0 ?_
 rintro i ⟨hi,y⟩;go_simp;refine⟨λh=>⟨_,zE h,λF=>?_⟩,λw=>?_⟩
 ·repeat'(first|(apply zd (uW ⟨_,_,_,_⟩ (q.2 _ (zM h)));try go_simp)|with_reducible first|apply ai|intro)
  ·rename_i m;have:=cS h y m
   unfold wl;rw[if_neg om,if_neg (by simpa using s),this,if_pos m]
  ·exact⟨i+1,⟨om,zr y h (by assumption)⟩,om,wrS om⟩
 ·have d:=zx y w;have C:=jO d;have r:0<p.funcs.length:=List.length_pos_iff.2 s;refine z5 [.l 1] 1 (SV.ptr rfl rfl rfl rfl sm rfl) ?_;refine aO [13] ?_;go_simp;intro G;refine z5 [.l 6] 6 (SV.ptr rfl rfl rfl rfl sm rfl) ?_;refine aO [] ?_;go_simp;have A:p.funcs.getD 0 fnz=p.funcs[0]:=by rw[zD,zE r];rfl
  have v:=tO (d _ (zM r));have j:=q.2 _ (zM r);have n:wl p=if pJ p.funcs[0]&&oq p then 0 else 8:=by
   unfold wl;rw[if_neg om,if_neg om,if_neg (by simp[C]),A]
  have k:=Qh p q d;rw[n];intro I;generalize p.funcs[0]=f at v j ⊢;have B:0<=f.params/\f.params<(f.locals.length:Int):=by
   have:=v.2.1
   unfold xJ uM vN at this;simp only[zB,zL] at this;exact⟨this.1.1.1.1.1.1.2,this.1.1.1.1.2⟩
  have z:IntKind.i64.wrap (1+f.params)=1+f.params:=AM.Tf (by have:=j.1;omega);have E:((f.locals.drop 1).take f.params.toNat).length<1000000:=by have:=j.1;simp;omega
  have e:(List.take (1+f.params).toNat (List.map Ty.c f.locals)).tail=((f.locals.drop 1).take f.params.toNat).map Ty.c:=by
   rw[<-List.map_take,<-List.map_tail];congr 1
   rw[<-List.drop_one,List.drop_take];congr 1;omega
  rw[z,e];have x:zK 326 [.vec 2 (((f.locals.drop 1).take f.params.toNat).map Ty.c),.fn 327 []] (.bool (pJ f)):=Ld (Qg _) E;have u:zK 329 [vFn_ p.funcs,.fn 330 [.rp [.fn 325 [.rp (Pr.c p)]]]] (.bool (oq p)):=Lf k q.1;clear k d n C A v;repeat'(first|((first|apply zd x|apply zd u);try go_simp)|with_reducible first|apply ai|intro)
  all_goals first
   |omega
   |simp_all
   |trace_state
def TT (fs:List Fn)(f:Fn): Bool:=f.blocks.all (w6 fs)
def XT (p:Pr)(f:Fn)(hl:f.blocks.length<1000000)(w:∀b∈f.blocks,yJ b.jump=true): zK 228 [p.a,f.a] (.bool (TT p.funcs f)):=by
 refine eK [] func228 λX=>?_;go_simp;repeat'(first|with_reducible first|apply ai|intro)
 rename_i s u;refine lN [] (λi=>[(2,.ptr (.l 2) s 1 0 0),(3,.ptr (.l 3) u 4 0 0),(5,iI i)]) (λi=>[(.l 2,⟨s,1,1,24,[Pr.c p],false⟩),(.l 3,⟨u,1,4,60,[Fn.c f],false⟩)]) (λi=>i<=f.blocks.length/\∀b∈f.blocks.take i,w6 p.funcs b=true) (λi=>f.blocks.length-i) 0 ?_
 rintro i ⟨hi,r⟩;go_simp;refine⟨λd=>⟨_,zE d,?_⟩,λq=>?_⟩
 ·have hb:=zM d;have x:=w _ hb;by_cases m:f.blocks[i].jump.kind=4
  ·obtain⟨n,hn⟩:∃n:Nat,f.blocks[i].jump.fn=n:=⟨f.blocks[i].jump.fn.toNat,by grind [yJ]⟩
   by_cases j:n<p.funcs.length
   ·have k:(n:Int)<p.funcs.length:=om;have v:p.funcs.getD n fnz=p.funcs[n]:=by rw[zD,zE j];rfl
    have e:w6 p.funcs f.blocks[i]=decide ((f.blocks[i].jump.args.length:Int)=p.funcs[n].params):=by
     unfold w6;rw[hn,m,Int.toNat_natCast,v,decide_eq_true k];simp
    go_simp;repeat'(first|with_reducible first|apply ai|intro)
    all_goals first
     |exact wj hb (by rw[e];exact decide_eq_false (by assumption))
     |exact⟨i+1,⟨om,zr r d (by rw[e];exact decide_eq_true (by assumption))⟩,om,wrS om⟩
     |(exfalso;omega)
   ·have h:¬(n:Int)<p.funcs.length:=om;have e:w6 p.funcs f.blocks[i]=false:=by
     unfold w6;rw[hn,m,decide_eq_false h];rfl
    go_simp;repeat'(first|with_reducible first|apply ai|intro)
    all_goals first
     |exact wj hb e
     |(exfalso;omega)
  ·have e:w6 p.funcs f.blocks[i]=true:=by simp[w6,m]
   have y:(f.blocks[i].jump.kind==4)=false:=by simp[m]
   go_simp;repeat'(first|with_reducible first|apply ai|intro)
   all_goals exact⟨i+1,⟨om,zr r d e⟩,om,wrS om⟩
 ·exact zA.2 (zx r q)
def XU (p:Pr)(F:wfP p): zK 145 [p.a] (iI (wl p)):=by
 refine eK [] func145 λX=>?_;go_simp;repeat'(first|with_reducible first|apply ai|intro)
 ·simp[wl];omega
 ·rename_i v m;have:p.funcs.length=0:=by first|omega|simp_all
  simp[wl,this]
 rename_i b v m;refine lN [] (λi=>[(1,.ptr (.l 1) b 1 0 0),(3,iI i)]) (λi=>[(.l 1,⟨b,1,1,24,[Pr.c p],false⟩)]) (λi=>i<=p.funcs.length/\∀f∈p.funcs.take i,xt f=0) (λi=>p.funcs.length-i) 0 ?_
 rintro i ⟨hi,C⟩;go_simp;refine⟨λd=>⟨_,zE d,?_⟩,λB=>?_⟩
 ·repeat'(first|(apply zd (XS p.funcs[i] (F.2 _ (zM d)));try go_simp)|with_reducible first|apply ai|intro)
  ·rename_i h;have:=cS d C h
   unfold wl;rw[if_neg om,if_neg (by simpa using m),this,if_pos h]
  ·exact⟨i+1,⟨om,zr C d (by assumption)⟩,om,wrS om⟩
 ·have e:=zx C B;have M:=jO e;have w:0<p.funcs.length:=List.length_pos_iff.2 m;have J:p.funcs.getD 0 fnz=p.funcs[0]:=by rw[zD,zE w];rfl
  have D:wl p=if pJ p.funcs[0]&&oq p then 0 else 8:=by
   unfold wl;rw[if_neg om,if_neg om,if_neg (by simp[M]),J]
  refine lN [] (λi=>[(1,.ptr (.l 1) b 1 0 0),(4,iI i)]) (λi=>[(.l 1,⟨b,1,1,24,[Pr.c p],false⟩)]) (λi=>i<=p.funcs.length/\∀f∈p.funcs.take i,TT p.funcs f=true) (λi=>p.funcs.length-i) 0 ?_
  rintro k ⟨S,u⟩;go_simp;refine⟨λd=>⟨_,zE d,?_⟩,λs=>?_⟩
  ·have z:=zM d;have N:=XT p p.funcs[k] (F.2 _ z).2.1 λb hb=>(rK (tO (e _ z)).2.1 hb).2;repeat'(first|(apply zd N;try go_simp)|with_reducible first|apply ai|intro)
   ·rename_i x _;exact wj z x
   ·exact⟨k+1,⟨om,zr u d (by assumption)⟩,om,wrS om⟩
  ·have y:oq p=true:=zA.2 (zx u s);have A:=tO (e _ (zM w));have r:=F.2 _ (zM w);simp only[y,and_true];clear D J M;generalize p.funcs[0]=f at A r ⊢;have hm:=A.2.1;unfold xJ uM vN at hm;simp only[zB,zL] at hm;have K:0<=f.params/\f.params<(f.locals.length:Int):=⟨hm.1.1.1.1.1.1.2,hm.1.1.1.1.2⟩
   have E:=zA.1 hm.1.1.1.2;clear hm A;obtain⟨n,hn⟩:∃n:Nat,f.params=n:=⟨f.params.toNat,om⟩
   have P:pJ f=((f.locals.drop 1).take n).all mK:=by unfold pJ;rw[hn];rfl
   intro G;refine lN [] (λq=>[(5,.ptr (.l 5) G 4 0 0),(6,iI (q+1:Nat))]) (λq=>[(.l 5,⟨G,1,4,60,[Fn.c f],false⟩)]) (λq=>q<=n/\∀t∈(f.locals.drop 1).take q,mK t=true) (λq=>n-q) 0 ?_
   rintro q ⟨T,j⟩;go_simp;simp only[List.drop_one] at j;refine⟨λd=>?_,λO=>?_⟩
   ·have v:q+1<f.locals.length:=om;have m:q<f.locals.tail.length:=by simp;omega
    have I:f.locals.tail[q]=f.locals[q+1]:=by simp
    have Q:=E _ (zM v);refine⟨om,_,zE v,λh=>?_,λR=>?_⟩
    ·refine⟨f.locals.tail[q],?_,by rw[I];simp[mK,h]⟩;rw[List.mem_take_iff_getElem];exact⟨q,om,rfl⟩
    ·exact⟨q+1,⟨om,zr j m (by rw[I];grind [mK,yE])⟩,om,(AM.Tf (by have:=r.1;omega)).trans om⟩
   ·obtain rfl:n=q:=om;exact j
def xK (ts:List Ty): Bool:=decide (1<=ts.length)&&decide (ts.length<=16)&&ts.all yE
def yD (ts:List Ty)(p:Pl): Int:=if xK ts then(if xT p=0 then(if(ts.length:Int)<=p.loc then 6 else 0) else 8) else 8
def drf (t:Ty)(d:Bool): Option Ty:=if d=true then(if 3<=t.kind then some ⟨t.to,0⟩ else none) else some t
def xV (t:Ty)(p:Pl): Option Ty:=(drf t p.deref).bind λu=>if p.field=0 then some u else if u.kind=2 then some ⟨1,0⟩ else none
def vc (ts:List Ty)(p:Pl): Ty:=ts.getD p.loc.toNat ⟨0,0⟩
def zu (ts:List Ty)(p:Pl): Ty:=if yD ts p=0 then(xV (vc ts p) p).getD ⟨0,0⟩ else⟨0,0⟩
def zZ (ts:List Ty)(p:Pl): Int:=if yD ts p=0 then(if(xV (vc ts p) p).isNone then 42 else 0) else yD ts p
def uN (ts:List Ty)(p:Pl): Int:=if zZ ts p=0 then(if p.deref=true/\(vc ts p).kind=3 then 42 else 0) else zZ ts p
def nQ{p:Pl}(h:yD ts p=0): ∃n:Nat,p.loc=n/\∃h:n<ts.length,vc ts p=ts[n]/\yE ts[n]=true:=by
 have hp:xT p=0:=by grind [yD]
 have hl:¬(ts.length:Int)<=p.loc:=by grind [yD]
 have b:xK ts=true:=by grind [yD]
 obtain⟨n,hn,_⟩:=pI hp;have a:n<ts.length:=om;refine⟨n,hn,a,?_,?_⟩
 ·unfold vc;rw[hn,Int.toNat_natCast,zD,zE a];rfl
 ·unfold xK at b;simp only[zB] at b;exact zA.1 b.2 _ (zM a)
def l7 (ts:List Ty)(p:Pl)(hl:ts.length<1000000): zK 240 [vTy_ ts,p.a] (iI (yD ts p)):=by
 refine eK [] func240 λX=>?_;go_simp;repeat'(first|with_reducible first|apply ai|intro)
 all_goals try grind [yD,xK]
 rename_i b k m;refine lN [] (λi=>[(0,vTy_ ts),(3,.ptr (.l 3) b 3 0 0),(17,vTy_ ts),(18,iI ts.length),(19,iI i)]) (λi=>[(.l 3,⟨b,1,3,83,[Pl.c p],false⟩)]) (λi=>i<=ts.length/\∀t∈ts.take i,yE t=true) (λi=>ts.length-i) 0 ?_
 rintro i ⟨hi,h⟩;go_simp;refine⟨λd=>⟨_,zE d,λj=>?_⟩,λe=>?_⟩
 ·repeat'(first|(apply zd (tZ ⟨_,_⟩);try go_simp)|with_reducible first|apply ai|intro)
  ·have:ts.all yE=false:=wj (zM d) (by grind [ww])
   have:xK ts=false:=by unfold xK;rw[this,Bool.and_false]
   grind [yD,ww]
  ·exact⟨i+1,⟨om,zr h d (by grind [ww])⟩,om,wrS om⟩
 ·have f:xK ts=true:=by
   unfold xK;rw[zA.2 (zx h e),decide_eq_true om,decide_eq_true om];rfl
  repeat'(first|(apply zd (td ⟨_,_,_⟩);try go_simp)|with_reducible first|apply ai|intro)
  all_goals grind [yD,sD]
def w7 (ts:List Ty)(p:Pl)(hl:ts.length<1000000): zK 158 [vTy_ ts,p.a] (.tup [(zu ts p).a,iI (zZ ts p)]):=by
 by_cases e:yD ts p=0
 ·obtain⟨n,hn,h,f,j⟩:=nQ e;have b:zu ts p=(xV ts[n] p).getD ⟨0,0⟩:=by unfold zu;rw[if_pos e,f]
  have c:zZ ts p=if(xV ts[n] p).isNone then 42 else 0:=by unfold zZ;rw[if_pos e,f]
  rw[b,c];clear b c f;have d:ts[n]?=some ts[n]:=zE h;generalize ts[n]=x at j d ⊢;obtain⟨m,df,q⟩:=p;obtain rfl:m=n:=hn;obtain⟨k,o⟩:=x;refine eK [] func158 λX=>?_;go_simp;repeat'(first|((first|apply zd (l7 ts ⟨_,_,_⟩ hl)|apply zd (lP ⟨_,_⟩));try go_simp)|with_reducible first|apply ai|intro)
  all_goals grind [xV,drf,yE]
 ·have b:zu ts p=⟨0,0⟩:=by unfold zu;rw[if_neg e]
  have c:zZ ts p=yD ts p:=by unfold zZ;rw[if_neg e]
  rw[b,c];refine eK [] func158 λX=>?_;go_simp;repeat'(first|(apply zd (l7 ts p hl);try go_simp)|with_reducible first|apply ai|intro)
def l8 (ts:List Ty)(p:Pl)(hl:ts.length<1000000): zK 396 [vTy_ ts,p.a] (iI (uN ts p)):=by
 by_cases c:zZ ts p=0
 ·have e:yD ts p=0:=by
   by_cases h:yD ts p=0
   ·exact h
   ·unfold zZ at c;rw[if_neg h] at c;exact c
  obtain⟨n,hn,f,m,j⟩:=nQ e;have d:uN ts p=if p.deref=true/\ts[n].kind=3 then 42 else 0:=by unfold uN;rw[if_pos c,m]
  rw[d];clear d m;have b:ts[n]?=some ts[n]:=zE f;generalize ts[n]=x at j b ⊢;obtain⟨q,df,r⟩:=p;obtain rfl:q=n:=hn;obtain⟨k,o⟩:=x;refine eK [] func396 λX=>?_;go_simp;repeat'(first|(apply zd (w7 ts ⟨_,_,_⟩ hl);try go_simp)|with_reducible first|apply ai|intro)
  all_goals grind
 ·have d:uN ts p=zZ ts p:=by unfold uN;rw[if_neg c]
  rw[d];refine eK [] func396 λX=>?_;go_simp;repeat'(first|(apply zd (w7 ts p hl);try go_simp)|with_reducible first|apply ai|intro)
def jP (ts:List Ty)(hl:ts.length<1000000): zK 379 [vTy_ ts] (iI (if xK ts then 0 else 8)):=by
 refine eK [] func379 λX=>?_;go_simp;repeat'(first|with_reducible first|apply ai|intro)
 all_goals try grind [xK]
 refine lN [] (λi=>[(0,vTy_ ts),(3,iI i)]) (λi=>[]) (λi=>i<=ts.length/\∀t∈ts.take i,yE t=true) (λi=>ts.length-i) 0 ?_
 rintro i ⟨hi,c⟩;go_simp;refine⟨λa=>⟨_,zE a,?_⟩,λb=>?_⟩
 ·repeat'(first|(apply zd (jN ⟨_,_⟩);try go_simp)|with_reducible first|apply ai|intro)
  ·have:ts.all yE=false:=wj (zM a) (by grind [ww])
   unfold xK;rw[this,Bool.and_false]
  ·exact⟨i+1,⟨om,zr c a (by grind [ww])⟩,om,wrS om⟩
 ·have d:0<ts.length:=List.length_pos_iff.2 (by assumption);unfold xK;rw[zA.2 (zx c b),decide_eq_true om,decide_eq_true om];rfl
def jQ (ts:List Ty)(p:Pl)(f:yD ts p=0)(m:0<=p.field): zK 302 [vTy_ ts,p.a] (.tup [((xV (vc ts p) p).getD ⟨0,0⟩).a,.bool (xV (vc ts p) p).isSome]):=by
 obtain⟨n,hn,c,e,d⟩:=nQ f;rw[e];clear f e;have b:ts[n]?=some ts[n]:=zE c;generalize ts[n]=x at d b ⊢;obtain⟨h,df,j⟩:=p;obtain rfl:h=n:=hn;obtain⟨k,o⟩:=x;refine eK [] func302 λX=>?_;go_simp;repeat'(first|(apply zd (qI ⟨_,_⟩);try go_simp)|with_reducible first|apply ai|intro)
 all_goals grind [xV,drf,yE]
def jR (ts:List Ty)(p:Pl)(hl:ts.length<1000000)(e:0<=p.field): zK 301 [vTy_ ts,p.a] (iI (zZ ts p)):=by
 by_cases c:yD ts p=0
 ·have d:=jQ ts p c e;have f:xK ts=true:=by grind [yD]
  have h:xT p=0:=by grind [yD]
  have j:p.loc<(ts.length:Int):=by grind [yD]
  have b:zZ ts p=if(xV (vc ts p) p).isSome then 0 else 42:=by unfold zZ;rw[if_pos c];cases xV (vc ts p) p<;>rfl
  rw[b];clear b c;generalize (xV (vc ts p) p).isSome=is at d ⊢;refine eK [] func301 λX=>?_;go_simp;repeat'(first|((first|apply zd (jP ts hl)|apply zd (te p)|apply zd d);try go_simp)|with_reducible first|apply ai|intro)
  all_goals grind
 ·have b:zZ ts p=yD ts p:=by unfold zZ;rw[if_neg c]
  rw[b];refine eK [] func301 λX=>?_;go_simp;repeat'(first|((first|apply zd (jP ts hl)|apply zd (te p));try go_simp)|with_reducible first|apply ai|intro)
  all_goals first
   |grind [yD,sD]
   |(exfalso;grind [yD])
def mL (ts:List Ty)(p:Pl)(hl:ts.length<1000000)(e:0<=p.field): zK 195 [vTy_ ts,p.a] (.tup [(zu ts p).a,iI (zZ ts p)]):=by
 have f:=jR ts p hl e;by_cases d:yD ts p=0
 ·have j:=jQ ts p d e;have b:zu ts p=(xV (vc ts p) p).getD ⟨0,0⟩:=by unfold zu;rw[if_pos d]
  have c:zZ ts p=if(xV (vc ts p) p).isSome then 0 else 42:=by unfold zZ;rw[if_pos d];cases xV (vc ts p) p<;>rfl
  rw[b];refine eK [] func195 λX=>?_;go_simp;repeat'(first|((first|apply zd f|apply zd j);try go_simp)|with_reducible first|apply ai|intro)
  all_goals grind
 ·have b:zu ts p=⟨0,0⟩:=by unfold zu;rw[if_neg d]
  have c:zZ ts p=yD ts p:=by unfold zZ;rw[if_neg d]
  rw[b];have h:¬zZ ts p=0:=by rw[c];exact d
  clear c;refine eK [] func195 λX=>?_;go_simp;repeat'(first|(apply zd f;try go_simp)|with_reducible first|apply ai|intro)
def jS (ts:List Ty)(p:Pl)(hl:ts.length<1000000)(r:0<=p.field): zK 409 [vTy_ ts,p.a] (iI (uN ts p)):=by
 have m:=jR ts p hl r;by_cases b:zZ ts p=0
 ·have d:yD ts p=0:=by
   by_cases h:yD ts p=0
   ·exact h
   ·unfold zZ at b;rw[if_neg h] at b;exact b
  obtain⟨n,hn,f,q,j⟩:=nQ d;have e:uN ts p=if p.deref=true/\ts[n].kind=3 then 42 else 0:=by unfold uN;rw[if_pos b,q]
  rw[e];rw[b] at m;clear e q b d;have c:ts[n]?=some ts[n]:=zE f;generalize ts[n]=x at j c ⊢;obtain⟨s,df,u⟩:=p;obtain rfl:s=n:=hn;obtain⟨k,o⟩:=x;refine eK [] func409 λX=>?_;go_simp;repeat'(first|(apply zd m;try go_simp)|with_reducible first|apply ai|intro)
  all_goals grind
 ·have e:uN ts p=zZ ts p:=by unfold uN;rw[if_neg b]
  rw[e];refine eK [] func409 λX=>?_;go_simp;repeat'(first|(apply zd m;try go_simp)|with_reducible first|apply ai|intro)
def opE (ts:List Ty)(o:Opd): Int:=if o.kind=1 then 0 else if ¬zZ ts o.pl=0 then zZ ts o.pl else if(o.kind=3↔(zu ts o.pl).kind=4) then 0 else 42
def opT (ts:List Ty)(o:Opd): Ty:=if o.kind=1 then⟨1,0⟩ else if opE ts o=0 then zu ts o.pl else⟨0,0⟩
def qV:zK 394 [] (Ty.a ⟨1,0⟩):=by
 refine eK [] func394 λX=>?_;go_simp
def ZT:zK 393 [] (Pl.a ⟨0,false,0⟩):=by
 refine eK [] func393 λX=>?_;go_simp
def Qi (ts:List Ty): zZ ts ⟨0,false,0⟩=if xK ts then 0 else 8:=by
 unfold zZ yD;cases h:xK ts with
 |false=>rfl
 |true =>
  have b:1<=ts.length:=by unfold xK at h;simp only[zB,zL] at h;exact h.1.1
  have a:xT ⟨0,false,0⟩=0:=by decide
  rw[if_pos rfl,if_pos a,if_neg (show ¬(ts.length:Int)<=0 by omega)];rfl
def nw (ts:List Ty)(hl:ts.length<1000000): zK 332 [vTy_ ts] (iI (if xK ts then 0 else 8)):=by
 rw[<-Qi];refine eK [] func332 λX=>?_;go_simp;repeat'(first|((first|apply zd ZT|apply zd (w7 ts ⟨_,_,_⟩ hl));try go_simp)|with_reducible first|apply ai|intro)
def tP (ts:List Ty)(o:Opd)(hl:ts.length<1000000): zK 359 [vTy_ ts,o.a] (.tup [(opT ts o).a,iI (opE ts o)]):=by
 obtain⟨k,n,pl⟩:=o;refine eK [] func359 λX=>?_;go_simp;repeat'(first|((first|apply zd qV|apply zd (w7 ts pl hl));try go_simp)|with_reducible first|apply ai|intro)
 all_goals grind [opE,opT]
def mM (ts:List Ty)(o:Opd)(hl:ts.length<1000000)(c:o.kind=1\/o.kind=2\/o.kind=3)(b:0<=o.pl.field): zK 352 [vTy_ ts,o.a] (.tup [(opT ts o).a,iI (opE ts o)]):=by
 obtain⟨k,n,pl⟩:=o;refine eK [] func352 λX=>?_;go_simp;repeat'(first|(apply zd (mL ts pl hl b);try go_simp)|with_reducible first|apply ai|intro)
 all_goals grind [opE,opT]
def km (ts:List Ty)(r:Rv): Int:=if ¬zZ ts r.pl=0 then zZ ts r.pl else if ¬(zu ts r.pl).kind=1/\¬(zu ts r.pl).kind=2 then 42 else if r.kind=5\/r.bo=1 then 0 else uN ts r.pl
def iD (ts:List Ty)(r:Rv): Ty:=if km ts r=0 then⟨if r.kind=5 then 5 else if r.bo=1 then 3 else 4,(zu ts r.pl).kind⟩ else⟨0,0⟩
def fk (ts:List Ty)(r:Rv)(hl:ts.length<1000000): zK 395 [vTy_ ts,r.a'] (.tup [(iD ts r).a,iI (km ts r)]):=by
 obtain⟨k,op,bo,a,b,pl⟩:=r;refine eK [] func395 λX=>?_;go_simp;repeat'(first|((first|apply zd (w7 ts pl hl)|apply zd (l8 ts pl hl));try go_simp)|with_reducible first|apply ai|intro)
 all_goals grind [km,iD]
def ny (ts:List Ty)(p:Pl)(t:Ty): Int:=if ¬uN ts p=0 then uN ts p else if zu ts p=t then 0 else 42
def jT (ts:List Ty)(p:Pl)(t:Ty)(hl:ts.length<1000000): zK 334 [vTy_ ts,p.a,t.a] (iI (ny ts p t)):=by
 obtain⟨k,o⟩:=t;refine eK [] func334 λX=>?_;go_simp;repeat'(first|((first|apply zd (l8 ts p hl)|apply zd (w7 ts p hl));try go_simp)|with_reducible first|apply ai|intro)
 all_goals(have b:zu ts p=⟨k,o⟩↔(zu ts p).kind=k/\(zu ts p).to=o:=by generalize zu ts p=q;obtain⟨x,y⟩:=q;simp)
 all_goals grind [ny]
def fq (ts:List Ty)(p:Pl)(t:Ty)(hl:ts.length<1000000)(b:0<=p.field): zK 350 [vTy_ ts,p.a,t.a] (iI (ny ts p t)):=by
 obtain⟨k,o⟩:=t;refine eK [] func350 λX=>?_;go_simp;repeat'(first|((first|apply zd (jS ts p hl b)|apply zd (mL ts p hl b));try go_simp)|with_reducible first|apply ai|intro)
 all_goals(have c:zu ts p=⟨k,o⟩↔(zu ts p).kind=k/\(zu ts p).to=o:=by generalize zu ts p=q;obtain⟨x,y⟩:=q;simp)
 all_goals grind [ny]
def jv: svl H L [] []:=rfl
def rN{a b:AV}{l r:List AV}(h:sv H L a b)(k:svl H L l r): svl H L (a::l) (b::r):=⟨_,_,rfl,h,k⟩
def aq{a:AV}: sv H L a a:=Or.inl rfl
def WW{sz:Nat}: sv H L .nils (.vec sz []):=Or.inr (Or.inl ⟨rfl,_,rfl⟩)
def au{i:AM.Id}{b sz n cap:Nat}{o:Ob}{rows:List (List AV)}(j:H i=some o)(a:o.b=b)(c:o.cap=cap)(d:o.sz=sz)(e:n<=o.rows.length)(f:i∈L)(h:o.rows.take n=rows): sv H L (.sl i b sz n cap) (.vec sz rows) :=
 h▸Or.inr (Or.inr ⟨i,b,sz,n,cap,o,rfl,j,a,c,d,e,Or.inl f,rfl⟩)
def isI (ts:List Ty)(o:Opd): Bool:=(opT ts o).kind==1&&(opT ts o).to==0
def x9 (ts:List Ty): List Opd->Int
 |[]=>0
 |o::l=>if ¬opE ts o=0 then opE ts o else x9 ts l
def v8 (ts:List Ty)(l:List Opd): Int:=if ¬x9 ts l=0 then x9 ts l else if l.all (isI ts) then 0 else 42
def qm(h:∀o∈l,opE ts o=0): x9 ts l=0:=by
 induction l with
 |nil=>rfl
 |cons o l ih=>unfold x9;rw[if_neg (by simp[h o sm])];exact ih λg a=>h g (by simp[a])
def oU(hi:i<l.length)(a:∀o∈l.take i,opE ts o=0)(h:¬opE ts l[i]=0): x9 ts l=opE ts l[i]:=by
 induction l generalizing i with
 |nil=>simp at hi
 |cons o l ih =>
  cases i with
  |zero=>unfold x9;rw[if_pos (by simpa using h)];rfl
  |succ i =>
   unfold x9;rw[if_neg (by simp[a o sm])];simp only[List.getElem_cons_succ] at h ⊢;exact ih (by simpa using hi) (λg b=>a g (by simp[b])) h
def U0 (ts:List Ty)(l:List Opd): Bool:=l.all (isI ts)
def TU(h:i<l.length): U0 ts (l.take (i+1))=(U0 ts (l.take i)&&((opT ts l[i]).kind==1&&(opT ts l[i]).to==0)):=mE _ _ _ h
def nz (ts:List Ty)(l:List Opd)(hl:ts.length<1000000)(h:l.length<1000000): zK 335 [vTy_ ts,vOpd_ l] (iI (v8 ts l)):=by
 refine eK [] func335 λX=>?_;go_simp;refine lN [] (λi=>[(0,vTy_ ts),(5,.bool (U0 ts (l.take i))),(10,vOpd_ l),(11,iI l.length),(12,iI i)]) (λi=>[]) (λi=>i<=l.length/\∀o∈l.take i,opE ts o=0) (λi=>l.length-i) 0 ?_
 rintro i ⟨hi,e⟩;go_simp;refine⟨λa=>⟨_,zE a,λb=>?_⟩,λc=>?_⟩
 ·have hs:=TU (ts:=ts) a;repeat'(first|((first|apply zd (tP ts l[i] hl)|apply zd qV);try go_simp)|with_reducible first|apply ai|intro)
  ·rename_i d;have:=oU a e d
   unfold v8;rw[this,if_pos d]
  all_goals exact⟨i+1,⟨om,zr e a (by assumption)⟩,om,by rw[hs];simp[*],wrS om⟩
 ·have f:=qm (zx e c);rw[zT c];have hi:v8 ts l=if U0 ts l then 0 else 42:=by unfold v8;rw[if_neg (by simp[f])];rfl
  rw[hi];repeat'(first|with_reducible first|apply ai|intro)
  all_goals simp[*]
def rvE (ts:List Ty)(r:Rv): Int:=if r.kind=1 then opE ts r.a else if r.kind=2\/r.kind=3 then v8 ts [r.a,r.b] else km ts r
def rvT (ts:List Ty)(r:Rv): Ty:=if r.kind=1 then opT ts r.a else if r.kind=2\/r.kind=3 then(if v8 ts [r.a,r.b]=0 then⟨r.kind-1,0⟩ else⟨0,0⟩) else iD ts r
def bx (m:Mo)(size:Int)(h:MoV m): zK 263 [m.a,iI size] (.tup [(mAl m size).1.a,(mAl m size).2.1.a,iI (mAl m size).2.2]):=by
 have n:=h.wf;have j:=wb m n;rw[mD.2 h] at j;have k:=gS m.mem size n.me;by_cases e:wy m.mem size=0
 ·have q:uJ m.mem size=m.mem.next:=by unfold uJ;rw[if_pos e]
  rw[e,q] at k;obtain⟨_,A,B,_,_⟩:=ZI e;by_cases d:m.ntag=1000000
  ·have f:mAl m size=(moZ,po0,18):=by unfold mAl;rw[if_neg (by simpa using e),if_pos d]
   rw[f];generalize wz m.mem size=c at *;obtain⟨⟨l,next⟩,st,rn,nt,nc⟩:=m;obtain⟨s,b⟩:=c;simp only at d;subst d;refine eK [15] func263 λX=>?_;go_simp;repeat'(first|((first|apply zd j|apply zd k);try go_simp)|with_reducible first|apply ai|intro)
  ·have f:mAl m size=(⟨wz m.mem size,m.stacks++[qQ m.mem.next size m.ntag],m.running,m.ntag+1,m.ncall⟩,⟨m.mem.next,0,m.ntag⟩,0):=by unfold mAl;rw[if_neg (by simpa using e),if_neg d]
   have q:=Uu m.mem.next size m.ntag h.me.nx ⟨A,B⟩ (by have:=h.nt;omega);have y:=vE m n;have r:IntKind.i64.wrap (m.ntag+1)=m.ntag+1:=AM.Tf (by have:=h.nt;omega);have z:=n.sl;rw[f];generalize wz m.mem size=c at *;generalize qQ m.mem.next size m.ntag=u at *;obtain⟨⟨l,next⟩,st,rn,nt,nc⟩:=m;obtain⟨s,b⟩:=c;obtain⟨D,C⟩:=u;simp only at *;have x:(nt==1000000)=false:=by simpa using d
   refine eK [15] func263 λX=>?_;go_simp;repeat'(first|((first|apply zd j|apply zd k|apply zd q|(refine xu (.l 52) y ?_;intro v w));try go_simp)|with_reducible first|apply ai|intro)
   ·omega
   refine zh hP ⟨[(2,.l 2,0),(13,.l 13,0),(4,.l 4,0),(5,.l 5,0)],false⟩ dk ?_;go_simp
 ·have f:mAl m size=(moZ,po0,wy m.mem size):=by unfold mAl;rw[if_pos e]
  rw[f];have hb:=z4 e;generalize wz m.mem size=c at *;generalize uJ m.mem size=E at *;generalize wy m.mem size=er at *;obtain⟨⟨l,next⟩,st,rn,nt,nc⟩:=m;obtain⟨s,b⟩:=c;refine eK [15] func263 λX=>?_;go_simp;repeat'(first|((first|apply zd j|apply zd k);try go_simp)|with_reducible first|apply ai|intro)
def kpS (p:Ss->Bool)(l:List Ss)(j:Nat): List Ss:=(l.take j).filter λx=>!p x
def ko {p:Ss->Bool}{l:List Ss}{j:Nat}: (kpS p l j).length<=j/\(kpS p l j).length<=l.length:=by
 unfold kpS;have:=List.length_filter_le (λx=>!p x) (l.take j)
 simp only[List.length_take] at this;omega
def mN {p:Ss->Bool}{l:List Ss}{j:Nat}(h:j<l.length): kpS p l (j+1)=if p l[j]=true then kpS p l j else kpS p l j++[l[j]]:=by
 unfold kpS;rw[List.take_add_one,zE h,List.filter_append];cases hp:p l[j]<;>simp[hp]
def krS (p:Ss->Bool)(l:List Ss)(j:Nat): List (List AV):=(kpS p l j).map Ss.c++(l.map Ss.c).drop (kpS p l j).length
def WX{l:List Ss}{j:Nat}: (krS p l j).length=l.length:=by
 have:=(@ko p l j).2
 unfold krS;simp;omega
def Lg {p:Ss->Bool}{l:List Ss}{j:Nat}(h:j<l.length): (krS p l j)[j]?=some (Ss.c l[j]):=by
 have:=(@ko p l j).1
 unfold krS;rw[List.getElem?_append_right (by simpa using this),List.getElem?_drop];simp only[zU];rw[show(kpS p l j).length+(j-(kpS p l j).length)=j by omega];simp[h]
def Nj {p:Ss->Bool}{l:List Ss}{j:Nat}(h:j<l.length)(k:p l[j]=false): (krS p l j).set (kpS p l j).length (Ss.c l[j])=krS p l (j+1):=by
 have b:=@mN p l j h;rw[if_neg (by rw[k];simp)] at b;have hl:=@ko p l j;unfold krS;rw[b];rw[List.set_append_right _ _ sm,zU,Nat.sub_self];have f:(l.map Ss.c).drop (kpS p l j).length≠[]:=by
  intro e;have:=congrArg List.length e;simp at this;omega
 simp only[zV,List.map_cons,List.map_nil,List.length_append,List.length_singleton,List.append_assoc,List.singleton_append];congr 1
 cases d:(l.map Ss.c).drop (kpS p l j).length with
 |nil=>exact absurd d f
 |cons a t =>
  rw[List.set_cons_zero];congr 1
  rw[<-List.drop_drop,d];rfl
def Qj {p:Ss->Bool}{l:List Ss}{j:Nat}(h:j<l.length)(b:p l[j]=true): krS p l (j+1)=krS p l j/\kpS p l (j+1)=kpS p l j:=by
 have a:=@mN p l j h;rw[if_pos b] at a;unfold krS;rw[a];exact⟨rfl,rfl⟩
def TX{l:List Ss}(h:i<l.length)(hp:p l[i]=true)(a:∀x∈l.take i,p x=false): kpS p l (i+1)=l.take i/\krS p l (i+1)=l.map Ss.c:=by
 have e:kpS p l (i+1)=l.take i:=by
  rw[mN h,if_pos hp];unfold kpS;exact List.filter_eq_self.2 λx hx=>by rw[a x hx];rfl
 refine⟨e,?_⟩;unfold krS;rw[e,List.length_take,Nat.min_eq_left om,List.map_take,List.take_append_drop]
def TY{l:List Ss}(h:yF g caps Ss.a p l)(hl:l.length<1000000)(b c:Nat): zG 365 1 (λι=>[.sl (ι 0) b 2 l.length c,.fn g caps]) (λ_=>[⟨b,c,2,124,l.map Ss.c,false⟩])
  (λι q=>.sl (ι 0) (q 0).1 2 (kpS p l l.length).length (q 0).2) (λ_ q=>[⟨(q 0).1,(q 0).2,2,124,(kpS p l l.length).map Ss.c++List.replicate (l.length-(kpS p l l.length).length) [iI 0,.nils],false⟩]):=by
 have v:=Zq h hl;have y:=h.cb;by_cases A:idx p l<0
 ·have k:kpS p l l.length=l:=by
   unfold kpS;rw[List.take_length];refine List.filter_eq_self.2 λx hx=>?_;cases c:p x with
   |false=>rfl
   |true =>
    have:l.any p=true:=List.any_eq_true.2 ⟨x,hx,c⟩
    have C:=@vZ _ p l;rw[this] at C;simp at C;omega
  have hm:idx p l = -1:=by unfold idx at *;split at A<;>simp_all<;>omega
  rw[hm] at v;rw[k];refine eG [] func365 λX=>?_;go_simp;refine VU [u0] v ?_ rfl ?_
  ·exact rN (au rfl rfl rfl rfl sm (by decide) (zT sm)) (rN aq jv)
  go_simp;exact⟨[u0],dk,λ_=>(b,c),⟨OB,trivial⟩,⟨rfl,rfl,rfl⟩,rfl⟩
 ·obtain⟨i,hi,z,hp,M⟩:=q9 (by omega:0<=idx p l)
  rw[hi] at v;obtain⟨R,S⟩:=TX z hp M;have N:IntKind.i64.wrap ((i:Int)+1)=((i+1:Nat):Int):=(AM.Tf om).trans om;have K:((i:Int)==-1)=false:=by simp
  refine eG [] func365 λX=>?_;go_simp;refine VU [u0] v ?_ rfl ?_
  ·exact rN (au rfl rfl rfl rfl sm (by decide) (zT sm)) (rN aq jv)
  go_simp;refine Xm u0 rfl λm=>?_;refine zf hP (B:=[]) (G:=Nat) (λj=>[(0,.sl u0 b 2 l.length c),(1,.fn g caps),(5,iI (kpS p l j).length),(6,iI j)])
   (λj=>[(u0,⟨b,c,2,124,krS p l j,false⟩)]) (λj=>j<=l.length) (λj=>l.length-j) (i+1) dk om ?_ ?_ ?_
  ·go_simp;omega
  ·go_simp
  ·rintro j U;have hle:=@ko p l j;by_cases d:j<l.length
   ·have I:=@Lg p l j d;have hpl:=h.call _ (zM d);have s:=@Nj p l j d;have e:=@Qj p l j d;have f:=@mN p l j d;generalize P:l[j]=x at *;have O:IntKind.i64.wrap (((kpS p l j).length:Int)+1)=(((kpS p l j).length+1:Nat):Int):=(AM.Tf om).trans om;obtain⟨E,D⟩:=x;go_simp;refine λQ=>⟨y,?_⟩
    cases u:p ⟨E,D⟩ with
    |true =>
     rw[u] at hpl;obtain⟨w,F⟩:=e u;repeat'(first|(apply zd hpl;try go_simp)|with_reducible first|apply ai|intro)
     exact⟨j+1,om,om,⟨by rw[F],wrS om⟩,w.symm⟩
    |false =>
     rw[u] at hpl;have w:=s u;have n:kpS p l (j+1)=kpS p l j++[⟨E,D⟩]:=by rw[f,if_neg (by rw[u];simp)]
     have r:(kpS p l j).length<l.length:=by
      have:=(@ko p l (j+1)).2
      rw[n] at this;simp at this;omega
     have J:(krS p l j)[(kpS p l j).length]?=some [iI l[(kpS p l j).length].num,.vec 1 (l[(kpS p l j).length].cells.map sk)]:=by
      unfold krS;rw[List.getElem?_append_right sm,List.getElem?_drop];simp[r,Ss.c]
     repeat'(first|(apply zd hpl;try go_simp)|with_reducible first|apply ai|intro)
     exact⟨j+1,om,om,⟨by rw[n];simp,wrS om⟩,w⟩
   ·obtain rfl:j=l.length:=om;have T:(krS p l l.length).drop l.length = []:=List.drop_of_length_le (by rw[WX];exact Nat.le_refl _);have V:(krS p l l.length).take (kpS p l l.length).length=(kpS p l l.length).map Ss.c:=by unfold krS;rw[List.take_left' sm]
    go_simp;refine⟨⟨by simp only[zU] at m;omega,by rw[WX];exact Nat.le_refl _⟩,[u0],dk,λ_=>(b,c),⟨OB,trivial⟩,⟨rfl,rfl,rfl⟩,rfl⟩
def jw (l:List Al)(x:Ss): Bool:=!l.any (xO x.num)
def Qk (x:Ss)(l:List Al): yF 368 [.rp x.c] Al.a (xO x.num) l:=⟨by go_simp,λa d=>by
 have b:xO x.num a=(a.num==x.num):=rfl;rw[b];obtain⟨n,c⟩:=x;obtain⟨e,lv,c2⟩:=a;refine eK [] func368 λX=>?_;go_simp⟩
def Nk (m:Me)(d:wfA m)(l:List Ss): yF 366 [.rp m.c] Ss.a (jw m.allocs) l:=⟨by go_simp,λx hx=>by
 have b:=X4 (Qk x m.allocs) d.1;unfold jw;obtain⟨al,next⟩:=m;obtain⟨n,c⟩:=x;refine eK [1] func366 λX=>?_;go_simp;intro e;refine z5 [.l 2] 2 (SV.ptr rfl rfl rfl rfl sm rfl) ?_;refine aO [] ?_;go_simp;repeat'(first|(apply zd b;try go_simp)|with_reducible first|apply ai|intro)⟩
def Nl {m:Mo}(h:MoV m): m.stacks.filter (λx=>!jw (m.mem.allocs.filter Al.live) x)=((m.mem.allocs.zip m.stacks).filter λq=>q.1.live).map (·.2):=by
 have f:∀q∈m.mem.allocs.zip m.stacks,jw (m.mem.allocs.filter Al.live) q.2 = !q.1.live:=λq c=>by
  have hn:=(qk.1 (h.st q c)).num;obtain⟨k,b,w⟩:=ZE c;unfold jw;congr 1
  cases hl:q.1.live with
  |true=>exact List.any_eq_true.2 ⟨q.1,List.mem_filter.2 ⟨zF b,hl⟩,by simp[xO,hn]⟩
  |false =>
   rw[zI];intro a v d;obtain⟨s,n⟩:=List.mem_filter.1 v;obtain⟨j,r,rfl⟩:=List.getElem_of_mem s;by_cases e:j=k
   ·subst e;rw[zE r] at b;injection b with b;rw[b,hl] at n;cases n
   ·have:=du h.me b (zE r) e
    simp only[xO,beq_iff_eq] at d;rw[hn] at d;exact this d
 have u:m.stacks=(m.mem.allocs.zip m.stacks).map (·.2):=by rw[List.map_snd_zip (by rw[h.len];exact Nat.le_refl _)]
 conv=>lhs;rw[u]
 rw[List.filter_map];congr 1
 refine List.filter_congr λq c=>?_;simp only[Function.comp,f q c,Bool.not_not]
def d8 (m:Mo)(d:MoV m): zK 265 [m.a] (.tup [(mFg m).a,iI 0]):=by
 have e:=d.wf;have r:=wb m e;rw[mD.2 d] at r;have u:=lp m.mem e.me;rw[og.2 d.me] at u;have x:=vE m e;obtain⟨n,w⟩:=ap d.me;have j:wfA (fgM m.mem):=⟨by have:=n.len;omega,λa y=>by have:=(n.al a y).c2;omega⟩
 have s:=λb c=>TY (Nk (fgM m.mem) j m.stacks) e.sl b c;have z:kpS (jw (fgM m.mem).allocs) m.stacks m.stacks.length=((m.mem.allocs.zip m.stacks).filter λq=>q.1.live).map (·.2):=by
  unfold kpS;rw[List.take_length,w];exact Nl d
 rw[z] at s;unfold mFg;generalize ((m.mem.allocs.zip m.stacks).filter λq=>q.1.live).map (·.2)=B at *;generalize fgM m.mem=v at *;obtain⟨⟨l,next⟩,st,rn,nt,nc⟩:=m;obtain⟨C,k⟩:=v;refine eK [7] func265 λX=>?_;go_simp;repeat'(first|((first|apply zd r|apply zd u|(refine xu (.l 20) x ?_;intro f h));try go_simp)|with_reducible first|apply ai|intro)
 refine z5 [.l 5] 5 (SV.ptr rfl rfl rfl rfl sm rfl) ?_;refine aO [] ?_;go_simp;repeat'(first|(refine zi [.l 20] 1 0 (s f h) ?_;intro A;try go_simp)|with_reducible first|apply ai|intro)
def bB (ts:List Ty)(r:Rv)(hl:ts.length<1000000): zK 333 [vTy_ ts,r.a'] (.tup [(rvT ts r).a,iI (rvE ts r)]):=by
 obtain⟨k,op,bo,a,b,pl⟩:=r;have c:([a,b]:List Opd).length<1000000:=by simp
 refine eK [] func333 λX=>?_;go_simp;repeat'(first|((first|apply zd qV|refine gL [.l 29] (nz ts [a,b] hl c) ?_|apply zd (tP ts a hl)|apply zd (fk ts ⟨k,op,bo,a,b,pl⟩ hl));try go_simp)|with_reducible first|apply ai|intro)
 all_goals grind [rvT,rvE]
end Go.Proofs.YtllodfoldffonaaGreatDoor
