/- A part of the proof. -/
import Derived.Test.YtllodfoldffonaaGreatDoorQ07
namespace Go.Proofs.YtllodfoldffonaaGreatDoor
open Tryz AM Go.RowKit
set_option linter.unusedSimpArgs false
set_option linter.unusedVariables false
set_option linter.defProp false
set_option maxRecDepth 100000
set_option maxHeartbeats 16000000
variable {b:Bk}{f:Fn}{j:Ju}{jm:Ju}{k:Nat}{l:List Int}{m:Bool}{n:Nat}{o:Opd}{s:St}{ss:List St}
abbrev Vis:=Pl×Bool
def tF (a:Bool)(o:Opd): List Vis:=if o.kind=1 then [] else [(o.pl,a&&decide (o.kind=3))]
def yG (a:Bool)(l:List Opd): List Vis:=l.flatMap (tF a)
def uK (r:Rv): List Vis:=if r.kind=4\/r.kind=5 then [(r.pl,false)] else if r.kind=1 then yG true [r.a] else yG false [r.a,r.b]
def xp (s:St): List Vis:=if s.kind=3 then [(⟨s.loc,false,0⟩,false)] else if s.kind=2\/s.kind=4 then yG false [s.a] else if s.kind=1 then(s.pl,false)::uK s.r else []
def xY (j:Ju): List Vis:=if j.kind=2 then yG false [j.a] else if j.kind=4 then(j.dest,false)::yG true j.args else []
def yH {S:Type}(step:S->Pl->Bool->S)(s:S)(a:List Vis): S:=a.foldl (λs v=>step s v.1 v.2) s
def dv {S:Type}(step:S->Pl->Bool->S)(s:S)(us a:List Vis): yH step s (us++a)=yH step (yH step s us) a:=by
 unfold yH;exact List.foldl_append ..
def gZ {a:Bool}{l:List Opd}(h:k<l.length): yG a (l.take (k+1))=yG a (l.take k)++tF a l[k]:=by
 unfold yG;rw[List.take_add_one,zE h,List.flatMap_append];simp
structure OnK (g b1 z1 t1 b2 z2 t2:Nat){S:Type}(r1 r2:S->List (List AV))(step:S->Pl->Bool->S)(G:Pl->Prop): Prop where
 cb:vQ Tryz.prog g
 call:∀s p b,G p->zP g [p.a,.bool b,.ptr u0 b1 z1 0 0,.ptr u1 b2 z2 0 0] [⟨b1,1,z1,t1,r1 s,false⟩,⟨b2,1,z2,t2,r2 s,false⟩] (.tup []) [⟨b1,1,z1,t1,r1 (step s p b),false⟩,⟨b2,1,z2,t2,r2 (step s p b),false⟩]
section
variable {g b1 z1 t1 b2 z2 t2:Nat} {S:Type} {r1 r2:S -> List (List AV)} {step:S -> Pl -> Bool -> S} {G:Pl -> Prop}
def wO (h:OnK g b1 z1 t1 b2 z2 t2 r1 r2 step G)(l:List Opd)(a:Bool)(s:S)(hl:l.length<1000000)(q:∀v∈yG a l,G v.1):
  zP 372 [vOpd_ l,.bool a,.fn g [.ptr u0 b1 z1 0 0,.ptr u1 b2 z2 0 0]] [⟨b1,1,z1,t1,r1 s,false⟩,⟨b2,1,z2,t2,r2 s,false⟩] (.tup [])
   [⟨b1,1,z1,t1,r1 (yH step s (yG a l)),false⟩,⟨b2,1,z2,t2,r2 (yH step s (yG a l)),false⟩]:=by
 refine eP [] func372 λX=>?_;go_simp;refine zf hP (B:=[]) (G:=Nat) (λi=>[(1,.bool a),(2,.fn g [.ptr u0 b1 z1 0 0,.ptr u1 b2 z2 0 0]),(8,vOpd_ l),(9,iI l.length),(10,iI i)])
  (λi=>[(u0,⟨b1,1,z1,t1,r1 (yH step s (yG a (l.take i))),false⟩),(u1,⟨b2,1,z2,t2,r2 (yH step s (yG a (l.take i))),false⟩)])
  (λi=>i<=l.length) (λi=>l.length-i) 0 dk sm ?_ ?_ ?_
 ·go_simp
 ·go_simp;exact⟨rfl,rfl⟩
 ·rintro i hi;go_simp;refine⟨λc=>⟨_,zE c,λb=>?_⟩,λr=>?_⟩
  ·have hx:∀b,¬l[i].kind=1->tF b l[i] = [(l[i].pl,b&&decide (l[i].kind=3))]:=λb h=>by unfold tF;rw[if_neg h]
   have d:¬l[i].kind=1->G l[i].pl:=λp=>q (_,_) (List.mem_flatMap.2 ⟨_,zM c,by rw[hx _ p];exact zX.2 rfl⟩);have hs:¬l[i].kind=1->yH step s (yG a (l.take (i+1)))=step (yH step s (yG a (l.take i))) l[i].pl (a&&l[i].kind==3):=λh=>by rw[gZ c,dv,hx _ h];rfl
   have e:l[i].kind=1->yG a (l.take (i+1))=yG a (l.take i):=λh=>by rw[gZ c];unfold tF;rw[if_pos h,List.append_nil]
   repeat'(first|((first|refine xX [u0,u1] (h.call (yH step s (yG a (l.take i))) l[i].pl (l[i].kind==3) (d (by assumption))) ?_|refine xX [u0,u1] (h.call (yH step s (yG a (l.take i))) l[i].pl false (d (by assumption))) ?_);try go_simp)|exact h.cb|with_reducible first|apply ai|intro)
   ·have hs:=hs (by assumption);refine⟨i+1,om,om,wrS om,?_⟩;simp_all
   ·have hs:=hs (by assumption);refine⟨i+1,om,om,wrS om,?_⟩;simp_all
   ·exact⟨i+1,om,om,wrS om,by rw[e (by assumption)],by rw[e (by assumption)]⟩
  ·obtain rfl:l.length=i:=om;rw[List.take_length];exact⟨yg,xi _ _ _,xi _ _ _⟩
def rJ (h:OnK g b1 z1 t1 b2 z2 t2 r1 r2 step G)(t:St)(s:S)(p:∀v∈xp t,G v.1):
  zP 283 [t.a',.fn g [.ptr u0 b1 z1 0 0,.ptr u1 b2 z2 0 0]] [⟨b1,1,z1,t1,r1 s,false⟩,⟨b2,1,z2,t2,r2 s,false⟩] (.tup [])
   [⟨b1,1,z1,t1,r1 (yH step s (xp t)),false⟩,⟨b2,1,z2,t2,r2 (yH step s (xp t)),false⟩]:=by
 have i:t.kind=3\/t.kind=2\/t.kind=4\/t.kind=1\/¬t.kind=3/\¬t.kind=2/\¬t.kind=4/\¬t.kind=1:=om;rcases i with i|i|i|i|⟨C,B,D,A⟩
 ·have e:xp t = [(⟨t.loc,false,0⟩,false)]:=by simp[xp,i]
  have z:=p _ (by rw[e];exact zX.2 rfl);rw[e];refine eP [] func283 λX=>?_;go_simp;repeat'(first|(refine xX [u0,u1] (h.call s ⟨t.loc,false,0⟩ false z) ?_;try go_simp)|exact h.cb|exact yg|exact xi _ _ _|with_reducible first|apply ai|intro)
 ·have e:xp t=yG false [t.a]:=by simp[xp,i]
  have x:=show 1<1000000 by decide
  rw[e] at p ⊢;refine eP [] func283 λX=>?_;go_simp;repeat'(first|(refine rF [ .l 18] ?_;refine xX [u0,.u (.l 1) ] (wO h [t.a] false s x p) ?_;try go_simp)|exact h.cb|exact yg|exact xi _ _ _|with_reducible first|apply ai|intro)
 ·have e:xp t=yG false [t.a]:=by simp[xp,i]
  have x:=show 1<1000000 by decide
  rw[e] at p ⊢;refine eP [] func283 λX=>?_;go_simp;repeat'(first|(refine rF [ .l 18] ?_;refine xX [u0,.u (.l 1) ] (wO h [t.a] false s x p) ?_;try go_simp)|exact h.cb|exact yg|exact xi _ _ _|with_reducible first|apply ai|intro)
 ·have e:xp t=(t.pl,false)::uK t.r:=by simp[xp,i]
  rw[e] at p ⊢;have z:=p _ (List.mem_cons_self ..);have c:∀v∈uK t.r,G v.1:=λv q=>p v (List.mem_cons_of_mem _ q);rw[show yH step s ((t.pl,false)::uK t.r)=yH step (step s t.pl false) (uK t.r) from rfl];have y:t.r.kind=4\/t.r.kind=5\/t.r.kind=1\/¬t.r.kind=4/\¬t.r.kind=5/\¬t.r.kind=1:=om;rcases y with y|y|y|⟨E,F,r1⟩
  ·have d:uK t.r = [(t.r.pl,false)]:=by simp[uK,y]
   have w:=c _ (by rw[d];exact zX.2 rfl);rw[d];refine eP [] func283 λX=>?_;go_simp;repeat'(first|((first|refine xX [u0,u1] (h.call s t.pl false z) ?_|refine xX [u0,u1] (h.call (step s t.pl false) t.r.pl false w) ?_);try go_simp)|exact h.cb|exact yg|exact xi _ _ _|with_reducible first|apply ai|intro)
  ·have d:uK t.r = [(t.r.pl,false)]:=by simp[uK,y]
   have w:=c _ (by rw[d];exact zX.2 rfl);rw[d];refine eP [] func283 λX=>?_;go_simp;repeat'(first|((first|refine xX [u0,u1] (h.call s t.pl false z) ?_|refine xX [u0,u1] (h.call (step s t.pl false) t.r.pl false w) ?_);try go_simp)|exact h.cb|exact yg|exact xi _ _ _|with_reducible first|apply ai|intro)
  ·have d:uK t.r=yG true [t.r.a]:=by simp[uK,y]
   have x:=show 1<1000000 by decide
   rw[d] at c ⊢;refine eP [] func283 λX=>?_;go_simp;repeat'(first|((first|refine xX [u0,u1] (h.call s t.pl false z) ?_|(refine rF [ .l 52] ?_;refine xX [u0,.u (.l 1) ] (wO h [t.r.a] true (step s t.pl false) x c) ?_));try go_simp)|exact h.cb|exact yg|exact xi _ _ _|with_reducible first|apply ai|intro)
  ·have d:uK t.r=yG false [t.r.a,t.r.b]:=by simp[uK,E,F,r1]
   have x:=show 2<1000000 by decide
   rw[d] at c ⊢;refine eP [] func283 λX=>?_;go_simp;repeat'(first|((first|refine xX [u0,u1] (h.call s t.pl false z) ?_|(refine rF [ .l 36] ?_;refine xX [u0,.u (.l 1) ] (wO h [t.r.a,t.r.b] false (step s t.pl false) x c) ?_));try go_simp)|exact h.cb|exact yg|exact xi _ _ _|with_reducible first|apply ai|intro)
 ·have e:xp t = []:=by simp[xp,A,B,C,D]
  rw[e];refine eP [] func283 λX=>?_;go_simp;repeat'(first|exact yg|exact xi _ _ _|with_reducible first|apply ai|intro)
def nP (h:OnK g b1 z1 t1 b2 z2 t2 r1 r2 step G)(j:Ju)(s:S)(hl:j.args.length<1000000)(c:∀v∈xY j,G v.1):
  zP 285 [j.a',.fn g [.ptr u0 b1 z1 0 0,.ptr u1 b2 z2 0 0]] [⟨b1,1,z1,t1,r1 s,false⟩,⟨b2,1,z2,t2,r2 s,false⟩] (.tup [])
   [⟨b1,1,z1,t1,r1 (yH step s (xY j)),false⟩,⟨b2,1,z2,t2,r2 (yH step s (xY j)),false⟩]:=by
 have d:j.kind=2\/j.kind=4\/¬j.kind=2/\¬j.kind=4:=om;rcases d with d|d|⟨p,r⟩
 ·have e:xY j=yG false [j.a]:=by simp[xY,d]
  have w:=show 1<1000000 by decide
  rw[e] at c ⊢;refine eP [] func285 λX=>?_;go_simp;repeat'(first|(refine rF [ .l 10] ?_;refine xX [u0,.u (.l 1) ] (wO h [j.a] false s w c) ?_;try go_simp)|exact h.cb|exact yg|exact xi _ _ _|with_reducible first|apply ai|intro)
 ·have e:xY j=(j.dest,false)::yG true j.args:=by simp[xY,d]
  rw[e] at c ⊢;have t:=c _ (List.mem_cons_self ..);have i:∀v∈yG true j.args,G v.1:=λv q=>c v (List.mem_cons_of_mem _ q);rw[show yH step s ((j.dest,false)::yG true j.args)=yH step (step s j.dest false) (yG true j.args) from rfl];refine eP [] func285 λX=>?_;go_simp;repeat'(first|((first|refine xX [u0,u1] (h.call s j.dest false t) ?_|refine xX [u0,u1] (wO h j.args true (step s j.dest false) hl i) ?_);try go_simp)|exact h.cb|exact yg|exact xi _ _ _|with_reducible first|apply ai|intro)
 ·have e:xY j = []:=by simp[xY,p,r]
  rw[e];refine eP [] func285 λX=>?_;go_simp;repeat'(first|exact yg|exact xi _ _ _|with_reducible first|apply ai|intro)
end
def wj {a:Type}{p:a->Bool}{l:List a}{x:a}(h:x∈l)(hx:p x=false): l.all p=false:=by
 cases q:l.all p with
 |false=>rfl
 |true=>rw[zA.1 q x h] at hx;cases hx
def pG (b:Bk): Bool:=decide (b.stmts.length<=24)
def vT (f:Fn): Bool:=decide (f.locals.length<=16)&&decide (f.blocks.length<=24)&&f.blocks.all pG
def ZL(h:b∈f.blocks)(hb:24<b.stmts.length): vT f=false:=by
 cases q:vT f with
 |false=>rfl
 |true =>
  simp only[vT,zB,zA] at q;have:=q.2 b h
  simp only[pG,zL] at this;omega
def lx (f:Fn)(hl:f.blocks.length<1000000): zK 177 [f.a] (.bool (!vT f)):=by
 refine eK [] func177 λX=>?_;go_simp;repeat'(first|with_reducible first|apply ai|intro)
 all_goals try grind [vT]
 refine lN [] (λi=>[(16,vBk_ f.blocks),(17,iI f.blocks.length),(18,iI i)]) (λi=>[]) (λi=>i<=f.blocks.length/\∀b∈f.blocks.take i,b.stmts.length<=24) (λi=>f.blocks.length-i) 0 ?_
 rintro i ⟨hi,e⟩;go_simp;refine⟨λc=>⟨_,zE c,?_⟩,λd=>?_⟩
 ·repeat'(first|with_reducible first|apply ai|intro)
  ·exact ZL (zM c) om
  ·exact⟨i+1,⟨om,zr e c om⟩,om,wrS om⟩
 ·have:=zx e d
  simp only[vT,zB,zA,pG,zL];exact⟨⟨om,om⟩,this⟩
def vN (f:Fn): Bool:=decide (1<=f.locals.length)&&decide (0<=f.params)&&decide (f.params<=8)&&decide (f.params<(f.locals.length:Int))&&f.locals.all yE&&decide ((f.locals.getD 0 ⟨0,0⟩).to=0)
def ZM (f:Fn)(hl:f.locals.length<1000000): zK 280 [f.a] (.bool (vN f)):=by
 refine eK [] func280 λX=>?_;go_simp;repeat'(first|with_reducible first|apply ai|intro)
 all_goals try grind [vN]
 rename_i b r w x y;refine lN [] (λi=>[(1,.ptr (.l 1) b 4 0 0),(30,vTy_ f.locals),(31,iI f.locals.length),(32,iI i)]) (λi=>[(.l 1,⟨b,1,4,60,[Fn.c f],false⟩)]) (λi=>i<=f.locals.length/\∀t∈f.locals.take i,yE t=true) (λi=>f.locals.length-i) 0 ?_
 rintro i ⟨hi,q⟩;go_simp;refine⟨λd=>⟨_,zE d,λb=>?_⟩,λh=>?_⟩
 ·repeat'(first|(apply zd (tZ ⟨_,_⟩);try go_simp)|with_reducible first|apply ai|intro)
  ·have:f.locals.all yE=false:=wj (zM d) (by grind [ww])
   simp[vN,this]
  ·exact⟨i+1,⟨om,zr q d (by grind [ww])⟩,om,wrS om⟩
 ·have e:0<f.locals.length:=List.length_pos_iff.2 r;refine⟨_,zE e,?_⟩;repeat'(first|(apply zd (lP ⟨_,_⟩);try go_simp)|with_reducible first|apply ai|intro)
  have p:f.locals.all yE=true:=zA.2 (zx q h);have u:f.locals.getD 0 ⟨0,0⟩=f.locals[0]:=by rw[zD,zE e];rfl
  have v:=zA.1 p _ (zM e);rw[if_pos v];simp only[vN,p,u];grind
def two (s:St): Bool:=s.kind==1&&s.r.kind==4&&s.r.bo==3
def jM (s:St): zK 287 [s.a'] (.bool (two s)):=by
 refine eK [] func287 λX=>?_;go_simp;repeat'(first|with_reducible first|apply ai|intro)
 all_goals grind [two]
def qR (s:St): zK 404 [s.a'] (.bool (two s)):=by
 refine eK [] func404 λX=>?_;go_simp;repeat'(first|with_reducible first|apply ai|intro)
 all_goals grind [two]
def WN (f:Fn)(b1 b2:Nat): OnK 281 b1 1 4 b2 4 60 (λr:Bool=>[[.bool r]]) (λ_=>[Fn.c f]) (λr p _=>r&&decide (p.loc<(f.locals.length:Int))) (λ_=>True) where
 cb:=by go_simp
 call s p b _:=by
  refine eP [] func281 λX=>?_;go_simp;repeat'(first|exact yg|exact xi _ _ _|with_reducible first|apply ai|intro)
  all_goals simp_all
def cw (l:List Int)(k:Nat): Int:=IntKind.i64.wrap (l.count (k:Int))
def cwA (l:List Int): List AV:=arr 16 λk=>iI (cw l k)
def i8 (a b:Int): IntKind.i64.wrap (IntKind.i64.wrap a+b)=IntKind.i64.wrap (a+b):=by
 simp only[IntKind.wrap,IntKind.bits,IntKind.signed];simp;omega
def pH (l:List Int)(n i:Nat): cw (l++[(n:Int)]) i=if i=n then IntKind.i64.wrap (cw l n+1) else cw l i:=by
 unfold cw;rw[List.count_append];by_cases h:i=n
 ·subst h;rw[if_pos rfl,i8];simp
 ·rw[if_neg h];simp only[List.count_cons,List.count_nil];rw[if_neg (by simp;omega)];simp
def u5 {H:Hp}{E:List AM.Id}{l l':List AV}(h:l=l'): tR H E l l':=h▸uC H E l
def oT{g a:Nat->AV}(h:∀k,k<n->g k=a k): arr n g=arr n a:=List.map_congr_left λk c=>h k (List.mem_range.1 c)
def v7 (p:Pl): Prop:=0<=p.loc/\p.loc<16
def qS (p:Pl)(b:Bool): Bool:=b&&!p.deref&&decide (p.field=0)
def py (s:List Int×List Int)(p:Pl)(b:Bool): List Int×List Int:=(s.1++[p.loc],if qS p b=true then s.2++[p.loc] else s.2)
attribute [go_sem] Zi
def dw (b1 b2:Nat): OnK 286 b1 16 368 b2 16 368 (λs:List Int×List Int=>[cwA s.1]) (λs=>[cwA s.2]) py v7 where
 cb:=by go_simp
 call s p b h:=by
  obtain⟨n,hn,a⟩:∃n:Nat,p.loc=n/\n<16:=⟨p.loc.toNat,by have:=h.1;omega,by have:=h.1;have:=h.2;omega⟩
  have c:(n:Int)<16:=om;unfold cwA;refine eP [] func286 λX=>?_;go_simp;repeat'(first|exact yg|exact xi _ _ _|with_reducible first|apply ai|intro)
  all_goals first
   |omega
   |(
     refine u5 (oT λi hi=>?_);have e:=pH s.1 n i;have d:=pH s.2 n i;simp only[py,hn,e];grind [qS])
def tU (n:Nat)(v:Vis): Bool:=decide (v.1.loc<(n:Int))
def stB (n:Nat)(s:St): Bool:=y6 s&&(xp s).all (tU n)
def juB (n a:Nat)(j:Ju): Bool:=yJ j&&((xY j).all (tU n)&&(xx j).all λt=>decide (t<(a:Int)))
def bkB (n a:Nat)(b:Bk): Bool:=b.stmts.all (stB n)&&juB n a b.jump
def uM (f:Fn): Bool:=vN f&&decide (0<f.blocks.length)
def xJ (f:Fn): Bool:=uM f&&f.blocks.all (bkB f.locals.length f.blocks.length)
def cN (n:Nat)(r:Bool)(a:List Vis): yH (λr (p:Pl) (_:Bool)=>r&&decide (p.loc<(n:Int))) r a=(r&&a.all (tU n)):=by
 induction a generalizing r with
 |nil=>simp[yH]
 |cons v a ih=>rw[show yH (λr (p:Pl) (_:Bool)=>r&&decide (p.loc<(n:Int))) r (v::a)=yH (λr (p:Pl) (_:Bool)=>r&&decide (p.loc<(n:Int))) (r&&decide (v.1.loc<(n:Int))) a from rfl,ih];simp[tU,Bool.and_assoc]
def mE {a:Type}(p:a->Bool)(l:List a)(k:Nat)(h:k<l.length): (l.take (k+1)).all p=((l.take k).all p&&p l[k]):=by
 rw[List.take_add_one,zE h,List.all_append];simp
def i9(hb:b∈f.blocks)(h:bkB f.locals.length f.blocks.length b=false): xJ f=false:=by
 unfold xJ;rw[wj hb h,Bool.and_false]
def bkN (n a:Nat)(b:Bk): Bool:=b.stmts.all (λs=>(xp s).all (tU n))&&((xY b.jump).all (tU n)&&(xx b.jump).all λt=>decide (t<(a:Int)))
def TK {n a:Nat}(h:∀s∈b.stmts,y6 s=true)(c:yJ b.jump=true): bkB n a b=bkN n a b:=by
 unfold bkB bkN juB;rw[c,Bool.true_and];congr 1
 rw[Bool.eq_iff_iff,zA,zA];exact⟨λq s hs=>by have:=q s hs;simp only[stB,zB] at this;exact this.2,λq s hs=>by simp only[stB,h s hs,Bool.true_and];exact q s hs⟩
def OX(h:∀b∈f.blocks,(∀s∈b.stmts,y6 s=true)/\yJ b.jump=true): xJ f=(uM f&&f.blocks.all (bkN f.locals.length f.blocks.length)):=by
 unfold xJ;congr 1
 rw[Bool.eq_iff_iff,zA,zA];exact⟨λq b hb=>by rw[<-TK (h b hb).1 (h b hb).2];exact q b hb,λq b hb=>by rw[TK (h b hb).1 (h b hb).2];exact q b hb⟩
def mdR (f:Fn)(i:Nat)(ss:List St)(jm:Ju)(q:Nat): Bool:=uM f&&(f.blocks.take i).all (bkN f.locals.length f.blocks.length)&&(ss.all (λs=>(xp s).all (tU f.locals.length))&&((xY jm).all (tU f.locals.length)&&((xx jm).take q).all λt=>decide (t<(f.blocks.length:Int))))
def RY{i:Nat}{q:Nat}(h:q<(xx jm).length): mdR f i ss jm (q+1)=(mdR f i ss jm q&&decide ((xx jm)[q]<(f.blocks.length:Int))):=by
 unfold mdR;rw[mE _ _ _ h];simp[Bool.and_assoc]
def wfF (f:Fn): Prop:=f.locals.length<1000000/\f.blocks.length<1000000/\∀b∈f.blocks,b.stmts.length<1000000/\b.jump.args.length<1000000
def kf (f:Fn)(H:wfF f): zK 178 [f.a] (.bool (xJ f)):=by
 obtain⟨hl,F,A⟩:=H;refine eK [] func178 λX=>?_;go_simp;repeat'(first|(apply zd (ZM ⟨_,_,_,_⟩ hl);try go_simp)|with_reducible first|apply ai|intro)
 all_goals
  rename_i b1 h e;refine zf hP (B:=[]) (G:=Nat) (λi=>[(1,.ptr (.l 1) b1 4 0 0),(3,.ptr (.l 3) e 1 0 0),(4,.fn 281 [.ptr (.l 3) e 1 0 0,.ptr (.l 1) b1 4 0 0]),(23,vBk_ f.blocks),(24,iI f.blocks.length),(25,iI i)])
   (λi=>[(.l 1,⟨b1,1,4,60,[Fn.c f],false⟩),(.l 3,⟨e,1,1,4,[[.bool (uM f&&(f.blocks.take i).all (bkN f.locals.length f.blocks.length))]],false⟩)])
   (λi=>i<=f.blocks.length/\∀b∈f.blocks.take i,(∀s∈b.stmts,y6 s=true)/\yJ b.jump=true) (λi=>f.blocks.length-i) 0 dk sm ?_ ?_ ?_
  ·go_simp
  ·go_simp;simp[uM,h]
  ·rintro i ⟨hi,E⟩;go_simp;refine⟨λp=>⟨_,zE p,λD=>?_⟩,λv=>?_⟩
   ·have hb:=zM p;obtain⟨hs,z⟩:=A _ hb;generalize hx:f.blocks[i]=x at hb hs z ⊢;obtain⟨ss,jm⟩:=x;simp only at hs z;refine lN [] (λk=>[(1,.ptr (.l 1) b1 4 0 0),(3,.ptr (.l 3) e 1 0 0),(4,.fn 281 [.ptr (.l 3) e 1 0 0,.ptr (.l 1) b1 4 0 0]),(23,vBk_ f.blocks),(24,iI f.blocks.length),(25,iI i),(6,.ptr (.l 6) D 14 0 0),(30,vSt_ ss),(31,iI ss.length),(32,iI k)]) (λk=>[(.l 1,⟨b1,1,4,60,[Fn.c f],false⟩),(.l 3,⟨e,1,1,4,[[.bool (uM f&&(f.blocks.take i).all (bkN f.locals.length f.blocks.length)&&(ss.take k).all λs=>(xp s).all (tU f.locals.length))]],false⟩),(.l 6,⟨D,1,14,110,[Bk.c ⟨ss,jm⟩],false⟩)]) (λk=>k<=ss.length/\∀s∈ss.take k,y6 s=true) (λk=>ss.length-k) 0 ?_
    rintro k ⟨K,y⟩;go_simp;refine⟨λd=>⟨_,zE d,λI=>?_⟩,λr=>?_⟩
    ·repeat'(first|((first|apply zd (gX ⟨_,_,_,_,_⟩)|refine xX [.l 3,.l 1] (rJ (WN f e b1) ss[k] (uM f&&(f.blocks.take i).all (bkN f.locals.length f.blocks.length)&&(ss.take k).all λs=>(xp s).all (tU f.locals.length)) (λ_ _=>trivial)) ?_);try go_simp)|with_reducible first|apply ai|intro)
     ·exact i9 hb (by unfold bkB;rw[wj (zM d) (by simp[stB, *]),Bool.false_and])
     ·exact⟨k+1,⟨om,zr y d (by assumption)⟩,om,wrS om,by rw[cN,mE _ _ _ d,Bool.and_assoc]⟩
    ·repeat'(first|((first|apply zd (ZK ⟨_,_,_,_,_,_,_⟩ z)|refine xX [.l 3,.l 1] (nP (WN f e b1) jm (uM f&&(f.blocks.take i).all (bkN f.locals.length f.blocks.length)&&(ss.take k).all λs=>(xp s).all (tU f.locals.length)) z (λ_ _=>trivial)) ?_);try go_simp)|with_reducible first|apply ai|intro)
     ·rename_i C;exact i9 hb (by unfold bkB juB;rw[C];simp)
     ·rename_i C;refine zf hP (B:=[]) (G:=Nat) (λq=>[(1,.ptr (.l 1) b1 4 0 0),(3,.ptr (.l 3) e 1 0 0),(4,.fn 281 [.ptr (.l 3) e 1 0 0,.ptr (.l 1) b1 4 0 0]),(23,vBk_ f.blocks),(24,iI f.blocks.length),(25,iI i),(55,.vec 1 ((xx jm).map λn=>[iI n])),(56,iI (xx jm).length),(57,iI q)])
       (λq=>[(.l 1,⟨b1,1,4,60,[Fn.c f],false⟩),(.l 3,⟨e,1,1,4,[[.bool (mdR f i ss jm q)]],false⟩)])
       (λq=>q<=(xx jm).length) (λq=>(xx jm).length-q) 0 dk sm ?_ ?_ ?_
      ·go_simp
      ·go_simp;rw[cN,zT r];simp[mdR,Bool.and_assoc]
      ·rintro q L;have J:(xx jm).length<=2:=by unfold xx;split<;>(try split)<;>simp
       go_simp;refine⟨λt=>⟨_,zE t,?_⟩,λw=>?_⟩
       ·repeat'(first|with_reducible first|apply ai|intro)
        all_goals refine⟨q+1,om,om,wrS om,?_⟩
        all_goals rw[RY t]
        all_goals simp_all
       ·refine⟨i+1,⟨om,zr E p ?_⟩,om,wrS om,?_⟩
        ·rw[hx];exact⟨zx y r,C⟩
        ·rw[mE _ _ _ p,hx,mdR,zT w];simp[bkN,Bool.and_assoc]
   ·have u:=zx E v;rw[zT v,OX u]
def rc {p:Pl}(h:xT p=0): v7 p:=by unfold v7;grind [xT]
def dx(h:zq o=0)(a:¬o.kind=1): v7 o.pl:=rc (by grind [zq])
def RZ(h:zq o=0): ∀v∈tF m o,v7 v.1:=by
 intro v a;unfold tF at a;split at a
 ·cases a
 ·simp at a;subst a;exact dx h (by assumption)
def qB{l:List Opd}(h:∀o∈l,zq o=0): ∀v∈yG m l,v7 v.1:=by
 intro v a;unfold yG at a;obtain⟨o,c,a⟩:=List.mem_flatMap.1 a;exact RZ (h o c) v a
def Qa {r:Rv}(h:xG r=true): ∀v∈uK r,v7 v.1:=by
 unfold uK;split
 ·intro v e;simp at e;subst e;exact rc (by grind [xG])
 ·split
  ·exact qB (λo c=>by simp at c;subst c;grind [xG])
  ·have d:zq r.a=0/\zq r.b=0:=by grind [xG]
   exact qB (λo c=>by simp at c;rcases c with rfl|rfl;exact d.1;exact d.2)
def iA(h:y6 s=true): ∀v∈xp s,v7 v.1:=by
 unfold xp;split
 ·intro v a;simp at a;subst a;unfold v7;simp only[];grind [y6]
 ·split
  ·exact qB (λo c=>by simp at c;subst c;grind [y6])
  ·split
   ·intro v a;rcases List.mem_cons.1 a with rfl|a
    ·exact rc (by grind [y6])
    ·exact Qa (by grind [y6]) v a
   ·intro v a;cases a
def ZN(h:yJ j=true): ∀v∈xY j,v7 v.1:=by
 unfold xY;split
 ·exact qB (λo c=>by simp at c;subst c;grind [yJ])
 ·split
  ·intro v a;rcases List.mem_cons.1 a with rfl|a
   ·exact rc (by grind [yJ])
   ·exact qB ((sQ j.args).1 (by grind [yJ])) v a
  ·intro v a;cases a
def WO(h:y6 s=true)(a:two s=true): v7 s.pl:=rc (by grind [two,y6])
def rK(h:xJ f=true)(hb:b∈f.blocks): (∀s∈b.stmts,y6 s=true)/\yJ b.jump=true:=by
 unfold xJ at h;simp only[zB,zA] at h;have:=h.2 b hb
 unfold bkB juB at this;simp only[zB,zA] at this;refine⟨λs hs=>?_,this.2.1⟩;have q:=this.1 s hs;unfold stB at q;simp only[zB] at q;exact q.1
def fg {c a:Type}(g:a->c->a)(s:a){xs:List c}(h:k<xs.length): (xs.take (k+1)).foldl g s=g ((xs.take k).foldl g s) xs[k]:=by
 rw[List.take_add_one,zE h,List.foldl_append];rfl
def qT (l:List Int)(k:Nat): Bool:=decide ((k:Int)∈l)
def isA (l:List Int): List AV:=arr 16 λk=>.bool (qT l k)
structure TS where
 is:List Int
 vp:List Int×List Int
 sets:List Int
def kh (s:St): Bool:=two s&&!s.pl.deref&&decide (s.pl.field=0)&&decide (¬s.r.pl.loc=s.pl.loc)
def qU (t:TS)(s:St): TS:=⟨if two s=true then t.is++[s.pl.loc] else t.is,yH py t.vp (xp s),if kh s=true then t.sets++[s.pl.loc] else t.sets⟩
def mF (t:TS)(b:Bk): TS:=⟨(b.stmts.foldl qU t).is,yH py (b.stmts.foldl qU t).vp (xY b.jump),(b.stmts.foldl qU t).sets⟩
def ts0:TS:=⟨[],([],[]),[]⟩
def iB (f:Fn): TS:=f.blocks.foldl mF ts0
def mG (t:TS)(params:Int)(k:Nat): Bool:=!qT t.is k||(decide (params<(k:Int))&&decide (cw t.vp.1 k=2)&&decide (cw t.vp.2 k=1)&&decide (cw t.sets k=1))
def sc (f:Fn): Bool:=(List.range 16).all (mG (iB f) f.params)
def TM{T:TS}{q:Nat}(a:iB f=T)(c:q<16)(h:mG T f.params q=false): sc f=false:=by
 subst a;exact wj (List.mem_range.2 c) h
def cO (l:List Int)(n i:Nat): qT (l++[(n:Int)]) i=if i=n then true else qT l i:=by
 unfold qT;by_cases h:i=n
 ·simp[h]
 ·rw[if_neg h];congr 1;simp;omega
def Qb: isA (l++[(n:Int)])=arr 16 λi=>if i=n then .bool true else .bool (qT l i):=oT λi hi=>by
 rw[cO];split<;>rfl
def tsH (b1 b2 a d e:Nat)(f:Fn)(t:TS): List (AM.Id×Ob):=[(.l 1,⟨b1,1,4,60,[Fn.c f],false⟩),(.l 2,⟨b2,1,16,283,[isA t.is],false⟩),(.l 4,⟨a,1,16,368,[cwA t.vp.1],false⟩),(.l 5,⟨d,1,16,368,[cwA t.vp.2],false⟩),(.l 6,⟨e,1,16,368,[cwA t.sets],false⟩)]
def tsF (b1 b2 a c d:Nat): List (Nat×AV):=[(1,.ptr (.l 1) b1 4 0 0),(2,.ptr (.l 2) b2 16 0 0),(3,.bool false),(4,.ptr (.l 4) a 16 0 0),(5,.ptr (.l 5) c 16 0 0),(6,.ptr (.l 6) d 16 0 0),(7,.fn 286 [.ptr (.l 4) a 16 0 0,.ptr (.l 5) c 16 0 0])]
theorem Uw{h:Nat->Bool}: yo (.agg (arr n λk=>.bool (h k)))=some (arr n λk=>.bool (h k)):=by
 show(if(arr n _).all xW=true then some _ else none)=_;rw[if_pos (il λ_=>rfl)]
theorem Ux{h:Nat->Int}: yo (.agg (arr n λk=>iI (h k)))=some (arr n λk=>iI (h k)):=by
 show(if(arr n _).all xW=true then some _ else none)=_;rw[if_pos (il λ_=>rfl)]
theorem TN{g:Nat->AV}: (arr n g).drop n = []:=List.drop_eq_nil_of_le (by simp[arr])
attribute [go_sem high] Uw Ux
attribute [go_sem] TN
attribute [go_sem] isA cwA
def ZO (f:Fn)(hw:wfF f)(hm:xJ f=true): zK 179 [f.a] (.tup [.agg (isA (iB f).is),.bool (sc f)]):=by
 obtain⟨hl,W,L⟩:=hw;refine eK [] func179 λX=>?_;go_simp;repeat'(first|with_reducible first|apply ai|intro)
 rename_i b1 b2 v w E;refine zf hP (B:=[]) (G:=Nat) (λi=>tsF b1 b2 v w E++[(16,vBk_ f.blocks),(17,iI f.blocks.length),(18,iI i)])
  (λi=>tsH b1 b2 v w E f ((f.blocks.take i).foldl mF ts0)) (λi=>i<=f.blocks.length) (λi=>f.blocks.length-i) 0 dk sm ?_ ?_ ?_
 ·simp only[tsF,List.cons_append,List.nil_append];go_simp
 ·simp only[tsH];go_simp;exact⟨rfl,rfl,rfl,rfl⟩
 ·rintro i hi;simp only[tsF,tsH,List.cons_append,List.nil_append];go_simp;refine⟨λC=>⟨_,zE C,λQ=>?_⟩,λM=>?_⟩
  ·have hb:=zM C;obtain⟨hs,K⟩:=L _ hb;obtain⟨D,A⟩:=rK hm hb;have p:=fg mF ts0 C;generalize hx:f.blocks[i]=x at hb hs K D A p ⊢;generalize (f.blocks.take i).foldl mF ts0=T at p ⊢;obtain⟨ss,jm⟩:=x;simp only at hs K D A;refine zf hP (B:=[]) (G:=Nat) (λk=>tsF b1 b2 v w E++[(16,vBk_ f.blocks),(17,iI f.blocks.length),(18,iI i),(9,.ptr (.l 9) Q 14 0 0),(23,vSt_ ss),(24,iI ss.length),(25,iI k)])
    (λk=>tsH b1 b2 v w E f ((ss.take k).foldl qU T)++[(.l 9,⟨Q,1,14,110,[Bk.c ⟨ss,jm⟩],false⟩)]) (λk=>k<=ss.length) (λk=>ss.length-k) 0 dk sm ?_ ?_ ?_
   ·simp only[tsF,List.cons_append,List.nil_append];go_simp
   ·simp only[tsH,List.cons_append,List.nil_append];go_simp
   ·rintro k hk;simp only[tsF,tsH,List.cons_append,List.nil_append];go_simp;refine⟨λu=>⟨_,zE u,λR=>?_⟩,λH=>?_⟩
    ·have d:=D _ (zM u);have y:=fg qU T u;generalize (ss.take k).foldl qU T=U at y ⊢;generalize ss[k]=s at d y ⊢;obtain⟨kd,⟨P,df,J⟩,r,a,lo⟩:=s;by_cases F:two ⟨kd,⟨P,df,J⟩,r,a,lo⟩=true
     ·obtain⟨n,rfl,Y⟩:∃n:Nat,P=n/\n<16:=⟨P.toNat,by have:=WO d F;unfold v7 at this;simp only at this;omega,by have:=WO d F;unfold v7 at this;simp only at this;omega⟩
      have Z:(n:Int)<16:=om;repeat'(first|((first|refine xX [.l 4,.l 5] (rJ (dw v w) ⟨kd,⟨_,df,J⟩,r,a,lo⟩ U.vp (iA d)) ?_|apply zd (jM ⟨_,⟨_,_,_⟩,_,_,_⟩));try go_simp)|with_reducible first|apply ai|intro)
      all_goals first
       |omega
       |(
         refine⟨k+1,om,om,wrS om,?_⟩;rw[y];refine⟨?_,?_,?_,?_⟩;all_goals first
          |rfl
          |(
            refine oT λi hi=>?_;have e:=pH U.sets n i;have e2:=cO U.is n i;simp only[qU,F,kh];grind))
     ·simp only[Bool.not_eq_true] at F;repeat'(first|((first|refine xX [.l 4,.l 5] (rJ (dw v w) ⟨kd,⟨_,df,J⟩,r,a,lo⟩ U.vp (iA d)) ?_|apply zd (jM ⟨_,⟨_,_,_⟩,_,_,_⟩));try go_simp)|with_reducible first|apply ai|intro)
      refine⟨k+1,om,om,wrS om,?_⟩;rw[y];simp[qU,F,kh]
    ·rw[zT H];repeat'(first|(refine xX [.l 4,.l 5] (nP (dw v w) jm (ss.foldl qU T).vp K (ZN A)) ?_;try go_simp)|with_reducible first|apply ai|intro)
     exact⟨i+1,om,om,wrS om,by rw[p];simp only[mF,isA,cwA,and_self]⟩
  ·rw[zT M];generalize V:f.blocks.foldl mF ts0=T;have z:iB f=T:=V;rw[z];refine zf hP (B:=[]) (G:=Nat) (λq=>tsF b1 b2 v w E++[(75,.agg (isA T.is)),(76,iI q)])
    (λq=>tsH b1 b2 v w E f T) (λq=>q<=16/\∀t<q,mG T f.params t=true) (λq=>16-q) 0 dk ⟨om,λt h=>by omega⟩ ?_ ?_ ?_
   ·simp only[tsF,List.cons_append,List.nil_append];go_simp
   ·simp only[tsH];go_simp
   ·rintro q ⟨hq,d⟩;simp only[tsF,tsH,List.cons_append,List.nil_append];go_simp;refine⟨λO=>?_,λO=>?_⟩
    ·have N:q<16:=om;go_simp;repeat'(first|with_reducible first|apply ai|intro)
     all_goals first
      |rfl
      |omega
      |exact u5 rfl
      |(
        refine⟨q+1,⟨om,λt I=>?_⟩,om,wrS om⟩;rcases Nat.lt_succ_iff_lt_or_eq.1 I with h|rfl
        ·exact d t h
        ·simp only[mG];grind)
      |(
        refine TM z N ?_;simp only[mG];grind)
    ·have I:sc f=true:=zA.2 λt h=>by rw[z];exact d t (by have:=List.mem_range.1 h;omega)
     repeat'(first|with_reducible first|apply ai|intro)
     all_goals first
      |exact u5 rfl
      |exact I
      |exact I.symm
def xt (f:Fn): Int:=if vT f=false then 4 else if xJ f=false then 8 else if sc f=false then 12 else 0
def uW (f:Fn)(c:wfF f): zK 102 [f.a] (iI (xt f)):=by
 refine eK [] func102 λX=>?_;go_simp;cases hm:xJ f with
 |false =>
  repeat'(first|((first|apply zd (lx ⟨_,_,_,_⟩ c.2.1)|apply zd (kf ⟨_,_,_,_⟩ c));try go_simp)|with_reducible first|apply ai|intro)
  all_goals grind [xt]
 |true =>
  repeat'(first|((first|apply zd (lx ⟨_,_,_,_⟩ c.2.1)|apply zd (kf ⟨_,_,_,_⟩ c)|apply zd (ZO ⟨_,_,_,_⟩ c hm));try go_simp)|with_reducible first|apply ai|intro)
  all_goals grind [xt]
def xQ (o:Opd): List Int:=if o.kind=2\/o.kind=3 then [o.pl.loc] else []
def u6 (s:St): List Int:=(if s.kind=3 then [s.loc] else [])++(if s.kind=1 then s.pl.loc::((zs s.r).flatMap xQ++(if s.r.kind=4\/s.r.kind=5 then [s.r.pl.loc] else [])) else [])++xQ s.a
def nu (j:Ju): List Int:=(xo j).flatMap xQ++(if j.kind=4 then [j.dest.loc] else [])
def mH (l:List Int)(c:Nat): Bool:=(List.range 16).any λt=>decide (c<=t)&&decide (0<cw l t)
def ZP{c i:Nat}(e:i<16)(a:c<=i)(d:0<cw l i): mH l c=true:=by
 unfold mH;exact List.any_eq_true.2 ⟨i,List.mem_range.2 e,by rw[zB];exact⟨decide_eq_true a,decide_eq_true d⟩⟩
def cP (l:List Int)(c:Nat)(v:c<1000000): zK 438 [.agg (cwA l),iI c] (.bool (mH l c)):=by
 unfold cwA;refine eK [] func438 λX=>?_;go_simp;repeat'(first|with_reducible first|apply ai|intro)
 rename_i b;refine lN [] (λi=>[(2,.ptr (.l 2) b 16 0 0),(5,iI i)]) (λi=>[(.l 2,⟨b,1,16,368,[cwA l],false⟩)]) (λi=>i<1000000/\c<=i/\∀t,c<=t->t<i->t<16->¬0<cw l t) (λi=>16-i) c ?_ (h0:=⟨v,om,λt e p=>by omega⟩)
 rintro i ⟨hi,d,a⟩;go_simp;refine⟨λy=>?_,λx=>?_⟩
 ·have z:i<16:=om;go_simp;repeat'(first|with_reducible first|apply ai|intro)
  all_goals first
   |omega
   |(
     refine⟨i+1,⟨om,om,λt e p u=>?_⟩,om,wrS om⟩;rcases Nat.lt_succ_iff_lt_or_eq.1 p with h|rfl
     ·have:=a t e h u
      omega
     ·omega)
   |(refine ZP z d ?_;omega)
 ·cases w:mH l c with
  |false=>rfl
  |true =>
   obtain⟨t,r,q⟩:=List.any_eq_true.1 w;simp only[zB,zL] at q;exact absurd q.2 (a t q.1 (by have:=List.mem_range.1 r;omega) (List.mem_range.1 r))
def iC(h:yJ j=true): ∀o∈xo j,zq o=0:=by
 intro o a;unfold xo at a;split at a
 ·simp at a;subst a;grind [yJ]
 ·by_cases c:j.kind=4
  ·exact(sQ j.args).1 (by grind [yJ]) o a
  ·have:j.args.length=0:=by grind [yJ,sb]
   rw[List.length_eq_zero_iff.1 this] at a;cases a
def wV {a c:Type}(g:a->List c){l:List a}(h:k<l.length): (l.take (k+1)).flatMap g=(l.take k).flatMap g++g l[k]:=by
 rw[List.take_add_one,zE h,List.flatMap_append];simp
def OY (L:List Int)(n:Nat){g:Nat->AV}(a:g=λi=>if i=n then iI (IntKind.i64.wrap (cw L n+1)) else iI (cw L i)): arr 16 g=arr 16 λk=>iI (cw (L++[(n:Int)]) k):=by
 subst a;refine oT λi hi=>?_;rw[pH];split<;>rfl
theorem OZ {L:List Int}: (arr 16 λi=>if i=n then iI (IntKind.i64.wrap (cw L n+1)) else iI (cw L i))=arr 16 λk=>iI (cw (L++[(n:Int)]) k):=OY L n rfl
theorem Na {L:List Int}: (arr 16 λi=>if i=n then AV.bool true else .bool (qT L i))=arr 16 λk=>AV.bool (qT (L++[(n:Int)]) k):=Qb.symm
theorem z16:[iI 0,iI 0,iI 0,iI 0,iI 0,iI 0,iI 0,iI 0,iI 0,iI 0,iI 0,iI 0,iI 0,iI 0,iI 0,iI 0]=arr 16 λk=>iI (cw [] k):=rfl
theorem f16:[AV.bool false,.bool false,.bool false,.bool false,.bool false,.bool false,.bool false,.bool false,.bool false,.bool false,.bool false,.bool false,.bool false,.bool false,.bool false,.bool false]=arr 16 λk=>AV.bool (qT [] k):=rfl
attribute [go_sem] OZ Na z16 f16
def oi (j:Ju)(h:yJ j=true)(hl:j.args.length<1000000): zK 408 [j.a'] (.agg (cwA (nu j))):=by
 have hpl:(xo j).length<1000000:=by
  unfold xo;split
  ·exact(show 1<1000000 by decide)
  ·exact hl
 refine eK [] func408 λX=>?_;go_simp;repeat'(first|(apply zd (XP ⟨_,_,_,_,_,_,_⟩);try go_simp)|with_reducible first|apply ai|intro)
 rename_i b1 b2 u;have t:=iC h;refine lN [] (λi=>[(1,.ptr (.l 1) b1 13 0 0),(2,.ptr (.l 2) b2 16 0 0),(3,.ptr (.l 3) u 16 0 0),(4,vOpd_ (xo j)),(5,iI i)]) (λi=>[(.l 1,⟨b1,1,13,108,[Ju.c j],false⟩),(.l 2,⟨b2,1,16,368,[cwA []],false⟩),(.l 3,⟨u,1,16,368,[cwA (((xo j).take i).flatMap xQ)],false⟩)]) (λi=>i<=(xo j).length) (λi=>(xo j).length-i) 0 ?_
 rintro i hi;go_simp;refine⟨λd=>⟨_,zE d,?_⟩,λe=>?_⟩
 ·have w:=t _ (zM d);have hs:=wV xQ d;generalize ((xo j).take i).flatMap xQ=L at hs ⊢;by_cases hp:(xo j)[i].kind=2\/(xo j)[i].kind=3
  ·obtain⟨n,hn,q⟩:∃n:Nat,(xo j)[i].pl.loc=n/\n<16:=⟨(xo j)[i].pl.loc.toNat,by have:=dx w om;unfold v7 at this;omega,by have:=dx w om;unfold v7 at this;omega⟩
   have r:(n:Int)<16:=om;have a:xQ (xo j)[i] = [(n:Int)]:=by unfold xQ;rw[if_pos hp,hn]
   repeat'(first|(apply zd (wx ⟨_,_,⟨_,_,_⟩⟩);try go_simp)|with_reducible first|apply ai|intro)
   all_goals first
    |omega
    |(
      refine⟨i+1,om,om,wrS om,?_⟩;rw[hs,a])
    |(exfalso;simp_all;done)
  ·have a:xQ (xo j)[i] = []:=by unfold xQ;rw[if_neg hp]
   repeat'(first|(apply zd (wx ⟨_,_,⟨_,_,_⟩⟩);try go_simp)|with_reducible first|apply ai|intro)
   all_goals first
    |exact absurd (by assumption) hp
    |exact⟨i+1,om,om,wrS om,by rw[hs,a,List.append_nil]⟩
 ·rw[zT e];by_cases v:j.kind=4
  ·obtain⟨n,hn,q⟩:∃n:Nat,j.dest.loc=n/\n<16:=⟨j.dest.loc.toNat,by have:=rc (p:=j.dest) (by grind [yJ]);unfold v7 at this;omega,by have:=rc (p:=j.dest) (by grind [yJ]);unfold v7 at this;omega⟩
   have r:(n:Int)<16:=om;have a:nu j=(xo j).flatMap xQ++[(n:Int)]:=by unfold nu;rw[if_pos v,hn]
   rw[a];go_simp;repeat'(first|with_reducible first|apply ai|intro)
   all_goals first
    |omega
    |rfl
    |exact u5 rfl
  ·have a:nu j=(xo j).flatMap xQ:=by unfold nu;rw[if_neg v,List.append_nil]
   rw[a];go_simp;repeat'(first|with_reducible first|apply ai|intro)
   all_goals first
    |omega
    |rfl
    |exact u5 rfl
def pI {p:Pl}(h:xT p=0): ∃n:Nat,p.loc=n/\n<16:=⟨p.loc.toNat,by have:=rc h;unfold v7 at this;omega,by have:=rc h;unfold v7 at this;omega⟩
def ki (s:St)(h:y6 s=true): zK 405 [s.a'] (.agg (cwA (u6 s))):=by
 have t:s.kind=3\/s.kind=1\/¬s.kind=3/\¬s.kind=1:=om;rcases t with t|t|⟨F,E⟩
 ·obtain⟨n,hn,u⟩:∃n:Nat,s.loc=n/\n<16:=⟨s.loc.toNat,by grind [y6],by grind [y6]⟩
  have v:(n:Int)<16:=om;have x:s.a.kind=0:=by grind [y6,wG]
  have e:u6 s = [(n:Int)]:=by simp[u6,t,xQ,x,hn]
  rw[e];refine eK [] func405 λX=>?_;go_simp;repeat'(first|(apply zd (wx ⟨_,_,⟨_,_,_⟩⟩);try go_simp)|with_reducible first|apply ai|intro)
  all_goals first
   |omega
   |rfl
   |exact u5 rfl
   |(exfalso;simp_all;done)
   |trace_state
 ·have hp:xT s.pl=0:=by grind [y6]
  have J:xG s.r=true:=by grind [y6]
  have x:s.a.kind=0:=by grind [y6,wG]
  obtain⟨n,hn,u⟩:=pI hp;have v:(n:Int)<16:=om;have B:∀o∈zs s.r,zq o=0:=by intro o D;have:=Zp D;have:=sO o;grind
  have H:(zs s.r).length<=2:=by have I:=qf s.r;grind
  have e:u6 s = [(n:Int)]++((zs s.r).flatMap xQ++if s.r.kind=4\/s.r.kind=5 then [s.r.pl.loc] else []):=by simp[u6,t,xQ,x,hn]
  rw[e];refine eK [] func405 λX=>?_;go_simp;repeat'(first|(apply zd (nm ⟨_,_,_,_,_,_⟩);try go_simp)|with_reducible first|apply ai|intro)
  all_goals try omega
  all_goals try(exfalso;simp_all;done)
  rename_i b1 b2 C;refine lN [] (λi=>[(1,.ptr (.l 1) b1 26 0 0),(2,.ptr (.l 2) b2 16 0 0),(3,.ptr (.l 3) C 16 0 0),(4,vOpd_ (zs s.r)),(5,iI i)]) (λi=>[(.l 1,⟨b1,1,26,89,[St.c s],false⟩),(.l 2,⟨b2,1,16,368,[cwA []],false⟩),(.l 3,⟨C,1,16,368,[cwA ([(n:Int)]++((zs s.r).take i).flatMap xQ)],false⟩)]) (λi=>i<=(zs s.r).length) (λi=>(zs s.r).length-i) 0 ?_
  rintro i hi;go_simp;refine⟨λq=>⟨_,zE q,?_⟩,λy=>?_⟩
  ·have D:=B _ (zM q);have hs:=wV xQ q;generalize ((zs s.r).take i).flatMap xQ=L at hs ⊢;by_cases hp:(zs s.r)[i].kind=2\/(zs s.r)[i].kind=3
   ·obtain⟨m,hm,z⟩:=pI (p:=(zs s.r)[i].pl) (by grind [zq])
    have A:(m:Int)<16:=om;have d:xQ (zs s.r)[i] = [(m:Int)]:=by unfold xQ;rw[if_pos hp,hm]
    repeat'(first|(apply zd (wx ⟨_,_,⟨_,_,_⟩⟩);try go_simp)|with_reducible first|apply ai|intro)
    all_goals first
     |omega
     |(
       refine⟨i+1,om,om,wrS om,?_⟩;rw[hs,d];try rfl)
     |(exfalso;simp_all;done)
   ·have d:xQ (zs s.r)[i] = []:=by unfold xQ;rw[if_neg hp]
    repeat'(first|(apply zd (wx ⟨_,_,⟨_,_,_⟩⟩);try go_simp)|with_reducible first|apply ai|intro)
    all_goals first
     |exact absurd (by assumption) hp
     |exact⟨i+1,om,om,wrS om,by rw[hs,d,List.append_nil]⟩
  ·rw[zT y];by_cases w:s.r.kind=4\/s.r.kind=5
   ·obtain⟨m,hm,z⟩:=pI (p:=s.r.pl) (by grind [xG])
    have A:(m:Int)<16:=om;rw[if_pos w,hm];go_simp;repeat'(first|(apply zd (wx ⟨_,_,⟨_,_,_⟩⟩);try go_simp)|with_reducible first|apply ai|intro)
    all_goals first
     |omega
     |rfl
     |exact u5 rfl
     |(exfalso;simp_all;done)
     |trace_state
   ·rw[if_neg w];repeat'(first|(apply zd (wx ⟨_,_,⟨_,_,_⟩⟩);try go_simp)|with_reducible first|apply ai|intro)
    all_goals first
     |omega
     |rfl
     |exact u5 rfl
     |(exfalso;simp_all;done)
     |trace_state
 ·have e:u6 s=xQ s.a:=by simp[u6,F,E]
  rw[e];have x:zq s.a=0:=by grind [y6]
  by_cases hp:s.a.kind=2\/s.a.kind=3
  ·obtain⟨n,hn,u⟩:=pI (p:=s.a.pl) (by grind [zq])
   have v:(n:Int)<16:=om;have d:xQ s.a = [(n:Int)]:=by unfold xQ;rw[if_pos hp,hn]
   rw[d];refine eK [] func405 λX=>?_;go_simp;repeat'(first|(apply zd (wx ⟨_,_,⟨(n:Int),_,_⟩⟩);try go_simp)|with_reducible first|apply ai|intro)
   all_goals first
    |omega
    |rfl
    |exact u5 rfl
    |(exfalso;simp_all;done)
    |trace_state
  ·have d:xQ s.a = []:=by unfold xQ;rw[if_neg hp]
   rw[d];refine eK [] func405 λX=>?_;go_simp;repeat'(first|(apply zd (wx ⟨_,_,⟨_,_,_⟩⟩);try go_simp)|with_reducible first|apply ai|intro)
   all_goals first
    |omega
    |rfl
    |exact u5 rfl
    |(exfalso;simp_all;done)
    |trace_state
def ZQ{t:Nat}(h:l.length<=1000000): cw l t=(l.count (t:Int):Int):=by
 unfold cw;exact AM.Tf (by have:=List.count_le_length (a:=(t:Int)) (l:=l);omega)
def WP{c:Nat}(hl:∀x∈l,0<=x/\x<16)(a:l.length<=1000000): mH l c = !(l.all λx=>decide (x<(c:Int))):=by
 rw[Bool.eq_iff_iff];constructor
 ·intro h;unfold mH at h;rw[List.any_eq_true] at h;obtain⟨t,d,h⟩:=h;simp only[zB,zL] at h;rw[ZQ a] at h;have hm:(t:Int)∈l:=List.count_pos_iff.1 om;simp only[Bool.not_eq_true',List.all_eq_false,zL];exact⟨_,hm,om⟩
 ·intro h;simp only[Bool.not_eq_true',List.all_eq_false,zL] at h;obtain⟨x,hx,h⟩:=h;obtain⟨t,rfl⟩:=Int.eq_ofNat_of_zero_le (hl x hx).1;refine ZP (i:=t) (by have:=(hl _ hx).2;omega) om ?_;rw[ZQ a];have:=List.count_pos_iff.2 hx;omega
def Nb(h:zq o=0): xQ o=(tF m o).map λv=>v.1.loc:=by
 unfold xQ tF;by_cases a:o.kind=1
 ·rw[if_neg om,if_pos a];rfl
 ·rw[if_pos (by grind [zq]),if_neg a];rfl
def oj {l:List Opd}(h:∀o∈l,zq o=0): l.flatMap xQ=(yG m l).map λv=>v.1.loc:=by
 induction l with
 |nil=>rfl
 |cons o l ih =>
  unfold yG;rw[List.flatMap_cons,List.flatMap_cons,zV,<-Nb (h o sm)];congr 1
  exact ih λq a=>h q (by simp[a])
def TO(h:yJ j=true)(a:¬j.kind=4): j.args = []:=List.length_eq_zero_iff.1 (by grind [yJ,sb])
def cQ(h:yJ j=true): (nu j).Perm ((xY j).map λv=>v.1.loc):=by
 have hp:=iC h;unfold xo at hp;unfold nu xY xo;by_cases c:j.kind=2
 ·rw[if_pos c] at hp ⊢;rw[if_pos c,if_neg om,oj (m:=false) hp];simp
 ·rw[if_neg c] at hp ⊢;rw[if_neg c];by_cases a:j.kind=4
  ·rw[if_pos a,if_pos a,oj (m:=true) hp,List.map_cons];exact List.perm_append_singleton _ _
  ·rw[if_neg a,if_neg a,TO h a];simp
def WQ {r:Rv}(h:xG r=true): ∀o∈zs r,zq o=0:=by intro o a;have:=Zp a;have:=sO o;grind
def cR(h:y6 s=true): (u6 s).Perm ((xp s).map λv=>v.1.loc):=by
 unfold u6 xp;by_cases i:s.kind=3
 ·have q:s.a.kind=0:=by grind [y6,wG]
  simp[i,xQ,q]
 ·by_cases t:s.kind=1
  ·have q:s.a.kind=0:=by grind [y6,wG]
   have y:xG s.r=true:=by grind [y6]
   have e:(zs s.r).flatMap xQ++(if s.r.kind=4\/s.r.kind=5 then [s.r.pl.loc] else [])=(uK s.r).map λv=>v.1.loc:=by
    have hp:=WQ y;unfold uK;by_cases c:s.r.kind=4\/s.r.kind=5
    ·have:zs s.r = []:=by unfold zs;rw[if_neg om,if_neg om]
     simp[c,this]
    ·rw[if_neg c,if_neg c,List.append_nil];by_cases d:s.r.kind=1
     ·rw[if_pos d,oj (m:=true) hp];unfold zs;rw[if_pos d]
     ·have p:s.r.kind=2\/s.r.kind=3:=by grind [xG]
      rw[if_neg d,oj (m:=false) hp];unfold zs;rw[if_neg d,if_pos p]
   rw[e];simp[t,xQ,q]
  ·have w:s.kind=2\/s.kind=4:=by grind [y6]
   have x:zq s.a=0:=by grind [y6]
   rw[if_neg i,if_neg t,if_neg i,if_pos w];have:=oj (l:=[s.a]) (m:=false) (by intro o u;simp at u;subst u;exact x)
   simp at this;simp[this]
def WR (a:List Vis)(n:Nat): ((a.map λv=>v.1.loc).all λx=>decide (x<(n:Int)))=a.all (tU n):=by
 rw[List.all_map];rfl
def ZR {l l':List Int}{p:Int->Bool}(h:l.Perm l'): l.all p=l'.all p:=by
 rw[Bool.eq_iff_iff,zA,zA];exact⟨λq x hx=>q x (h.mem_iff.2 hx),λq x hx=>q x (h.mem_iff.1 hx)⟩
def qC {m:Bool}{l:List Opd}: (yG m l).length<=l.length:=by
 induction l with
 |nil=>simp[yG]
 |cons o l ih =>
  unfold yG at *;rw[List.flatMap_cons,List.length_append];have:(tF m o).length<=1:=by unfold tF;split<;>simp
  rw[List.length_cons];omega
def Qc (s:St): (xp s).length<=3:=by
 unfold xp uK;have c:=@qC false [s.a];have d:=@qC true [s.r.a];have e:=@qC false [s.r.a,s.r.b];simp at c d e;split
 ·simp
 ·split
  ·omega
  ·split
   ·rw[List.length_cons];split
    ·simp
    ·split<;>omega
   ·simp
def Qd(h:yJ j=true): (xY j).length<=9:=by
 have c:=@qC false [j.a];have d:=@qC true j.args;unfold xY;split
 ·simp at c;omega
 ·split
  ·have:j.args.length<=8:=by grind [yJ]
   simp;omega
  ·simp
def MU(n:Nat)(h:y6 s=true): mH (u6 s) n = !((xp s).all (tU n)):=by
 have hp:=cR h;rw[WP (λx hx=>by
  obtain⟨v,a,rfl⟩:=List.mem_map.1 (hp.mem_iff.1 hx);exact iA h v a) (by rw[hp.length_eq,zU];have:=Qc s;omega),ZR hp,WR]
def TP(n:Nat)(h:yJ j=true): mH (nu j) n = !((xY j).all (tU n)):=by
 have hp:=cQ h;rw[WP (λx hx=>by
  obtain⟨v,a,rfl⟩:=List.mem_map.1 (hp.mem_iff.1 hx);exact ZN h v a) (by rw[hp.length_eq,zU];have:=Qd h;omega),ZR hp,WR]
def WS(h:y6 s=true): stB n s = !mH (u6 s) n:=by rw[MU n h];unfold stB;rw[h];simp
def rg (f:Fn)(hl:f.blocks.length<1000000): zK 345 [f.a] (.bool (!vT f)):=by
 refine eK [] func345 λX=>?_;go_simp;repeat'(first|with_reducible first|apply ai|intro)
 all_goals try grind [vT]
 rename_i b p q;refine lN [] (λi=>[(1,.ptr (.l 1) b 4 0 0),(3,iI i)]) (λi=>[(.l 1,⟨b,1,4,60,[Fn.c f],false⟩)]) (λi=>i<=f.blocks.length/\∀b∈f.blocks.take i,b.stmts.length<=24) (λi=>f.blocks.length-i) 0 ?_
 rintro i ⟨hi,h⟩;go_simp;refine⟨λd=>⟨_,zE d,?_⟩,λe=>?_⟩
 ·repeat'(first|with_reducible first|apply ai|intro)
  ·exact ZL (zM d) om
  ·exact⟨i+1,⟨om,zr h d om⟩,om,wrS om⟩
 ·have:=zx h e
  simp only[vT,zB,zA,pG,zL];exact⟨⟨om,om⟩,this⟩
def Pj {n a:Nat}(h:ss.all (stB n)=false): bkB n a ⟨ss,jm⟩=false:=by
 show(ss.all (stB n)&&_)=false;rw[h];rfl
def Uy {n a:Nat}(h:juB n a jm=false): bkB n a ⟨ss,jm⟩=false:=by
 show(_&&juB n a jm)=false;rw[h,Bool.and_false]
def XR (f:Fn)(b:Bk)(H:wfF f)(hs:b.stmts.length<1000000)(A:b.jump.args.length<1000000): zK 403 [f.a,b.a] (.bool (bkB f.locals.length f.blocks.length b)):=by
 obtain⟨hl,E,F⟩:=H;obtain⟨ss,jm⟩:=b;simp only at hs A;refine eK [] func403 λX=>?_;go_simp;repeat'(first|with_reducible first|apply ai|intro)
 rename_i b2 z;refine lN [] (λi=>[(2,.ptr (.l 2) b2 4 0 0),(3,.ptr (.l 3) z 14 0 0),(5,iI i)]) (λi=>[(.l 2,⟨b2,1,4,60,[Fn.c f],false⟩),(.l 3,⟨z,1,14,110,[Bk.c ⟨ss,jm⟩],false⟩)]) (λi=>i<=ss.length/\∀s∈ss.take i,stB f.locals.length s=true) (λi=>ss.length-i) 0 ?_
 rintro i ⟨hi,C⟩;go_simp;refine⟨λr=>⟨_,zE r,?_⟩,λB=>?_⟩
 ·cases u:y6 ss[i] with
  |false =>
   repeat'(first|(apply zd (jK ⟨_,_,_,_,_⟩);try go_simp)|with_reducible first|apply ai|intro)
   exact Pj (wj (zM r) (by unfold stB;rw[u];rfl))
  |true =>
   repeat'(first|((first|apply zd (jK ⟨_,_,_,_,_⟩)|apply zd (ki ss[i] u)|apply zd (cP _ _ hl));try go_simp)|with_reducible first|apply ai|intro)
   ·rename_i e;exact Pj (wj (zM r) (by rw[WS u,e];rfl))
   ·rename_i e;exact⟨i+1,⟨om,zr C r (by rw[WS u,e];rfl)⟩,om,wrS om⟩
 ·have w:=zA.2 (zx C B);cases v:yJ jm with
  |false =>
   repeat'(first|(apply zd (jL ⟨_,_,_,_,_,_,_⟩ A);try go_simp)|with_reducible first|apply ai|intro)
   exact Uy (by unfold juB;rw[v];rfl)
  |true =>
   repeat'(first|((first|apply zd (jL ⟨_,_,_,_,_,_,_⟩ A)|apply zd (oi jm v A)|apply zd (cP _ _ hl)|apply zd (XO ⟨_,_,_,_,_,_,_⟩));try go_simp)|with_reducible first|apply ai|intro)
   ·rename_i e;rw[TP _ v] at e;have p:(xY jm).all (tU f.locals.length)=false:=by simpa using e
    exact Uy (by unfold juB;rw[v,p];rfl)
   ·rename_i e;rw[TP _ v] at e;have p:(xY jm).all (tU f.locals.length)=true:=by simpa using e
    have I:(xx jm).length<=2:=by unfold xx;split<;>(try split)<;>simp
    refine lN [] (λq=>[(2,.ptr (.l 2) b2 4 0 0),(3,.ptr (.l 3) z 14 0 0),(6,.vec 1 ((xx jm).map λn=>[iI n])),(7,iI q)]) (λq=>[(.l 2,⟨b2,1,4,60,[Fn.c f],false⟩),(.l 3,⟨z,1,14,110,[Bk.c ⟨ss,jm⟩],false⟩)]) (λq=>q<=(xx jm).length/\∀t∈(xx jm).take q,t<(f.blocks.length:Int)) (λq=>(xx jm).length-q) 0 ?_
    rintro q ⟨J,y⟩;go_simp;refine⟨λd=>⟨_,zE d,?_⟩,λx=>?_⟩
    ·repeat'(first|with_reducible first|apply ai|intro)
     ·refine Uy ?_;unfold juB;rw[v,p,wj (zM d) (decide_eq_false om)];rfl
     ·exact⟨q+1,⟨om,zr y d om⟩,om,wrS om⟩
    ·have D:((xx jm).all λt=>decide (t<(f.blocks.length:Int)))=true:=zA.2 λt h=>decide_eq_true (zx y x t h);show(ss.all _&&juB _ _ jm)=true;unfold juB;rw[w,v,p,D];rfl
def Nc (i:Nat)(h:i<8)(t:Ty): tyW i=t↔tK t=i:=by
 obtain⟨k,o⟩:=t;match i,h with
 |0,_|1,_|2,_|3,_|4,_|5,_|6,_|7,_ =>
  simp only[tyW,Ty.mk.injEq,tK,yE];constructor
  ·rintro⟨rfl,rfl⟩;decide
  ·intro h;revert h;(repeat' split)<;>simp_all<;>omega
 |n+8,h=>omega
def ZS (t:Ty): zK 436 [t.a] (iI (tK t)):=by
 refine eK [] func436 λX=>?_;go_simp;repeat'(first|with_reducible first|apply ai|intro)
 rename_i b;refine lN [] (λi=>[(1,.ptr (.l 1) b 2 0 0),(3,iI i)]) (λi=>[(.l 1,⟨b,1,2,141,[Ty.c t],false⟩)]) (λi=>i<=8/\∀k<i,¬tK t=k) (λi=>8-i) 0 ?_ (h0:=⟨om,λk h=>by omega⟩)
 rintro i ⟨hi,q⟩;go_simp;refine⟨λv=>?_,λr=>?_⟩
 ·have d:i<8:=om;have hn:=Nc i d t;repeat'(first|(apply zd (Ue i d);try go_simp)|with_reducible first|apply ai|intro)
  all_goals first
   |(symm;refine hn.1 ?_;obtain⟨k,o⟩:=t;generalize tyW i=u at *;obtain⟨k',w⟩:=u;simp_all;done)
   |(
     refine⟨i+1,⟨om,λk h=>?_⟩,om,wrS om⟩;rcases Nat.lt_succ_iff_lt_or_eq.1 h with h|rfl
     ·exact q k h
     ·intro e;have:=hn.2 e;subst this;simp_all)
 ·have:i=8:=om
  subst this;have p:tK t = -1\/0<=tK t/\tK t<8:=by unfold tK;split<;>(try split)<;>grind [yE]
  rcases p with p|p
  ·exact p.symm
  ·exact absurd om (q (tK t).toNat om)
def jN (t:Ty): zK 402 [t.a] (iI (ww t)):=by
 refine eK [] func402 λX=>?_;go_simp;repeat'(first|(apply zd (ZS ⟨_,_⟩);try go_simp)|with_reducible first|apply ai|intro)
 all_goals grind [ww,tK,yE]
def dy(h:vN f=false): xJ f=false:=by unfold xJ uM;rw[h];rfl
def fh (f:Fn)(h:wfF f): zK 346 [f.a] (.bool (vT f&&xJ f)):=by
 refine eK [] func346 λX=>?_;go_simp;cases D:vT f with
 |false =>
  repeat'(first|(apply zd (rg ⟨_,_,_,_⟩ h.2.1);try go_simp)|with_reducible first|apply ai|intro)
 |true =>
  repeat'(first|(apply zd (rg ⟨_,_,_,_⟩ h.2.1);try go_simp)|with_reducible first|apply ai|intro)
  all_goals try(refine dy ?_;grind [vN])
  all_goals try(unfold xJ uM;grind)
  rename_i b z A E F H;have hl:=h.1;have B:=h.2.1;have p:=h.2.2;refine lN [] (λi=>[(1,.ptr (.l 1) b 4 0 0),(3,iI i)]) (λi=>[(.l 1,⟨b,1,4,60,[Fn.c f],false⟩)]) (λi=>i<=f.locals.length/\∀t∈f.locals.take i,yE t=true) (λi=>f.locals.length-i) 0 ?_
  rintro i ⟨hi,x⟩;go_simp;refine⟨λd=>⟨_,zE d,?_⟩,λv=>?_⟩
  ·repeat'(first|(apply zd (jN ⟨_,_⟩);try go_simp)|with_reducible first|apply ai|intro)
   ·have:f.locals.all yE=false:=wj (zM d) (by grind [ww])
    exact dy (by simp[vN,this])
   ·exact⟨i+1,⟨om,zr x d (by grind [ww])⟩,om,wrS om⟩
  ·have u:0<f.locals.length:=List.length_pos_iff.2 z;have e:=zA.2 (zx x v);refine⟨_,zE u,?_⟩;have w:f.locals.getD 0 ⟨0,0⟩=f.locals[0]:=by rw[zD,zE u];rfl
   have y:=zA.1 e _ (zM u);repeat'(first|(apply zd (qI ⟨_,_⟩);try go_simp)|with_reducible first|apply ai|intro)
   ·refine dy ?_;simp only[vN,w];grind [yE]
   ·have C:vN f=true:=by simp only[vN,w,e];grind [yE]
    refine lN [] (λi=>[(1,.ptr (.l 1) b 4 0 0),(4,iI i)]) (λi=>[(.l 1,⟨b,1,4,60,[Fn.c f],false⟩)]) (λi=>i<=f.blocks.length/\∀b∈f.blocks.take i,bkB f.locals.length f.blocks.length b=true) (λi=>f.blocks.length-i) 0 ?_
    rintro k ⟨I,r⟩;go_simp;refine⟨λd=>⟨_,zE d,?_⟩,λq=>?_⟩
    ·have hb:=zM d;repeat'(first|(apply zd (XR f f.blocks[k] h (p _ hb).1 (p _ hb).2);try go_simp)|with_reducible first|apply ai|intro)
     ·exact i9 hb (by assumption)
     ·exact⟨k+1,⟨om,zr r d (by assumption)⟩,om,wrS om⟩
    ·unfold xJ uM;rw[C,zA.2 (zx r q),decide_eq_true (List.length_pos_iff.2 A)];rfl
end Go.Proofs.YtllodfoldffonaaGreatDoor
