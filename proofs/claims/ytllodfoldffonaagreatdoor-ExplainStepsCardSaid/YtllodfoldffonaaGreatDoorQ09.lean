/- A part of the proof. -/
import Derived.Test.YtllodfoldffonaaGreatDoorQ08
namespace Go.Proofs.YtllodfoldffonaaGreatDoor
open Tryz AM Go.RowKit
set_option linter.unusedSimpArgs false
set_option linter.unusedVariables false
set_option linter.defProp false
set_option maxRecDepth 100000
set_option maxHeartbeats 16000000
variable {i:Nat}{k:Nat}{l:List Al}{m:Me}{n:Int}{p:Po}{r:List Int}{s:List It}{x:Al}
def rdS (x:Ss)(k n tag:Int)(r:List Int)(w:Bool): Ss×Int×Int:=if ¬uz x k n r=0 then(⟨0,[]⟩,0,uz x k n r) else xq (λs=>xe r (yv s tag w)) x k.toNat n.toNat
def rtS (x:Ss)(k n kind a:Int)(it:It)(r:List Int): Ss×Int×Int:=if ¬uz x k n r=0 then(⟨0,[]⟩,0,uz x k n r) else if ¬grE kind=0 then(⟨0,[]⟩,0,grE kind) else xq (λs=>xe r (xv s kind a it)) x k.toNat n.toNat
def nM {x:Ss}{k n:Int}(h:uz x k n r=0): y9 r=0/\xU x=0/\∃a b:Nat,k=a/\n=b/\a+b<=x.cells.length:=by
 unfold uz at h;split at h
 ·exact absurd h (by assumption)
 ·rename_i c;split at h
  ·exact absurd h (by assumption)
  ·rename_i d;split at h
   ·omega
   ·exact⟨by simpa using c,by simpa using d,k.toNat,n.toNat,om,om,om⟩
def gR {x:Ss}(h:xU x=0): x.cells.length<=2/\∀s∈x.cells,yz s=0:=by
 unfold xU at h;cases a:qM x with
 |false=>rw[a] at h;simp at h
 |true =>
  unfold qM at a;simp only[zB,zL] at a;exact⟨a.1.2,λs hs=>oR.2 (zA.1 a.2 s hs)⟩
def ON (x:Ss)(tag:Int)(r:List Int)(b:wfS x)(a:r.length<1000000): Un 412 [.rp [iI tag],.rp [vCi_ r]] (λs=>xe r (yv s tag false)) x.cells where
 cb:=by go_simp
 call s hs:=by
  have h:=Um s tag r (b.2 s hs) a;refine eK [] func412 λX=>?_;go_simp;repeat'(first|(apply zd h;try go_simp)|with_reducible first|apply ai|intro)
def RO (x:Ss)(tag:Int)(r:List Int)(b:wfS x)(a:r.length<1000000): Un 413 [.rp [iI tag],.rp [vCi_ r]] (λs=>xe r (yv s tag true)) x.cells where
 cb:=by go_simp
 call s hs:=by
  have h:=jI s tag r (b.2 s hs) a;refine eK [] func413 λX=>?_;go_simp;repeat'(first|(apply zd h;try go_simp)|with_reducible first|apply ai|intro)
def RQ (x:Ss)(kind a:Int)(it:It)(r:List Int)(e:wfS x)(d:r.length<1000000)(b:0<=kind): Un 414 [.rp [iU kind],.rp [iI a],.rp (It.c it),.rp [vCi_ r]] (λs=>xe r (xv s kind a it)) x.cells where
 cb:=by go_simp
 call s hs:=by
  have h:=XC s kind a it r (e.2 s hs) d b;obtain⟨p,f,cl⟩:=it;refine eK [] func414 λX=>?_;go_simp;repeat'(first|(apply zd h;try go_simp)|with_reducible first|apply ai|intro)
def XE (x:Ss)(k n tag:Int)(r:List Int)(g:wfS x)(j:r.length<1000000): zK 361 [x.a,iI k,iI n,iI tag,vCi_ r] (eaA (rdS x k n tag r false)):=by
 have h:=pY x k n r g j;by_cases d:uz x k n r=0
 ·obtain⟨_,_,a,b,rfl,rfl,f⟩:=nM d;have o:=ns x a b (ON x tag r g j) g f;have c:rdS x a b tag r false=xq (λs=>xe r (yv s tag false)) x a b:=by unfold rdS;rw[if_neg (by simpa using d)];rfl
  rw[c];clear c;generalize xq (λs=>xe r (yv s tag false)) x a b=e at *;obtain⟨num,cells⟩:=x;refine eK [4] func361 λX=>?_;go_simp;repeat'(first|(apply zd h;try go_simp)|with_reducible first|apply ai|intro)
  refine z5 [.l 8] 8 (SV.ptr rfl rfl rfl rfl sm rfl) ?_;refine z5 [.l 9] 9 (SV.ptr rfl rfl rfl rfl sm rfl) ?_;refine aO [] ?_;go_simp;repeat'(first|(apply zd o;try go_simp)|with_reducible first|apply ai|intro)
 ·have c:rdS x k n tag r false=(⟨0,[]⟩,0,uz x k n r):=by unfold rdS;rw[if_pos d]
  rw[c];obtain⟨num,cells⟩:=x;refine eK [4] func361 λX=>?_;go_simp;repeat'(first|(apply zd h;try go_simp)|with_reducible first|apply ai|intro)
def Z6 (x:Ss)(k n tag:Int)(r:List Int)(g:wfS x)(j:r.length<1000000): zK 362 [x.a,iI k,iI n,iI tag,vCi_ r] (eaA (rdS x k n tag r true)):=by
 have h:=pY x k n r g j;by_cases d:uz x k n r=0
 ·obtain⟨_,_,a,b,rfl,rfl,f⟩:=nM d;have o:=ns x a b (RO x tag r g j) g f;have c:rdS x a b tag r true=xq (λs=>xe r (yv s tag true)) x a b:=by unfold rdS;rw[if_neg (by simpa using d)];rfl
  rw[c];clear c;generalize xq (λs=>xe r (yv s tag true)) x a b=e at *;obtain⟨num,cells⟩:=x;refine eK [4] func362 λX=>?_;go_simp;repeat'(first|(apply zd h;try go_simp)|with_reducible first|apply ai|intro)
  refine z5 [.l 8] 8 (SV.ptr rfl rfl rfl rfl sm rfl) ?_;refine z5 [.l 9] 9 (SV.ptr rfl rfl rfl rfl sm rfl) ?_;refine aO [] ?_;go_simp;repeat'(first|(apply zd o;try go_simp)|with_reducible first|apply ai|intro)
 ·have c:rdS x k n tag r true=(⟨0,[]⟩,0,uz x k n r):=by unfold rdS;rw[if_pos d]
  rw[c];obtain⟨num,cells⟩:=x;refine eK [4] func362 λX=>?_;go_simp;repeat'(first|(apply zd h;try go_simp)|with_reducible first|apply ai|intro)
def Z7 (x:Ss)(k n kind c:Int)(it:It)(r:List Int)(o:wfS x)(u:r.length<1000000)(t:0<=kind): zK 363 [x.a,iI k,iI n,iU kind,iI c,it.a,vCi_ r] (eaA (rtS x k n kind c it r)):=by
 have g:=pY x k n r o u;have h:=qi kind;rw[dj t] at h;by_cases f:uz x k n r=0
 ·obtain⟨_,_,a,b,rfl,rfl,j⟩:=nM f;by_cases q:grE kind=0
  ·have w:=ns x a b (RQ x kind c it r o u t) o j;have d:rtS x a b kind c it r=xq (λs=>xe r (xv s kind c it)) x a b:=by unfold rtS;rw[if_neg (by simpa using f),if_neg (by simpa using q)];rfl
   rw[d];clear d;generalize xq (λs=>xe r (xv s kind c it)) x a b=e at *;obtain⟨num,cells⟩:=x;obtain⟨p,v,cl⟩:=it;refine eK [7] func363 λX=>?_;go_simp;repeat'(first|((first|apply zd g|apply zd h);try go_simp)|with_reducible first|apply ai|intro)
   refine z5 [.l 10] 10 (SV.ptr rfl rfl rfl rfl sm rfl) ?_;refine z5 [.l 11] 11 (SV.ptr rfl rfl rfl rfl sm rfl) ?_;refine z5 [.l 12] 12 (SV.ptr rfl rfl rfl rfl sm rfl) ?_;refine z5 [.l 13] 13 (SV.ptr rfl rfl rfl rfl sm rfl) ?_;refine aO [] ?_;go_simp;repeat'(first|(apply zd w;try go_simp)|with_reducible first|apply ai|intro)
  ·have d:rtS x a b kind c it r=(⟨0,[]⟩,0,grE kind):=by unfold rtS;rw[if_neg (by simpa using f),if_pos q]
   rw[d];obtain⟨num,cells⟩:=x;obtain⟨p,v,cl⟩:=it;refine eK [7] func363 λX=>?_;go_simp;repeat'(first|((first|apply zd g|apply zd h);try go_simp)|with_reducible first|apply ai|intro)
 ·have d:rtS x k n kind c it r=(⟨0,[]⟩,0,uz x k n r):=by unfold rtS;rw[if_pos f]
  rw[d];obtain⟨num,cells⟩:=x;obtain⟨p,v,cl⟩:=it;refine eK [7] func363 λX=>?_;go_simp;repeat'(first|(apply zd g;try go_simp)|with_reducible first|apply ai|intro)
def OO (l:List Int)(x:Int)(f:y9 l=0): zK 421 [vCi_ l,iI x] (.tup [iI (dm l x),.bool (l.any (eqI x))]):=by
 have hl:=(uV.1 f).1;refine eK [] func421 λX=>?_;go_simp;refine lG [] (G:=Nat×Nat) (λg=>[(0,vCi_ l),(1,iI x),(6,iI l.length),(7,iI g.1),(8,iI g.2)]) (λg=>[]) (λg=>g.1<=g.2/\g.2<=l.length/\(∀k (h:k<l.length),k<g.1->l[k]<x)/\(∀k (h:k<l.length),g.2<=k->x<=l[k])) (λg=>g.2-g.1) (0,l.length) ?_ (h0:=(by simp;omega))
 rintro⟨i,j⟩ ⟨z,t,b,c⟩;simp only at z t b c;obtain⟨m,hm,E,F⟩:∃m:Nat,IntKind.i64.wrap ((IntKind.u64.wrap (IntKind.i64.wrap ((i:Int)+(j:Int)))).fdiv 2)=(m:Int)/\2*m<=i+j/\i+j<=2*m+1:=by
  refine⟨(i+j)/2,?_,om,om⟩;have v:IntKind.i64.wrap ((i:Int)+(j:Int))=(i:Int)+j:=AM.Tf om;have w:IntKind.u64.wrap ((i:Int)+(j:Int))=(i:Int)+j:=by simp only[IntKind.wrap,IntKind.bits,IntKind.signed];simp;omega
  rw[v,w];have y:((i:Int)+j).fdiv 2=(((i+j)/2:Nat):Int):=by rw[Int.fdiv_eq_ediv_of_nonneg _ om];omega
  rw[y];exact AM.Tf om
 go_simp;clear hm;refine⟨λa=>?_,λD=>?_⟩
 ·have e:m<l.length:=om;have A:=Z0 l[m] x;refine⟨_,zE e,?_⟩;repeat'(first|(apply zd A;try go_simp)|with_reducible first|apply ai|intro)
  ·rename_i C;refine⟨m+1,j,⟨om,om,λk u d=>?_,c⟩,om,wrS om,rfl⟩;have:=rH f m k e om
   omega
  ·rename_i C;refine⟨i,m,⟨om,om,b,λk u d=>?_⟩,om,rfl,rfl⟩;have:=rH f k m u d
   omega
 ·obtain rfl:i=j:=om;have hp:dm l x=i:=T2 b (λh=>c i h (Nat.le_refl _)) t;by_cases a:i<l.length
  ·refine⟨λ_=>⟨_,zE a,λq=>⟨_,zE a,?_⟩,λo=>?_⟩,λh=>absurd a om⟩
   ·have B:=Z4 l[i];repeat'(first|(apply zd B;try go_simp)|with_reducible first|apply ai|intro)
    all_goals first|exact hp.symm|(exact aj f b c (λ_=>q) _ (by assumption))
   ·exact⟨hp.symm,l[i],zM a,by simp[eqI,o]⟩
  ·refine⟨λh=>absurd h a,λ_=>⟨hp.symm,?_⟩⟩;exact aj f b c (λh=>absurd h a)
def XF (r:List Int)(x:It)(d:y9 r=0): zK 375 [vCi_ r,x.a] (.bool (tL r x)):=by
 obtain⟨p,t,c⟩:=x;have b:=OO r c d;unfold tL;simp only;refine eK [] func375 λX=>?_;go_simp;repeat'(first|(apply zd b;try go_simp)|with_reducible first|apply ai|intro)
def dlE (x:Ss)(r:List Int): Int:=if ¬y9 r=0 then y9 r else xU x
def frS (r:List Int)(s:List It): Bool:=s.all λi=>!tL r i
def xF (x:Ss)(r:List Int): Bool:=x.cells.all (frS r)
def MM{y:It}(h:y∈s)(k:tL r y=true): frS r s=false:=by unfold frS;rw[List.all_eq_false];exact⟨y,h,by simp[k]⟩
def OP(h:∀y∈s,tL r y=false): frS r s=true:=by unfold frS;exact zA.2 λy a=>by rw[h y a];rfl
def OQ {x:Ss}(h:s∈x.cells)(k:frS r s=false): xF x r=false:=by unfold xF;rw[List.all_eq_false];exact⟨s,h,by simp[k]⟩
def dlW (x:Ss)(r:List Int): Int:=if ¬dlE x r=0 then 0 else if xF x r then 0 else 2
def br (x:Ss)(r:List Int)(f:wfS x)(d:r.length<1000000): zK 296 [x.a,vCi_ r] (iI (dlE x r)):=by
 have b:=vC r d;have c:=pX x f;obtain⟨n,cs⟩:=x;unfold dlE;by_cases e:y9 r=0
 ·rw[if_neg (by simpa using e)];rw[e] at b;refine eK [] func296 λX=>?_;go_simp;repeat'(first|((first|apply zd b|apply zd c);try go_simp)|with_reducible first|apply ai|intro)
 ·rw[if_pos e];refine eK [] func296 λX=>?_;go_simp;repeat'(first|(apply zd b;try go_simp)|with_reducible first|apply ai|intro)
def RS {x:Ss}(h:∀s∈x.cells,frS r s=true): xF x r=true:=by unfold xF;exact zA.2 h
def noH (r:List Int)(s:List It)(j:Nat): Prop:=∀y∈s.take j,tL r y=false
def noS (r:List Int)(cs:List (List It))(i:Nat): Prop:=∀s∈cs.take i,frS r s=true
def Ih: noH r s 0:=by simp[noH]
def Ii{s:List (List It)}: noS r s 0:=by simp[noS]
def Z8 (x:Ss)(r:List Int)(C:wfS x)(A:y9 r=0): zK 297 [x.a,vCi_ r] (.bool (xF x r)):=by
 have z:=λy=>XF r y A;obtain⟨num,cs⟩:=x;obtain⟨hl,hs⟩:=C;simp only at hl hs;refine eK [] func297 λX=>?_;go_simp;intro D;refine ul ?_;refine aO [] ?_;go_simp;refine lN [] (λi=>[(5,.bm 375 [vCi_ r]),(6,.bool true),(14,vSk_ cs),(15,iI cs.length),(16,iI i)]) (λi=>[]) (λi=>i<=cs.length/\noS r cs i) (λi=>cs.length-i) 0 ?_ (h0:=⟨Nat.zero_le _,Ii⟩)
 rintro i ⟨hi,v⟩;go_simp;refine⟨λc=>⟨_,zE c,?_⟩,λt=>?_⟩
 ·have B:cs[i].length<1000000:=hs _ (zM c);have g:=zM c;have d:frS r cs[i]=true->noS r cs (i+1):=λh=>zr v c h;generalize cs[i]=s at *;refine lN [] (λj=>[(5,.bm 375 [vCi_ r]),(6,.bool true),(14,vSk_ cs),(15,iI cs.length),(16,iI i),(20,vIt_ s),(21,iI s.length),(22,iI j)]) (λj=>[]) (λj=>j<=s.length/\noH r s j) (λj=>s.length-j) 0 ?_ (h0:=⟨Nat.zero_le _,Ih⟩)
  rintro j ⟨E,f⟩;go_simp;refine⟨λb=>⟨_,zE b,λw=>?_⟩,λe=>?_⟩
  ·have hm:=zM b;have u:tL r s[j]=false->noH r s (j+1):=λh=>zr f b h;generalize s[j]=y at *;have o:=z y;cases q:tL r y with
   |true =>
    rw[q] at o;repeat'(first|(apply zd o;try go_simp)|with_reducible first|apply ai|intro)
    exact OQ (x:=⟨num,cs⟩) g (MM hm q)
   |false =>
    rw[q] at o;repeat'(first|(apply zd o;try go_simp)|with_reducible first|apply ai|intro)
    exact⟨j+1,⟨om,u q⟩,om,wrS om⟩
  ·exact⟨i+1,⟨om,d (OP (zx f e))⟩,om,wrS om⟩
 ·exact RS (x:=⟨num,cs⟩) (zx v t)
def XG (x:Ss)(r:List Int)(f:wfS x)(g:r.length<1000000): zK 186 [x.a,vCi_ r] (.tup [iU (dlW x r),iI (dlE x r)]):=by
 have b:=br x r f g;have d:=Z8 x r f;unfold dlW;by_cases e:dlE x r=0
 ·have er:y9 r=0:=zC λc=>by unfold dlE at e;rw[if_pos c] at e;exact c e
  rw[if_neg (by simpa using e)];replace d:=d er;rw[e] at b ⊢;obtain⟨num,cs⟩:=x;refine eK [] func186 λX=>?_;go_simp;repeat'(first|((first|apply zd b|apply zd d);try go_simp)|with_reducible first|apply ai|intro)
  all_goals grind
 ·rw[if_pos e];generalize dlE x r=q at *;obtain⟨num,cs⟩:=x;refine eK [] func186 λX=>?_;go_simp;repeat'(first|(apply zd b;try go_simp)|with_reducible first|apply ai|intro)
def poZ (p:Po): Bool:=p.al==0&&p.off==0&&p.tag==0
def xg (c:Ce): Bool:=(c.kind==0&&c.n==0&&poZ c.p)||(c.kind==1&&poZ c.p)||(c.kind==2&&c.n==0&&inT c.p.al&&inT c.p.tag&&decide (0<=c.p.off/\c.p.off<=2))
def wa (c:Ce): Int:=if xg c then 0 else 8
def uI (live:Bool)(c:Ce): Bool:=xg c&&(live||c.kind==0)
def ix:Al:=⟨0,false,[]⟩
def t4 (l:List Al)(j:Nat): Int:=if j=0 then -1 else(l.getD (j-1) ix).num
def sY (p next:Int)(a:Al): Bool:=decide (p<a.num)&&decide (a.num<next)&&decide (1<=a.cells.length)&&decide (a.cells.length<=2)&&a.cells.all (uI a.live)
def tM (l:List Al)(next:Int)(j:Nat): Bool:=sY (t4 l j) next (l.getD j ix)
def sG (m:Me): Bool:=decide (m.allocs.length<=400)&&inT m.next&&(List.range m.allocs.length).all (tM m.allocs m.next)
def yq (m:Me): Int:=if sG m then 0 else 8
def wfA (m:Me): Prop:=m.allocs.length<1000000/\∀a∈m.allocs,a.cells.length<1000000
def tN(h:i<l.length): t4 l (i+1)=l[i].num:=by
 unfold t4;rw[if_neg om,Nat.add_sub_cancel,zD,zE h];rfl
def pZ{next:Int}(h:i<l.length): tM l next i=sY (t4 l i) next l[i]:=by
 unfold tM;rw[zD,zE h];rfl
def Pb(h:i<m.allocs.length)(k:tM m.allocs m.next i=false): yq m=8:=by
 have:(List.range m.allocs.length).all (tM m.allocs m.next)=false:=by rw[List.all_eq_false];exact⟨i,by simpa using h,by simp[k]⟩
 unfold yq sG;rw[this,Bool.and_false];rfl
def Z9(h:∀j,j<m.allocs.length->tM m.allocs m.next j=true)(hl:m.allocs.length<=400)(hn:inT m.next=true): yq m=0:=by
 have:(List.range m.allocs.length).all (tM m.allocs m.next)=true:=zA.2 λj a=>h j (by simpa using a)
 unfold yq sG;rw[this,decide_eq_true hl,hn];rfl
def T6: yq m=0↔m.allocs.length<=400/\inT m.next=true/\∀j,j<m.allocs.length->tM m.allocs m.next j=true:=by
 constructor
 ·intro h;unfold yq at h;cases a:sG m with
  |false=>rw[a] at h;simp at h
  |true =>
   unfold sG at a;simp only[zB,zL] at a;exact⟨a.1.1,a.1.2,λj b=>zA.1 a.2 j (by simpa using b)⟩
 ·exact λh=>Z9 h.2.2 h.1 h.2.1
def lS (n:Int): zK 288 [iI n] (.bool (inT n)):=by
 refine eK [] func288 λX=>?_;go_simp;all_goals grind [inT]
def iy (n:Int): zK 319 [iI n] (.bool (inT n)):=by
 refine eK [] func319 λX=>?_;go_simp;all_goals grind [inT]
def vL (c:Ce): zK 245 [c.a] (iI (wa c)):=by
 have b:=lS c.p.al;have d:=lS c.p.tag;obtain⟨k,n,⟨a,o,t⟩⟩:=c;simp only at b d;by_cases e:k=0
 ·subst e;refine eK [] func245 λX=>?_;go_simp;repeat'(first|((first|apply zd b|apply zd d);try go_simp)|with_reducible first|apply ai|intro)
  all_goals grind [wa,xg,poZ]
 ·by_cases f:k=1
  ·subst f;refine eK [] func245 λX=>?_;go_simp;repeat'(first|((first|apply zd b|apply zd d);try go_simp)|with_reducible first|apply ai|intro)
   all_goals grind [wa,xg,poZ]
  ·by_cases g:k=2
   ·subst g;refine eK [] func245 λX=>?_;go_simp;repeat'(first|((first|apply zd b|apply zd d);try go_simp)|with_reducible first|apply ai|intro)
    all_goals grind [wa,xg,poZ]
   ·refine eK [] func245 λX=>?_;go_simp;repeat'(first|((first|apply zd b|apply zd d);try go_simp)|with_reducible first|apply ai|intro)
    all_goals grind [wa,xg,poZ]
def Uo (c:Ce): zK 320 [c.a] (.bool (xg c)):=by
 have b:=iy c.p.al;have d:=iy c.p.tag;obtain⟨k,n,⟨a,o,t⟩⟩:=c;simp only at b d;by_cases e:k=0
 ·subst e;refine eK [] func320 λX=>?_;go_simp;repeat'(first|((first|apply zd b|apply zd d);try go_simp)|with_reducible first|apply ai|intro)
  all_goals grind [xg,poZ]
 ·by_cases f:k=1
  ·subst f;refine eK [] func320 λX=>?_;go_simp;repeat'(first|((first|apply zd b|apply zd d);try go_simp)|with_reducible first|apply ai|intro)
   all_goals grind [xg,poZ]
  ·by_cases g:k=2
   ·subst g;refine eK [] func320 λX=>?_;go_simp;repeat'(first|((first|apply zd b|apply zd d);try go_simp)|with_reducible first|apply ai|intro)
    all_goals grind [xg,poZ]
   ·refine eK [] func320 λX=>?_;go_simp;repeat'(first|((first|apply zd b|apply zd d);try go_simp)|with_reducible first|apply ai|intro)
    all_goals grind [xg,poZ]
def T7 {p next:Int}{a:Al}(h:a.num<=p\/next<=a.num\/a.cells = []\/(2:Int)<a.cells.length): sY p next a=false:=by
 unfold sY;simp only[Bool.and_eq_false_iff,zN];rcases h with h|h|h|h
 ·exact Or.inl (Or.inl (Or.inl (Or.inl om)))
 ·exact Or.inl (Or.inl (Or.inl (Or.inr om)))
 ·rw[h];exact Or.inl (Or.inl (Or.inr sm))
 ·exact Or.inl (Or.inr om)
def Pc {p next:Int}{a:Al}{c:Ce}(h:c∈a.cells)(k:uI a.live c=false): sY p next a=false:=by
 have:a.cells.all (uI a.live)=false:=by rw[List.all_eq_false];exact⟨c,h,by simp[k]⟩
 unfold sY;rw[this,Bool.and_false]
def T8 {p next:Int}{a:Al}(b:p<a.num)(d:a.num<next)(e:¬a.cells = [])(f:(a.cells.length:Int)<=2)(h:∀c∈a.cells,uI a.live c=true): sY p next a=true:=by
 have:a.cells.all (uI a.live)=true:=zA.2 h
 have g:=List.length_pos_iff.2 e;unfold sY;rw[this,decide_eq_true b,decide_eq_true d,decide_eq_true om,decide_eq_true om];rfl
def ZA {l:List Al}{next:Int}: ∀ {i:Nat},i<=l.length->(∀j,j<i->tM l next j=true)->-1<=t4 l i
 |0,_,_=>by simp[t4]
 |i+1,hi,h=>by
  have b:=ZA (i:=i) om λj c=>h j om;have a:=h i om;rw[pZ om] at a;rw[tN om];unfold sY at a;simp only[zB,zL] at a;omega
def vM (m:Me)(H:wfA m): zK 181 [m.a] (iI (yq m)):=by
 have B:=lS m.next;obtain⟨l,next⟩:=m;obtain⟨hl,hs⟩:=H;simp only at hl hs B;refine eK [] func181 λX=>?_;go_simp;repeat'(first|(apply zd B;try go_simp)|with_reducible first|apply ai|intro)
 ·grind [yq,sG]
 ·rename_i u D v;have hn:0<=next/\next<=1000000:=by unfold inT at v;simpa using v
  refine lN [] (λi=>[(1,.ptr (.l 1) u 2 0 0),(3,iI (t4 l i+1)),(19,vAl_ l),(20,iI l.length),(21,iI i)]) (λi=>[(.l 1,⟨u,1,2,27,[Me.c ⟨l,next⟩],false⟩)]) (λi=>i<=l.length/\∀j,j<i->tM l next j=true) (λi=>l.length-i) 0 ?_
  rintro i ⟨hi,y⟩;go_simp;refine⟨λb=>⟨_,zE b,λA=>?_⟩,λo=>?_⟩
  ·have g:=pZ (next:=next) b;have z:=tN b;have q:∀k,tM l next i=false->yq ⟨l,next⟩=k->k=8:=λk h e=>e▸Pb (m:=⟨l,next⟩) b h
   have G:=hs l[i] (zM b);have f:l[i].num<=t4 l i\/next<=l[i].num\/l[i].cells = []\/(2:Int)<l[i].cells.length->8=yq ⟨l,next⟩:=λh=>(q _ (by rw[g];exact T7 h) rfl).symm
   have F:=ZA om y;generalize l[i]=a at *;repeat'(first|with_reducible first|apply ai|intro)
   all_goals try(exact f om)
   all_goals try(exact f (Or.inr (Or.inr (Or.inl (by assumption)))))
   rename_i P J K L;have I:IntKind.i64.wrap (a.num+1)=a.num+1:=AM.Tf om;refine lN [] (λj=>[(1,.ptr (.l 1) u 2 0 0),(3,iI (a.num+1)),(5,.ptr (.l 5) A 3 0 0),(19,vAl_ l),(20,iI l.length),(21,iI i),(52,vCe_ a.cells),(53,iI a.cells.length),(54,iI j)]) (λj=>[(.l 1,⟨u,1,2,27,[Me.c ⟨l,next⟩],false⟩),(.l 5,⟨A,1,3,170,[Al.c a],false⟩)]) (λj=>j<=a.cells.length/\∀c∈a.cells.take j,uI a.live c=true) (λj=>a.cells.length-j) 0 ?_
   rintro j ⟨C,t⟩;go_simp;refine⟨λd=>⟨_,zE d,λM=>?_⟩,λo=>?_⟩
   ·have E:=vL a.cells[j];have w:uI a.live a.cells[j]=false->8=yq ⟨l,next⟩:=λh=>(q _ (by rw[g];exact Pc (zM d) h) rfl).symm;repeat'(first|(apply zd E;try go_simp)|with_reducible first|apply ai|intro)
    all_goals first
     |exact w (by grind [uI,wa])
     |exact⟨j+1,⟨om,zr t d (by grind [uI,wa])⟩,om,wrS om⟩
   ·refine⟨i+1,⟨om,λk O=>?_⟩,om,by rw[z],wrS om⟩;rcases Nat.lt_or_ge k i with h|h
    ·exact y k h
    ·obtain rfl:k=i:=om;rw[g];exact T8 om J K L (zx t o)
  ·have N:(l.length:Int)<=400:=D;exact(Z9 (m:=⟨l,next⟩) (λj C=>y j (by simp only at C;omega)) (by simp only;omega) v).symm
 ·grind [yq,sG]
def jJ (m:Me)(H:wfA m): zK 207 [m.a] (iI (yq m)):=by
 have A:=iy m.next;obtain⟨l,next⟩:=m;obtain⟨hl,hs⟩:=H;simp only at hl hs A;refine eK [] func207 λX=>?_;go_simp;repeat'(first|(apply zd A;try go_simp)|with_reducible first|apply ai|intro)
 ·grind [yq,sG]
 ·rename_i u E v;have hn:0<=next/\next<=1000000:=by unfold inT at v;simpa using v
  refine lN [] (λi=>[(1,.ptr (.l 1) u 2 0 0),(3,iI (t4 l i)),(4,iI i)]) (λi=>[(.l 1,⟨u,1,2,27,[Me.c ⟨l,next⟩],false⟩)]) (λi=>i<=l.length/\∀j,j<i->tM l next j=true) (λi=>l.length-i) 0 ?_
  rintro i ⟨hi,C⟩;go_simp;refine⟨λd=>⟨_,zE d,λz=>?_⟩,λo=>?_⟩
  ·have g:=pZ (next:=next) d;have y:=tN d;have q:∀k,tM l next i=false->yq ⟨l,next⟩=k->k=8:=λk h e=>e▸Pb (m:=⟨l,next⟩) d h
   have G:=hs l[i] (zM d);have f:l[i].num<=t4 l i\/next<=l[i].num\/l[i].cells = []\/(2:Int)<l[i].cells.length->8=yq ⟨l,next⟩:=λh=>(q _ (by rw[g];exact T7 h) rfl).symm
   generalize l[i]=a at *;repeat'(first|with_reducible first|apply ai|intro)
   all_goals try(exact f om)
   all_goals try(exact f (Or.inr (Or.inr (Or.inl (List.eq_nil_of_length_eq_zero om)))))
   rename_i M I D J;refine lN [] (λj=>[(1,.ptr (.l 1) u 2 0 0),(4,iI i),(5,.ptr (.l 5) z 3 0 0),(6,iI j)]) (λj=>[(.l 1,⟨u,1,2,27,[Me.c ⟨l,next⟩],false⟩),(.l 5,⟨z,1,3,170,[Al.c a],false⟩)]) (λj=>j<=a.cells.length/\∀c∈a.cells.take j,uI a.live c=true) (λj=>a.cells.length-j) 0 ?_
   rintro j ⟨B,t⟩;go_simp;refine⟨λb=>⟨_,zE b,?_⟩,λo=>?_⟩
   ·have F:=Uo a.cells[j];have w:uI a.live a.cells[j]=false->8=yq ⟨l,next⟩:=λh=>(q _ (by rw[g];exact Pc (zM b) h) rfl).symm;repeat'(first|(apply zd F;try go_simp)|with_reducible first|apply ai|intro)
    all_goals try(refine⟨_,zE b,?_⟩)
    all_goals try(refine⟨λ_=>?_,λ_=>?_⟩)
    all_goals first
     |exact w (by grind [uI])
     |exact⟨j+1,⟨om,zr t b (by grind [uI])⟩,om,wrS om⟩
   ·refine⟨i+1,⟨om,λk L=>?_⟩,om,by rw[y],wrS om⟩;rcases Nat.lt_or_ge k i with h|h
    ·exact C k h
    ·obtain rfl:k=i:=om;rw[g];exact T8 om I (by intro e;rw[e] at D;simp at D) J (zx t o)
  ·have K:(l.length:Int)<=400:=E;exact(Z9 (m:=⟨l,next⟩) (λj B=>C j (by simp only at B;omega)) (by simp only;omega) v).symm
 ·grind [yq,sG]
def Ce.one (x:Ce): x.c.all xW=true:=rfl
def Al.one (x:Al): x.c.all xW=true:=rfl
def qO (m:Me)(u:wfA m): zO 183 [m.a] 3 170 (m.allocs.map Al.c) (λi b c=>.agg [.sl i b 3 m.allocs.length c,iI m.next]):=by
 obtain⟨l,next⟩:=m;obtain⟨hl,hs⟩:=u;simp only at hl hs ⊢;have o:=tc (yb Al.one l) (by simpa using hl);refine eO [5] func183 λX=>?_;go_simp;repeat'(first|(refine xu (.l 6) o ?_;intro f g;try go_simp)|with_reducible first|apply ai|intro)
 rename_i h j;refine lN [5] (λi=>[(1,.ptr (.l 1) h 2 0 0),(2,.ptr (.l 2) j 2 0 0),(10,iI l.length),(11,iI i)]) (λi=>[(.l 1,⟨h,1,2,27,[[.sl (.l 6) f 3 l.length g,iI next]],false⟩),(.l 2,⟨j,1,2,27,[[.nils,iI 0]],false⟩),(.l 6,⟨f,g,3,170,l.map Al.c,false⟩)]) (λi=>i<=l.length) (λi=>l.length-i) 0 ?_
 rintro i hi;go_simp;refine⟨λd=>?_,λq=>?_⟩
 ·have t:=xE (yb Ce.one l[i].cells) (by simpa using hs _ (zM d));refine zh hP ⟨[(14,.l 1,0),(17,.l 1,0),(21,.l 6,2),(25,.l 6,2)],false⟩ dk ?_;go_simp;repeat'(first|(apply zd t;try go_simp)|with_reducible first|apply ai|intro)
  refine⟨i+1,om,om,wrS om,?_⟩;have e:[iI l[i].num,.bool l[i].live,vCe_ l[i].cells]=(l.map Al.c)[i]'(by simpa using d):=by simp[Al.c]
  rw[e,List.set_getElem_self]
 ·exact⟨.l 6,f,g,sm,rfl,rfl,rfl⟩
def ZB (m:Me)(d:wfA m): zK 183 [m.a] m.a:=(qO m d).k1 λb c=>by
 obtain⟨l,next⟩:=m;go_simp
def xO (n:Int)(a:Al): Bool:=a.num==n
def atA (m:Me)(n:Int): Int:=idx (xO n) m.allocs
def XH (m:Me)(n:Int)(hl:m.allocs.length<1000000): zK 182 [m.a,iI n] (iI (atA m n)):=by
 obtain⟨l,next⟩:=m;simp only at hl;have c:yF 289 [.rp [iI n]] Al.a (xO n) l:=⟨by go_simp,λx hx=>by
  have b:xO n x=(x.num==n):=rfl;rw[b];obtain⟨p,q,r⟩:=x;refine eK [] func289 λX=>?_;go_simp⟩
 refine eK [1] func182 λX=>?_;go_simp;repeat'(first|with_reducible first|apply ai|intro)
 refine z5 [.l 3] 3 (SV.ptr rfl rfl rfl rfl sm rfl) ?_;refine aO [] ?_;go_simp;repeat'(first|(apply zd (rG c hl);try go_simp)|with_reducible first|apply ai|intro)
 all_goals rfl
def wy (m:Me)(size:Int): Int:=if ¬yq m=0 then yq m else if size<1\/2<size then 2 else if m.allocs.length=400\/m.next=1000000 then 18 else 0
def ceZ:Ce:=⟨0,0,⟨0,0,0⟩⟩
def wz (m:Me)(size:Int): Me:=if wy m size=0 then⟨m.allocs++[⟨m.next,true,List.replicate size.toNat ceZ⟩],m.next+1⟩ else⟨[],0⟩
def uJ (m:Me)(size:Int): Int:=if wy m size=0 then m.next else 0
def gS (m:Me)(size:Int)(j:wfA m): zK 275 [m.a,iI size] (.tup [(wz m size).a,iI (uJ m size),iI (wy m size)]):=by
 have w:=vM m j;have y:=qO m j;by_cases b:wy m size=0
 ·have u:yq m=0/\1<=size/\size<=2/\¬m.allocs.length=400/\¬m.next=1000000:=by
   unfold wy at b;split at b
   ·exact absurd b (by assumption)
   ·split at b
    ·cases b
    ·split at b
     ·cases b
     ·rename_i B G e;exact⟨by simpa using B,om,om,λh=>e (Or.inl h),λh=>e (Or.inr h)⟩
  have f:wz m size=⟨m.allocs++[⟨m.next,true,List.replicate size.toNat ceZ⟩],m.next+1⟩:=by unfold wz;rw[if_pos b]
  have g:uJ m size=m.next:=by unfold uJ;rw[if_pos b]
  rw[f,g,b];obtain⟨u,B,G,e,I⟩:=u;have z:0<=m.next/\m.next<=1000000:=by have:=(T6.1 u).2.1;unfold inT at this;simpa using this
  have A:IntKind.i64.wrap (m.next+1)=m.next+1:=AM.Tf om;obtain⟨l,next⟩:=m;obtain⟨hl,hs⟩:=j;simp only at hl hs z A e I y ⊢;clear b f g;have H:¬(l.length:Int)=400:=om;rcases(by omega:size=1\/size=2) with rfl|rfl
  ·refine eK [10,1011] func275 λX=>?_;go_simp;repeat'(first|((first|apply zd w|(refine xu (.l 35) y ?_;intro o t));try go_simp)|with_reducible first|apply ai|intro)
   refine zh hP ⟨[(36,.l 2,0),(44,.l 2,0)],false⟩ dk ?_;go_simp;repeat'(first|with_reducible first|apply ai|intro)
   ·omega
   rename_i C D d q E F;refine y8 [.l 40] (.l 35) l.length 2 (row:=[iI next,.bool true,.sl (.l 40) d 5 1 1]) (v:=.vec 5 [Ce.c ceZ]) rfl sm rfl sm (SV.own rfl rfl rfl rfl (Nat.le_refl _) sm rfl) ?_;refine aO [] ?_;go_simp
  ·refine eK [10,1011] func275 λX=>?_;go_simp;repeat'(first|((first|apply zd w|(refine xu (.l 35) y ?_;intro o t));try go_simp)|with_reducible first|apply ai|intro)
   refine zh hP ⟨[(36,.l 2,0),(44,.l 2,0)],false⟩ dk ?_;go_simp;repeat'(first|with_reducible first|apply ai|intro)
   ·omega
   rename_i C D d q E F;refine y8 [.l 40] (.l 35) l.length 2 (row:=[iI next,.bool true,.sl (.l 40) d 5 2 2]) (v:=.vec 5 [Ce.c ceZ,Ce.c ceZ]) rfl sm rfl sm (SV.own rfl rfl rfl rfl (Nat.le_refl _) sm rfl) ?_;refine aO [] ?_;go_simp
 ·have f:wz m size=⟨[],0⟩:=by unfold wz;rw[if_neg b]
  have g:uJ m size=0:=by unfold uJ;rw[if_neg b]
  rw[f,g];obtain⟨l,next⟩:=m;unfold wy at *;refine eK [10,1011] func275 λX=>?_;go_simp;repeat'(first|((first|apply zd w|apply zd ((ZB ⟨l,next⟩ j)));try go_simp)|with_reducible first|apply ai|intro)
  all_goals simp only at b
  all_goals first
   |grind
   |(exfalso;grind)
def alO (x:Al)(i:AM.Id)(b c:Nat): List AV:=[iI x.num,.bool x.live,.sl i b 5 x.cells.length c]
def ZC (l:List Al)(n i:Nat)(R:List AV): List (List AV):=if i<=n then l.map Al.c else(l.map Al.c).set n R
def Up(h:i<l.length): (l.map Al.c).set i [iI l[i].num,.bool l[i].live,vCe_ l[i].cells]=l.map Al.c:=by
 have e:[iI l[i].num,.bool l[i].live,vCe_ l[i].cells]=(l.map Al.c)[i]'(by simpa using h):=by simp[Al.c]
 rw[e,List.set_getElem_self]
def bt (m:Me)(C:wfA m)(n:Nat)(x:Al)(hx:m.allocs[n]?=some x): zG 183 2 (λ_=>[m.a]) (λ_=>[])
  (λι q=>.agg [.sl (ι 0) (q 0).1 3 m.allocs.length (q 0).2,iI m.next])
  (λι q=>[⟨(q 0).1,(q 0).2,3,170,(m.allocs.map Al.c).set n [iI x.num,.bool x.live,.sl (ι 1) (q 1).1 5 x.cells.length (q 1).2],false⟩,⟨(q 1).1,(q 1).2,5,175,x.cells.map Ce.c,false⟩]):=by
 obtain⟨l,next⟩:=m;obtain⟨hl,hs⟩:=C;simp only at hl hs hx ⊢;have A:=(zS.1 hx).1;have z:=tc (yb Al.one l) (by simpa using hl);refine eG [5] func183 λX=>?_;go_simp;repeat'(first|(refine xu (.l 6) z ?_;intro g h;try go_simp)|with_reducible first|apply ai|intro)
 rename_i w y;refine zf hP (B:=[5]) (G:=Nat×Nat×Nat) (λv=>[(1,.ptr (.l 1) w 2 0 0),(2,.ptr (.l 2) y 2 0 0),(10,iI l.length),(11,iI v.1)])
  (λv=>[(.l 1,⟨w,1,2,27,[[.sl (.l 6) g 3 l.length h,iI next]],false⟩),(.l 2,⟨y,1,2,27,[[.nils,iI 0]],false⟩),(.l 6,⟨g,h,3,170,ZC l n v.1 (alO x (.l 23) v.2.1 v.2.2),false⟩)]++(if v.1<=n then [] else [(.l 23,⟨v.2.1,v.2.2,5,175,x.cells.map Ce.c,false⟩)]))
  (λv=>v.1<=l.length) (λv=>l.length-v.1) (0,0,0) dk sm ?_ ?_ ?_
 ·go_simp
 ·go_simp;unfold ZC;simp
 ·rintro⟨i,c1,c2⟩ hi;have f:∀d:i<l.length,zK 87 [vCe_ l[i].cells] (vCe_ l[i].cells):=λd=>xE (yb Ce.one l[i].cells) (by simpa using hs _ (zM d));rcases Nat.lt_trichotomy i n with t|rfl|t
  ·have j:i<=n:=om;have e:i+1<=n:=om;have d:i<l.length:=om;have f:=f d;simp only[if_pos j,ZC];go_simp;refine zh hP ⟨[(14,.l 1,0),(17,.l 1,0),(21,.l 6,2),(25,.l 6,2)],false⟩ dk ?_;go_simp;repeat'(first|(apply zd f;try go_simp)|with_reducible first|apply ai|intro)
   refine⟨i+1,om,om,wrS om,0,0,?_,?_⟩
   ·rw[if_pos e,Up d]
   ·rw[if_pos e];go_simp
  ·have d:i<l.length:=om;simp only[if_pos (Nat.le_refl i),ZC];go_simp;refine wA hP ⟨[(14,.l 1,0),(17,.l 1,0),(21,.l 6,2),(25,.l 6,2)],false⟩ [23] dk ?_;obtain rfl:l[i]=x:=by rw[zE d] at hx;injection hx
   have o:=m8 (yb Ce.one l[i].cells) (by simpa using hs _ (zM d));go_simp;repeat'(first|(refine xM o ?_;intro _ _;try go_simp)|with_reducible first|apply ai|intro)
   rename_i b c;have e:¬i+1<=i:=om;refine⟨i+1,om,om,wrS om,b,c,?_,?_⟩
   ·rw[if_neg e];simp[alO]
   ·rw[if_neg e];go_simp
  ·have j:¬i<=n:=om;simp only[if_neg j,ZC];by_cases d:i<l.length
   ·have f:=f d;have u:¬n=i:=om;go_simp;refine zh hP ⟨[(14,.l 1,0),(17,.l 1,0),(21,.l 6,2),(25,.l 6,2)],false⟩ dk ?_;go_simp;repeat'(first|(apply zd f;try go_simp)|with_reducible first|apply ai|intro)
    have e:¬i+1<=n:=om;refine⟨i+1,om,om,wrS om,c1,c2,?_,?_⟩
    ·rw[if_neg e,List.set_comm _ _ u,Up d]
    ·rw[if_neg e];go_simp
   ·go_simp;exact⟨[.l 6,.l 23],dk,λk=>if k=0 then(g,h) else(c1,c2),⟨OB,OB,trivial⟩,⟨rfl,rfl,rfl⟩,rfl⟩
def yV (m:Me)(n:Int): Int:=if ¬yq m=0 then yq m else if atA m n<0\/(m.allocs.getD (atA m n).toNat ix).live=false then 6 else 0
def dn (m:Me)(k:Nat)(x:Al): Me:=⟨m.allocs.set k ⟨x.num,false,List.replicate x.cells.length ceZ⟩,m.next⟩
def xP (m:Me)(n:Int): Me:=if yV m n=0 then dn m (atA m n).toNat (m.allocs.getD (atA m n).toNat ix) else⟨[],0⟩
def cK (m:Me)(n:Int): (¬yq m=0/\yV m n=yq m/\xP m n=⟨[],0⟩)\/(yq m=0/\atA m n<0/\yV m n=6/\xP m n=⟨[],0⟩) \/
  ∃(k:Nat)(x:Al),yq m=0/\atA m n=k/\m.allocs[k]?=some x/\x.num=n/\((x.live=false/\yV m n=6/\xP m n=⟨[],0⟩)\/(x.live=true/\yV m n=0/\xP m n=dn m k x)):=by
 by_cases b:yq m=0
 ·by_cases e:atA m n<0
  ·have a:yV m n=6:=by unfold yV;rw[if_neg (by simpa using b),if_pos (Or.inl e)]
   exact Or.inr (Or.inl ⟨b,e,a,by unfold xP;rw[a];rfl⟩)
  ·obtain⟨k,c,g,hp,_⟩:=q9 (by unfold atA at e;omega:0<=idx (xO n) m.allocs)
   have c:atA m n=k:=c;have hx:=zE g;have d:m.allocs[k].num=n:=by simpa[xO] using hp
   refine Or.inr (Or.inr ⟨k,m.allocs[k],b,c,hx,d,?_⟩);have f:m.allocs.getD (atA m n).toNat ix=m.allocs[k]:=by rw[c,Int.toNat_natCast,zD,hx];rfl
   cases hl:m.allocs[k].live with
   |false =>
    have a:yV m n=6:=by unfold yV;rw[if_neg (by simpa using b),if_pos (Or.inr (by rw[f,hl]))]
    exact Or.inl ⟨rfl,a,by unfold xP;rw[a];rfl⟩
   |true =>
    have a:yV m n=0:=by unfold yV;rw[if_neg (by simpa using b),if_neg (by rw[f,hl];simp[e])]
    exact Or.inr ⟨rfl,a,by unfold xP;rw[if_pos a,f,c];rfl⟩
 ·have a:yV m n=yq m:=by unfold yV;rw[if_pos b]
  exact Or.inl ⟨b,a,by unfold xP;rw[a,if_neg b]⟩
def Uq {b:Type}{l:List b}{x:b}(h:l[k]?=some x): k+1<=l.length/\∀ {c:Type} (g:b->c)(r:c),((l.map g).set k r)[k]?=some r:=by
 have a:=(zS.1 h).1;exact⟨a,λg r=>by simp[a]⟩
def mB (m:Me)(n:Int)(j:wfA m): zK 107 [m.a,iI n] (.tup [(xP m n).a,iI (yV m n)]):=by
 have f:=vM m j;have g:=XH m n j.1;rcases cK m n with⟨o,d,b⟩|⟨o,y,d,b⟩|⟨k,x,o,t,hx,hn,u⟩
 ·rw[d,b];obtain⟨l,next⟩:=m;refine eK [] func107 λX=>?_;go_simp;repeat'(first|(apply zd f;try go_simp)|with_reducible first|apply ai|intro)
 ·rw[d,b];obtain⟨l,next⟩:=m;refine eK [] func107 λX=>?_;go_simp;repeat'(first|((first|apply zd f|apply zd g);try go_simp)|with_reducible first|apply ai|intro)
 ·rw[t] at g;rcases u with⟨w,d,b⟩|⟨w,d,b⟩
  ·rw[d,b];obtain⟨l,next⟩:=m;refine eK [] func107 λX=>?_;go_simp;repeat'(first|((first|apply zd f|apply zd g);try go_simp)|with_reducible first|apply ai|intro)
  ·rw[d,b];unfold dn;have q:=bt m j k x hx;obtain⟨h,ze⟩:=Uq hx;replace ze:=ze Al.c;clear hn;obtain⟨l,next⟩:=m;simp only at hx h ze;refine eK [10] func107 λX=>?_;go_simp;repeat'(first|((first|apply zd f|apply zd g|(refine zi [.l 30,.l 50] 0 2 q ?_;intro e));try go_simp)|with_reducible first|apply ai|intro)
   all_goals try omega
   refine y8 [.l 50] (.l 30) k 2 (row:=[iI x.num,.bool false,.sl (.l 50) (e 1).1 5 x.cells.length (e 1).2]) (v:=.vec 5 (List.replicate x.cells.length ceZ.c)) rfl (ze _) rfl sm (SV.own rfl rfl rfl rfl sm sm (by simp[Ce.c,ceZ])) ?_;refine aO [] ?_;go_simp;exact zT sm
def fgM (m:Me): Me:=if yq m=0 then⟨m.allocs.filter Al.live,m.next⟩ else⟨[],0⟩
def w5 (l:List Al)(i:Nat): List Al:=(l.take i).filter Al.live
def oa (l:List Al)(i:Nat): (w5 l i).length<=i/\(w5 l i).length<=l.length:=by
 unfold w5;have:=List.length_filter_le Al.live (l.take i)
 simp only[List.length_take] at this;omega
def mC(h:i<l.length): w5 l (i+1)=if l[i].live=true then w5 l i++[l[i]] else w5 l i:=by
 unfold w5;rw[List.take_add_one,zE h,List.filter_append];simp[List.filter_cons];split<;>simp
def vz (l:List Al)(i:Nat): List (List AV):=(w5 l i).map Al.c++(l.map Al.c).drop (w5 l i).length
def T9 {l:List Al}{i:Nat}: (vz l i).length=l.length:=by
 have:=(oa l i).2
 unfold vz;simp;omega
def RT(h:i<l.length): (vz l i)[i]?=some (Al.c l[i]):=by
 have:=(oa l i).1
 unfold vz;rw[List.getElem?_append_right (by simpa using this),List.getElem?_drop];simp only[zU];rw[show(w5 l i).length+(i-(w5 l i).length)=i by omega];simp[h]
def Ur: vz l 0=l.map Al.c:=by simp[vz,w5]
def TA(h:i<l.length)(e:l[i].live=true): List.take (w5 l i).length (vz l i)++Al.c l[i]::List.drop ((w5 l i).length+1) (vz l i)=vz l (i+1):=by
 have a:=mC h;rw[if_pos e] at a;have hl:=(oa l i)
 have b:(vz l i).take (w5 l i).length=(w5 l i).map Al.c:=by unfold vz;rw[List.take_left' sm]
 have d:(vz l i).drop ((w5 l i).length+1)=(l.map Al.c).drop ((w5 l i).length+1):=by
  unfold vz;rw[List.drop_append];simp[List.drop_drop]
 rw[b,d];unfold vz;rw[a];simp
def Us(h:i<l.length)(b:¬l[i].live=true): vz l (i+1)=vz l i/\(w5 l (i+1)).length=(w5 l i).length:=by
 have a:=mC h;rw[if_neg b] at a;unfold vz;rw[a];exact⟨rfl,rfl⟩
def lp (m:Me)(q:wfA m): zK 277 [m.a] (.tup [(fgM m).a,iI (yq m)]):=by
 have v:=vM m q;have w:=qO m q;by_cases o:yq m=0
 ·have j:fgM m=⟨m.allocs.filter Al.live,m.next⟩:=by unfold fgM;rw[if_pos o]
  rw[j,o];obtain⟨l,next⟩:=m;obtain⟨hl,hs⟩:=q;simp only at hl hs w ⊢;clear j;refine eK [6] func277 λX=>?_;go_simp;repeat'(first|((first|apply zd v|(refine xu (.l 15) w ?_;intro c d));try go_simp)|with_reducible first|apply ai|intro)
  rename_i t u;refine Mj 5 (i:=.l 15) (b:=c) (sz:=3) (n:=0) (cap:=d) (by go_simp) ?_;refine aO [] ?_;go_simp;refine zf hP (B:=[]) (G:=Nat) (λi=>[(1,.ptr (.l 1) t 2 0 0),(2,.ptr (.l 2) u 2 0 0),(5,.so (.l 15) c 3 0 (w5 l i).length d),(20,.sl (.l 15) c 3 l.length d),(21,iI l.length),(22,iI i)])
   (λi=>[(.l 1,⟨t,1,2,27,[[.sl (.l 15) c 3 l.length d,iI next]],false⟩),(.l 2,⟨u,1,2,27,[[.nils,iI 0]],false⟩),(.l 15,⟨c,d,3,170,vz l i,false⟩)]) (λi=>i<=l.length) (λi=>l.length-i) 0 dk sm ?_ ?_ ?_
  ·go_simp;simp[w5]
  ·go_simp;simp[Ur]
  ·rintro i hi;have hle:=oa l i;go_simp;refine⟨λf=>?_,λC=>?_⟩
   ·have A:=RT f;have h:=TA f;have e:=Us f;have y:=mC f;go_simp;have z:=@T9 l i;refine⟨λg=>⟨?_,i+1,om,om,⟨?_,wrS om⟩,h g⟩,λg=>⟨i+1,om,om,⟨(e (by simp[g])).2.symm,wrS om⟩,(e (by simp[g])).1.symm⟩⟩
    ·have:=(oa l (i+1)).2
     rw[y,if_pos g] at this;simp at this;omega
    ·rw[y,if_pos g];simp
   ·obtain rfl:i=l.length:=om;unfold vz;rw[List.take_left' sm];simp[w5]
 ·have j:fgM m=⟨[],0⟩:=by unfold fgM;rw[if_neg o]
  rw[j];obtain⟨l,next⟩:=m;refine eK [] func277 λX=>?_;go_simp;repeat'(first|(apply zd v;try go_simp)|with_reducible first|apply ai|intro)
def ZD (m:Me)(n:Int)(hl:m.allocs.length<1000000): zK 202 [m.a,iI n] (iI (atA m n)):=by
 obtain⟨l,next⟩:=m;simp only at hl;unfold atA;simp only;refine eK [] func202 λX=>?_;go_simp;intro b;refine lN [] (λi=>[(1,iI n),(2,.ptr (.l 2) b 2 0 0),(5,iI i)]) (λi=>[(.l 2,⟨b,1,2,27,[Me.c ⟨l,next⟩],false⟩)]) (λi=>i<=l.length/\∀x∈l.take i,xO n x=false) (λi=>l.length-i) 0 ?_
 rintro i ⟨hi,f⟩;go_simp;refine⟨λd=>⟨_,zE d,λhn=>?_,λhn=>?_⟩,λe=>?_⟩
 ·exact(wB d (by unfold xO;simpa using hn) f).symm
 ·exact⟨i+1,⟨om,zr f d (by unfold xO;simpa using hn)⟩,om,wrS om⟩
 ·exact(ub (zx f e)).symm
inductive FC (m:Me) (p:Po) (n:Int):Prop
 |bad (h:¬yq m=0)
 |arg (h:yq m=0) (h1:p.al<0\/m.next<=p.al\/n<1\/2<n)
 |gone (h:yq m=0) (h1:¬(p.al<0\/m.next<=p.al\/n<1\/2<n)) (h2:atA m p.al<0)
 |out (k:Nat) (x:Al) (h:yq m=0) (h1:¬(p.al<0\/m.next<=p.al\/n<1\/2<n)) (h2:atA m p.al=k) (hx:m.allocs[k]?=some x) (h3:p.off<0\/(x.cells.length:Int)-n<p.off)
 |dead (k:Nat) (x:Al) (h:yq m=0) (h1:¬(p.al<0\/m.next<=p.al\/n<1\/2<n)) (h2:atA m p.al=k) (hx:m.allocs[k]?=some x) (h3:¬(p.off<0\/(x.cells.length:Int)-n<p.off)) (h4:x.live=false)
 |ok (k:Nat) (x:Al) (h:yq m=0) (h1:¬(p.al<0\/m.next<=p.al\/n<1\/2<n)) (h2:atA m p.al=k) (hx:m.allocs[k]?=some x) (h3:¬(p.off<0\/(x.cells.length:Int)-n<p.off)) (h4:x.live=true)
def fc (m:Me)(p:Po)(n:Int): FC m p n:=by
 by_cases h:yq m=0
 ·by_cases a:p.al<0\/m.next<=p.al\/n<1\/2<n
  ·exact .arg h a
  ·by_cases e:atA m p.al<0
   ·exact .gone h a e
   ·obtain⟨k,c,d,hp,_⟩:=q9 (by unfold atA at e;omega:0<=idx (xO p.al) m.allocs)
    have hx:=zE d;by_cases b:p.off<0\/(m.allocs[k].cells.length:Int)-n<p.off
    ·exact .out k _ h a c hx b
    ·cases f:m.allocs[k].live with
     |false=>exact .dead k _ h a c hx b f
     |true=>exact .ok k _ h a c hx b f
 ·exact .bad h
def dp (m:Me)(p:Po): Al:=m.allocs.getD (atA m p.al).toNat ix
def fdE (m:Me)(p:Po)(n:Int): Int :=
 if ¬yq m=0 then yq m else if p.al<0\/m.next<=p.al\/n<1\/2<n then 2 else if atA m p.al<0 then 0 else if p.off<0\/((dp m p).cells.length:Int)-n<p.off then 6 else 0
def fdL (m:Me)(p:Po)(n:Int): List Ce:=if ¬fdE m p n=0\/atA m p.al<0\/(dp m p).live=false then [] else((dp m p).cells.drop p.off.toNat).take n.toNat
def qP (m:Me)(p:Po)(n:Int): Int:=if ¬fdE m p n=0\/atA m p.al<0 then -1 else atA m p.al
def sP(a:atA m p.al=k)(hx:m.allocs[k]?=some x): dp m p=x:=by
 unfold dp;rw[a,Int.toNat_natCast,zD,hx];rfl
def lT(h:¬yq m=0): fdE m p n=yq m/\fdL m p n = []/\qP m p n = -1:=by
 have e:fdE m p n=yq m:=by unfold fdE;rw[if_pos h]
 exact⟨e,by unfold fdL;rw[if_pos (Or.inl (by rw[e];exact h))],by unfold qP;rw[if_pos (Or.inl (by rw[e];exact h))]⟩
def lU(h:yq m=0)(a:p.al<0\/m.next<=p.al\/n<1\/2<n): fdE m p n=2/\fdL m p n = []/\qP m p n = -1:=by
 have e:fdE m p n=2:=by unfold fdE;rw[if_neg (by simpa using h),if_pos a]
 exact⟨e,by unfold fdL;rw[if_pos (Or.inl (by rw[e];decide))],by unfold qP;rw[if_pos (Or.inl (by rw[e];decide))]⟩
def jo(h:yq m=0)(b:¬(p.al<0\/m.next<=p.al\/n<1\/2<n))(a:atA m p.al<0): fdE m p n=0/\fdL m p n = []/\qP m p n = -1:=by
 have e:fdE m p n=0:=by unfold fdE;rw[if_neg (by simpa using h),if_neg b,if_pos a]
 exact⟨e,by unfold fdL;rw[if_pos (Or.inr (Or.inl a))],by unfold qP;rw[if_pos (Or.inr a)]⟩
def gT(h:yq m=0)(a:¬(p.al<0\/m.next<=p.al\/n<1\/2<n))(b:atA m p.al=k)(hx:m.allocs[k]?=some x)(c:p.off<0\/(x.cells.length:Int)-n<p.off): fdE m p n=6/\fdL m p n = []/\qP m p n = -1:=by
 have e:fdE m p n=6:=by unfold fdE;rw[if_neg (by simpa using h),if_neg a,if_neg om,sP b hx,if_pos c]
 exact⟨e,by unfold fdL;rw[if_pos (Or.inl (by rw[e];decide))],by unfold qP;rw[if_pos (Or.inl (by rw[e];decide))]⟩
def jp(h:yq m=0)(b:¬(p.al<0\/m.next<=p.al\/n<1\/2<n))(a:atA m p.al=k)(hx:m.allocs[k]?=some x)(c:¬(p.off<0\/(x.cells.length:Int)-n<p.off))(d:x.live=false): fdE m p n=0/\fdL m p n = []/\qP m p n=k:=by
 have e:fdE m p n=0:=by unfold fdE;rw[if_neg (by simpa using h),if_neg b,if_neg om,sP a hx,if_neg c]
 exact⟨e,by unfold fdL;rw[if_pos (Or.inr (Or.inr (by rw[sP a hx];exact d)))],by unfold qP;rw[if_neg (by rw[e];omega),a]⟩
def Ut(h:yq m=0)(b:¬(p.al<0\/m.next<=p.al\/n<1\/2<n))(a:atA m p.al=k)(hx:m.allocs[k]?=some x)(c:¬(p.off<0\/(x.cells.length:Int)-n<p.off))(d:x.live=true): fdE m p n=0/\fdL m p n=(x.cells.drop p.off.toNat).take n.toNat/\qP m p n=k:=by
 have e:fdE m p n=0:=by unfold fdE;rw[if_neg (by simpa using h),if_neg b,if_neg om,sP a hx,if_neg c]
 exact⟨e,by unfold fdL;rw[if_neg (by rw[e,sP a hx,d];simp;omega),sP a hx],by unfold qP;rw[if_neg (by rw[e];omega),a]⟩
def cL (p:Po)(l:List Al): yF 416 [.rp [iI p.al,iI p.off,iI p.tag]] Al.a (xO p.al) l:=⟨by go_simp,λx hx=>by
 have d:xO p.al x=(x.num==p.al):=rfl;rw[d];obtain⟨a,b,c⟩:=x;refine eK [] func416 λX=>?_;go_simp⟩
def gU (m:Me)(p:Po)(n:Int)(w:wfA m): zK 369 [m.a,p.a,iI n] (.tup [vCe_ (fdL m p n),iI (fdE m p n)]):=by
 have t:=vM m w;have o:=rG (cL p m.allocs) w.1;rw[show idx (xO p.al) m.allocs=atA m p.al from rfl] at o;rcases fc m p n with h|⟨h,d⟩|⟨h,d,j⟩|⟨k,x,h,d,j,hx,g⟩|⟨k,x,h,d,j,hx,g,C⟩|⟨k,x,h,d,j,hx,g,C⟩
 ·obtain⟨e,f,_⟩:=lT (p:=p) (n:=n) h;rw[e,f];obtain⟨l,next⟩:=m;refine eK [] func369 λX=>?_;go_simp;repeat'(first|(apply zd t;try go_simp)|with_reducible first|apply ai|intro)
 ·obtain⟨e,f,_⟩:=lU h d;rw[e,f];obtain⟨l,next⟩:=m;obtain⟨b,c,A⟩:=p;simp only at d;rcases(by omega:b<0\/(¬b<0/\next<=b)\/(¬b<0/\¬next<=b/\n<1)\/(¬b<0/\¬next<=b/\¬n<1/\2<n)) with q|⟨u,v⟩|⟨u,v,z⟩|⟨u,v,z,B⟩;all_goals refine eK [] func369 λX=>?_;go_simp
  all_goals repeat'(first|(apply zd t;try go_simp)|with_reducible first|apply ai|intro)
 ·obtain⟨e,f,_⟩:=jo h d j;rw[e,f];obtain⟨l,next⟩:=m;obtain⟨b,c,A⟩:=p;simp only at d;obtain⟨u,v,z,B⟩:¬b<0/\¬next<=b/\¬n<1/\¬2<n:=om
  refine eK [6] func369 λX=>?_;go_simp;repeat'(first|(apply zd t;try go_simp)|with_reducible first|apply ai|intro)
  refine z5 [.l 4] 4 (SV.ptr rfl rfl rfl rfl sm rfl) ?_;refine aO [] ?_;go_simp;repeat'(first|(apply zd o;try go_simp)|with_reducible first|apply ai|intro)
 ·obtain⟨e,f,_⟩:=gT h d j hx g;rw[e,f];rw[j] at o;have y:x.cells.length<1000000:=w.2 _ (zF hx);obtain⟨l,next⟩:=m;obtain⟨b,c,A⟩:=p;simp only at d g hx;obtain⟨u,v,z,B⟩:¬b<0/\¬next<=b/\¬n<1/\¬2<n:=om
  have D:¬(k:Int)<0:=om;have G:IntKind.i64.wrap ((x.cells.length:Int)-n)=x.cells.length-n:=AM.Tf om;rcases(by omega:c<0\/(¬c<0/\(x.cells.length:Int)-n<c)) with r|⟨E,F⟩;all_goals clear g
  all_goals refine eK [6] func369 λX=>?_;go_simp
  all_goals repeat'(first|(apply zd t;try go_simp)|with_reducible first|apply ai|intro)
  all_goals refine z5 [.l 4] 4 (SV.ptr rfl rfl rfl rfl sm rfl) ?_
  all_goals refine aO [] ?_
  all_goals go_simp
  all_goals repeat'(first|(apply zd o;try go_simp)|with_reducible first|apply ai|intro)
 ·obtain⟨e,f,_⟩:=jp h d j hx g C;rw[e,f];rw[j] at o;have y:x.cells.length<1000000:=w.2 _ (zF hx);obtain⟨l,next⟩:=m;obtain⟨b,c,A⟩:=p;simp only at d g hx;obtain⟨u,v,z,B⟩:¬b<0/\¬next<=b/\¬n<1/\¬2<n:=om
  have D:¬(k:Int)<0:=om;have G:IntKind.i64.wrap ((x.cells.length:Int)-n)=x.cells.length-n:=AM.Tf om;obtain⟨E,F⟩:¬c<0/\¬(x.cells.length:Int)-n<c:=om;clear g;refine eK [6] func369 λX=>?_;go_simp;repeat'(first|(apply zd t;try go_simp)|with_reducible first|apply ai|intro)
  refine z5 [.l 4] 4 (SV.ptr rfl rfl rfl rfl sm rfl) ?_;refine aO [] ?_;go_simp;repeat'(first|(apply zd o;try go_simp)|with_reducible first|apply ai|intro)
  all_goals try omega
 ·obtain⟨e,f,_⟩:=Ut h d j hx g C;rw[e,f];rw[j] at o;have y:x.cells.length<1000000:=w.2 _ (zF hx);obtain⟨l,next⟩:=m;obtain⟨b,c,A⟩:=p;simp only at d g hx;obtain⟨u,v,z,B⟩:¬b<0/\¬next<=b/\¬n<1/\¬2<n:=om
  have D:¬(k:Int)<0:=om;have G:IntKind.i64.wrap ((x.cells.length:Int)-n)=x.cells.length-n:=AM.Tf om;obtain⟨E,F⟩:¬c<0/\¬(x.cells.length:Int)-n<c:=om;have H:IntKind.i64.wrap (c+n)=c+n:=AM.Tf om;clear g;refine eK [6] func369 λX=>?_;go_simp;repeat'(first|(apply zd t;try go_simp)|with_reducible first|apply ai|intro)
  refine z5 [.l 4] 4 (SV.ptr rfl rfl rfl rfl sm rfl) ?_;refine aO [] ?_;go_simp;repeat'(first|(apply zd o;try go_simp)|with_reducible first|apply ai|intro)
  all_goals try omega
  rw[List.drop_take,show(c+n).toNat-c.toNat=n.toNat by omega]
def ldW (m:Me)(p:Po)(n:Int): Int:=if ¬fdE m p n=0 then 0 else if fdL m p n = [] then 3 else if(fdL m p n).any (eqC ceZ) then 4 else 0
def ldL (m:Me)(p:Po)(n:Int): List Ce:=if fdE m p n=0/\ldW m p n=0 then fdL m p n else []
def OR (m:Me)(p:Po)(n:Int): (fdL m p n).length<=n.toNat:=by unfold fdL;split<;>simp<;>omega
def MN (m:Me)(p:Po)(n:Int): (fdL m p n).length<=2:=by
 have:=OR m p n
 by_cases h:fdE m p n=0
 ·rcases fc m p n with a|⟨a,b⟩|⟨a,b,c⟩|⟨k,x,a,b,c,hx,d⟩|⟨k,x,a,b,c,hx,d,e⟩|⟨k,x,a,b,c,hx,d,e⟩
  ·rw[(lT a).2.1];simp
  ·rw[(lU a b).2.1];simp
  all_goals omega
 ·unfold fdL;rw[if_pos (Or.inl h)];simp
def su (m:Me)(p:Po)(n:Int)(t:wfA m): zK 270 [m.a,p.a,iI n] (.tup [vCe_ (ldL m p n),iU (ldW m p n),iI (fdE m p n)]):=by
 have b:=gU m p n t;have q:=MN m p n;have c:=MH (fdL m p n) ceZ om;have o:=xE (yb Ce.one (fdL m p n)) (by simp;omega);unfold ldL ldW;obtain⟨l,next⟩:=m;obtain⟨u,v,w⟩:=p;generalize fdE _ _ _=e at *;generalize fdL _ _ _=f at *;by_cases d:e=0
 ·subst d;by_cases j:f = []
  ·subst j;refine eK [] func270 λX=>?_;go_simp;repeat'(first|(apply zd b;try go_simp)|with_reducible first|apply ai|intro)
  ·have hn:¬f.length=0:=λh=>j (List.length_eq_zero_iff.1 h);cases g:f.any (eqC ceZ) with
   |true =>
    rw[g] at c;refine eK [] func270 λX=>?_;go_simp;repeat'(first|((first|apply zd b|apply zd c);try go_simp)|with_reducible first|apply ai|intro)
    all_goals try omega
   |false =>
    rw[g] at c;refine eK [] func270 λX=>?_;go_simp;repeat'(first|((first|apply zd b|apply zd c|apply zd o);try go_simp)|with_reducible first|apply ai|intro)
    all_goals try omega
 ·rw[if_neg (by simp[d]),if_pos d];refine eK [] func270 λX=>?_;go_simp;repeat'(first|(apply zd b;try go_simp)|with_reducible first|apply ai|intro)
def dq (l:List Al)(n i:Nat)(R:List AV): List (List AV):=if i<=n then(l.take i).map Al.c else((l.take i).map Al.c).set n R
def stE (m:Me)(p:Po)(l:List Ce): Int:=if ¬fdE m p l.length=0 then fdE m p l.length else if l.all xg then 0 else 8
def stW (m:Me)(p:Po)(l:List Ce): Int:=if ¬stE m p l=0 then 0 else if fdL m p l.length = [] then 3 else 0
def lV (x:Al)(o:Nat)(l:List Ce): Al:=⟨x.num,x.live,x.cells.take o++(l++x.cells.drop (o+l.length))⟩
def stM (m:Me)(p:Po)(l:List Ce): Me:=if stE m p l=0/\stW m p l=0 then⟨m.allocs.set (atA m p.al).toNat (lV (dp m p) p.off.toNat l),m.next⟩ else⟨[],0⟩
def Pd{l:List Ce}(h:¬fdE m p l.length=0): stE m p l=fdE m p l.length/\stW m p l=0/\stM m p l=⟨[],0⟩:=by
 have e:stE m p l=fdE m p l.length:=by unfold stE;rw[if_pos h]
 exact⟨e,by unfold stW;rw[if_pos (by rw[e];exact h)],by unfold stM;rw[if_neg (by rw[e];exact λz=>h z.1)]⟩
def MP{l:List Ce}(h:fdE m p l.length=0)(a:l.all xg=false): stE m p l=8/\stW m p l=0/\stM m p l=⟨[],0⟩:=by
 have e:stE m p l=8:=by unfold stE;rw[if_neg (by simpa using h),a];rfl
 exact⟨e,by unfold stW;rw[if_pos (by rw[e];decide)],by unfold stM;rw[if_neg (by rw[e];simp)]⟩
def WJ{l:List Ce}(h:fdE m p l.length=0)(a:l.all xg=true)(b:fdL m p l.length = []): stE m p l=0/\stW m p l=3/\stM m p l=⟨[],0⟩:=by
 have e:stE m p l=0:=by unfold stE;rw[if_neg (by simpa using h),a];rfl
 have w:stW m p l=3:=by unfold stW;rw[if_neg (by rw[e];simp),if_pos b]
 exact⟨e,w,by unfold stM;rw[if_neg (by rw[w];simp)]⟩
def Pe{l:List Ce}(h:yq m=0)(d:¬(p.al<0\/m.next<=p.al\/(l.length:Int)<1\/2<(l.length:Int)))(a:atA m p.al=k)(hx:m.allocs[k]?=some x)(f:¬(p.off<0\/(x.cells.length:Int)-l.length<p.off))(g:x.live=true)(j:l.all xg=true):
  stE m p l=0/\stW m p l=0/\stM m p l=⟨m.allocs.set k (lV x p.off.toNat l),m.next⟩:=by
 obtain⟨b,c,o⟩:=Ut h d a hx f g;have e:stE m p l=0:=by unfold stE;rw[if_neg (by simpa using b),j];rfl
 have w:stW m p l=0:=by unfold stW;rw[if_neg (by rw[e];simp),if_neg (by rw[c];intro z;have:=congrArg List.length z;simp only[List.length_take,List.length_drop,List.length_nil,Int.toNat_natCast] at this;omega)]
 exact⟨e,w,by unfold stM;rw[if_pos ⟨e,w⟩,sP a hx,a,Int.toNat_natCast]⟩
def wrL (cs:List Ce)(o:Nat)(l:List Ce)(j:Nat): List Ce:=cs.take o++(l.take j++cs.drop (o+j))
def cM {c:Type}{p:c->Bool}: ∀ {l:List c},l.all p=false->∃j,∃h:j<l.length,(∀i (hi:i<j),p (l[i]'om)=true)/\p l[j]=false
 |[],h=>by simp at h
 |a::l,h=>by
  cases b:p a with
  |false=>exact⟨0,sm,λi hi=>by omega,b⟩
  |true =>
   simp only[List.all_cons,b,Bool.true_and] at h;obtain⟨j,f,d,e⟩:=cM h;refine⟨j+1,by simpa using f,λi hi=>?_,by simpa using e⟩;cases i with
   |zero=>simpa using b
   |succ i=>simpa using d i om
end Go.Proofs.YtllodfoldffonaaGreatDoor
