/- A part of the proof. -/
import Derived.Test.YtllodfoldffonaaGreatDoorQ13
import Derived.Test.YtllodfoldffonaaGreatDoorQ14
namespace Go.Proofs.YtllodfoldffonaaGreatDoor
open Tryz AM Go.RowKit
set_option linter.unusedSimpArgs false
set_option linter.unusedVariables false
set_option linter.defProp false
set_option maxRecDepth 100000
set_option maxHeartbeats 16000000
variable {k:Nat}{l:List Ce}{m:Me}{n:Int}{p:Pr}{q:Po}{s:Sa}{t:Ty}
def Rj {X:Nat->Prop}{w:World}{b:Nat}: ∀ {n off:Nat},RR X w b off 1 (List.replicate n [.nils])->RR X w b off 1 (List.replicate n [.vec 3 []])
 |0,_,_=>trivial
 |n+1,off,h=>by
  simp only[List.replicate_succ,RR] at h ⊢;obtain⟨_,⟨cs,a,e⟩,f⟩:=h;refine⟨rfl,⟨cs,?_,e⟩,Rj f⟩;simp only[RL] at a ⊢;obtain⟨c,r,rfl,d,g⟩:=a;refine⟨c,r,rfl,?_,g⟩;simp only[RV] at d ⊢;subst d;exact⟨none,0,rfl,Nat.le_refl _,om,λ_=>rfl,λp h _=>by cases h⟩
def Ql {H:Hp}{L:List AM.Id}{i:AM.Id}{b n cap:Nat}{o:Ob}(z:H i=some o)(g:o.b=b)(h:o.cap=cap)(j:o.sz=1)(r:n<=o.rows.length)(u:i∈L)(x:o.rows.take n=List.replicate n [.nils]): SV H L (.sl i b 1 n cap) (.vec 1 (List.replicate n [.vec 3 []])):=λX w v y A=>by
 have:=SV.own z g h j r u x X w v y A
 simp only[RV] at this ⊢;obtain⟨a,c,rfl,k1,B,C,D⟩:=this;refine⟨a,c,sm,by simpa using k1,B,C,λp hp d=>?_⟩;obtain⟨f,off,E,F,G,I⟩:=D p hp (λe=>d (by have:=congrArg List.length e;simp at this;rw[this];rfl));exact⟨f,off,E,F,G,Rj I⟩
def d9 (l:List Ss)(n i:Nat)(R:List AV): List (List AV):=if i<=n then l.map Ss.c else(l.map Ss.c).set n R
def ssO (x:Ss)(b c:Nat): List AV:=[iI x.num,.sl (.l 90) b 1 x.cells.length c]
def dA (m:Mo)(Z:wfM m)(n:Nat)(x:Ss)(hx:m.stacks[n]?=some x): zG 187 2 (λ_=>[m.a]) (λ_=>[])
  (λι q=>.agg [vAl_ m.mem.allocs,iI m.mem.next,.sl (ι 0) (q 0).1 2 m.stacks.length (q 0).2,vCi_ m.running,iI m.ntag,iI m.ncall])
  (λι q=>[⟨(q 0).1,(q 0).2,2,124,(m.stacks.map Ss.c).set n [iI x.num,.sl (ι 1) (q 1).1 1 x.cells.length (q 1).2],false⟩,⟨(q 1).1,(q 1).2,1,126,x.cells.map sk,false⟩]):=by
 obtain⟨⟨l,next⟩,st,rn,nt,nc⟩:=m;obtain⟨⟨hl,hs⟩,S,T,R⟩:=Z;simp only at *;obtain⟨Y,Q⟩:=zS.1 hx;have W:=tc (yb Al.one l) (by simpa using hl);have P:=sX (yb Ss.one st) (by simpa using S);have O:=m9 (yb tE rn) (by simpa using R);refine eG [5,7] func187 λX=>?_;go_simp;repeat'(first|(refine xu (.l 9) W ?_;intro M N;try go_simp)|with_reducible first|apply ai|intro)
 rename_i y A;refine lN [5,7] (λi=>[(1,.ptr (.l 1) y 6 0 0),(2,.ptr (.l 2) A 6 0 0),(15,iI l.length),(16,iI i)]) (λi=>[(.l 1,⟨y,1,6,31,[[.sl (.l 9) M 3 l.length N,iI next,vSs_ st,vCi_ rn,iI nt,iI nc]],false⟩),(.l 2,⟨A,1,6,31,[[.nils,iI 0,.nils,.nils,iI 0,iI 0]],false⟩),(.l 9,⟨M,N,3,170,l.map Al.c,false⟩)]) (λi=>i<=l.length) (λi=>l.length-i) 0 ?_
 rintro i hi;by_cases e:i<l.length
 ·have J:=xE (yb Ce.one l[i].cells) (by simpa using hs _ (zM e));go_simp;refine zh hP ⟨[(20,.l 1,0),(24,.l 1,0),(28,.l 9,2),(32,.l 9,2)],false⟩ dk ?_;go_simp;repeat'(first|(apply zd J;try go_simp)|with_reducible first|apply ai|intro)
  refine⟨i+1,om,om,wrS om,wL e rfl⟩
 ·obtain rfl:i=l.length:=om;go_simp;refine yU [.l 9] (.l 1) 0 0 (row:=[.sl (.l 9) M 3 l.length N,iI next,vSs_ st,vCi_ rn,iI nt,iI nc]) (v:=vAl_ l) ?_;refine aO [11,15,17] ?_;go_simp;repeat'(first|(refine xu (.l 36) P ?_;intro f g;try go_simp)|with_reducible first|apply ai|intro)
  refine zf hP (B:=[11,15,17]) (G:=Nat×Nat×Nat) (λv=>[(1,.ptr (.l 1) y 6 0 0),(2,.ptr (.l 2) A 6 0 0),(40,iI st.length),(41,iI v.1)])
   (λv=>[(.l 1,⟨y,1,6,31,[[vAl_ l,iI next,.sl (.l 36) f 2 st.length g,vCi_ rn,iI nt,iI nc]],false⟩),(.l 2,⟨A,1,6,31,[[.nils,iI 0,.nils,.nils,iI 0,iI 0]],false⟩),(.l 36,⟨f,g,2,124,d9 st n v.1 (ssO x v.2.1 v.2.2),false⟩)]++(if v.1<=n then [] else [(.l 90,⟨v.2.1,v.2.2,1,126,x.cells.map sk,false⟩)])) (λv=>v.1<=st.length) (λv=>st.length-v.1) (0,0,0) dk sm ?_ ?_ ?_
  ·go_simp
  ·go_simp;unfold d9;simp
  ·rintro⟨i,C,D⟩ hi;simp only at hi;by_cases e:i<st.length
   ·obtain⟨U,I⟩:=T _ (zM e);have J:=qe (yb gW st[i].cells) (by simpa using U);rcases Nat.lt_trichotomy i n with H|H|H
    ·have E:i<=n:=om;have F:i+1<=n:=om;have ze:((st.map Ss.c).set i [iI st[i].num,vSk_ st[i].cells])=(st.map Ss.c):=wL e rfl;have u:∀r,((st.map Ss.c).set i r)[i]?=some r:=λr=>by simp[e]
     simp only[if_pos E,d9];go_simp;refine wA hP ⟨[(45,.l 1,2),(48,.l 1,2),(52,.l 36,1),(55,.l 36,1)],false⟩ [53] dk ?_;go_simp;repeat'(first|(refine xM J ?_;intro _ _;try go_simp)|with_reducible first|apply ai|intro)
     rename_i j o;refine lN [15] (λk=>[(1,.ptr (.l 1) y 6 0 0),(2,.ptr (.l 2) A 6 0 0),(4,iI i),(40,iI st.length),(41,iI i),(62,iI st[i].cells.length),(63,iI k)]) (λk=>[(.l 1,⟨y,1,6,31,[[vAl_ l,iI next,.sl (.l 36) f 2 st.length g,vCi_ rn,iI nt,iI nc]],false⟩),(.l 2,⟨A,1,6,31,[[.nils,iI 0,.nils,.nils,iI 0,iI 0]],false⟩),(.l 36,⟨f,g,2,124,(st.map Ss.c).set i [iI st[i].num,.sl (.l 53) j 1 st[i].cells.length o],false⟩),(.l 53,⟨j,o,1,126,st[i].cells.map sk,false⟩)]) (λk=>k<=st[i].cells.length) (λk=>st[i].cells.length-k) 0 ?_
     rintro k K;by_cases b:k<st[i].cells.length
     ·have d:=wT (yb It.one st[i].cells[k]) (by simpa using I _ (zM b));have w:((st[i].cells.map sk).set k [vIt_ st[i].cells[k]])=st[i].cells.map sk:=wL b rfl;go_simp;refine zh hP ⟨[(67,.l 1,2),(71,.l 36,1),(74,.l 1,2),(78,.l 36,1),(81,.l 53,0),(83,.l 53,0)],false⟩ dk ?_;go_simp;repeat'(first|(apply zd d;try go_simp)|with_reducible first|apply ai|intro)
      exact⟨k+1,om,om,wrS om⟩
     ·have d:k=st[i].cells.length:=om;subst d;go_simp;refine y8 [.l 53] (.l 36) i 1 (row:=[iI st[i].num,.sl (.l 53) j 1 st[i].cells.length o]) (v:=vSk_ st[i].cells) rfl (u _) rfl sm (SV.own rfl rfl rfl rfl sm sm (zT sm)) ?_;refine aO [] ?_;go_simp;refine⟨i+1,om,om,wrS om,0,0,λh=>absurd h om,?_⟩;rw[if_pos F];go_simp
    ·subst H;obtain rfl:=Q;have E:i<=i:=om;have F:¬i+1<=i:=om;have ze:((st.map Ss.c).set i [iI st[i].num,vSk_ st[i].cells])=(st.map Ss.c):=wL e rfl;have u:∀r,((st.map Ss.c).set i r)[i]?=some r:=λr=>by simp[e]
     simp only[if_pos E,d9];go_simp;refine wA hP ⟨[(45,.l 1,2),(48,.l 1,2),(52,.l 36,1),(55,.l 36,1)],false⟩ [53] dk ?_;go_simp;repeat'(first|(refine xM J ?_;intro _ _;try go_simp)|with_reducible first|apply ai|intro)
     rename_i j o;refine lN [15] (λk=>[(1,.ptr (.l 1) y 6 0 0),(2,.ptr (.l 2) A 6 0 0),(4,iI i),(40,iI st.length),(41,iI i),(62,iI st[i].cells.length),(63,iI k)]) (λk=>[(.l 1,⟨y,1,6,31,[[vAl_ l,iI next,.sl (.l 36) f 2 st.length g,vCi_ rn,iI nt,iI nc]],false⟩),(.l 2,⟨A,1,6,31,[[.nils,iI 0,.nils,.nils,iI 0,iI 0]],false⟩),(.l 36,⟨f,g,2,124,(st.map Ss.c).set i [iI st[i].num,.sl (.l 53) j 1 st[i].cells.length o],false⟩),(.l 53,⟨j,o,1,126,st[i].cells.map sk,false⟩)]) (λk=>k<=st[i].cells.length) (λk=>st[i].cells.length-k) 0 ?_
     rintro k K;by_cases b:k<st[i].cells.length
     ·have d:=wT (yb It.one st[i].cells[k]) (by simpa using I _ (zM b));have w:((st[i].cells.map sk).set k [vIt_ st[i].cells[k]])=st[i].cells.map sk:=wL b rfl;go_simp;refine zh hP ⟨[(67,.l 1,2),(71,.l 36,1),(74,.l 1,2),(78,.l 36,1),(81,.l 53,0),(83,.l 53,0)],false⟩ dk ?_;go_simp;repeat'(first|(apply zd d;try go_simp)|with_reducible first|apply ai|intro)
      exact⟨k+1,om,om,wrS om⟩
     ·have d:k=st[i].cells.length:=om;subst d;go_simp;refine sT (.l 53) (.l 90) (.l 36) i 1 (row:=[iI st[i].num,.sl (.l 53) j 1 st[i].cells.length o]) rfl rfl rfl (by decide) (u _) rfl ?_;refine aO [] ?_;go_simp;refine⟨i+1,om,om,wrS om,j,o,?_,?_⟩
      ·rw[if_neg F];rfl
      ·rw[if_neg F];go_simp
    ·have E:¬i<=n:=om;have F:¬i+1<=n:=om;have L:¬n=i:=om;have ze:(((st.map Ss.c).set n (ssO x C D)).set i [iI st[i].num,vSk_ st[i].cells])=((st.map Ss.c).set n (ssO x C D)):=by rw[List.set_comm _ _ L];exact congrArg (λz=>List.set z n (ssO x C D)) (wL e rfl)
     have u:∀r,(((st.map Ss.c).set n (ssO x C D)).set i r)[i]?=some r:=λr=>by simp[e]
     simp only[if_neg E,d9];have V:((st.map Ss.c).set n (ssO x C D))[i]?=some (Ss.c st[i]):=by rw[List.getElem?_set,if_neg L];simp[e]
     go_simp;refine wA hP ⟨[(45,.l 1,2),(48,.l 1,2),(52,.l 36,1),(55,.l 36,1)],false⟩ [53] dk ?_;go_simp;repeat'(first|(refine xM J ?_;intro _ _;try go_simp)|with_reducible first|apply ai|intro)
     rename_i j o;refine lN [15] (λk=>[(1,.ptr (.l 1) y 6 0 0),(2,.ptr (.l 2) A 6 0 0),(4,iI i),(40,iI st.length),(41,iI i),(62,iI st[i].cells.length),(63,iI k)]) (λk=>[(.l 1,⟨y,1,6,31,[[vAl_ l,iI next,.sl (.l 36) f 2 st.length g,vCi_ rn,iI nt,iI nc]],false⟩),(.l 2,⟨A,1,6,31,[[.nils,iI 0,.nils,.nils,iI 0,iI 0]],false⟩),(.l 36,⟨f,g,2,124,((st.map Ss.c).set n (ssO x C D)).set i [iI st[i].num,.sl (.l 53) j 1 st[i].cells.length o],false⟩),(.l 53,⟨j,o,1,126,st[i].cells.map sk,false⟩),(.l 90,⟨C,D,1,126,x.cells.map sk,false⟩)]) (λk=>k<=st[i].cells.length) (λk=>st[i].cells.length-k) 0 ?_
     rintro k K;by_cases b:k<st[i].cells.length
     ·have d:=wT (yb It.one st[i].cells[k]) (by simpa using I _ (zM b));have w:((st[i].cells.map sk).set k [vIt_ st[i].cells[k]])=st[i].cells.map sk:=wL b rfl;go_simp;refine zh hP ⟨[(67,.l 1,2),(71,.l 36,1),(74,.l 1,2),(78,.l 36,1),(81,.l 53,0),(83,.l 53,0)],false⟩ dk ?_;go_simp;repeat'(first|(apply zd d;try go_simp)|with_reducible first|apply ai|intro)
      exact⟨k+1,om,om,wrS om⟩
     ·have d:k=st[i].cells.length:=om;subst d;go_simp;refine y8 [.l 53] (.l 36) i 1 (row:=[iI st[i].num,.sl (.l 53) j 1 st[i].cells.length o]) (v:=vSk_ st[i].cells) rfl (u _) rfl sm (SV.own rfl rfl rfl rfl sm sm (zT sm)) ?_;refine aO [] ?_;go_simp;refine⟨i+1,om,om,wrS om,C,D,?_,?_⟩
      ·rw[if_neg F]
      ·rw[if_neg F];go_simp
   ·obtain rfl:i=st.length:=om;have E:¬st.length<=n:=om;simp only[if_neg E,d9];go_simp;repeat'(first|(apply zd O;try go_simp)|with_reducible first|apply ai|intro)
    exact⟨[.l 36,.l 90],dk,λk=>if k=0 then(f,g) else(C,D),⟨OB,OB,trivial⟩,⟨rfl,rfl,rfl⟩,rfl⟩
def n5 (m:Mo)(n:Int)(g:MoV m): zK 108 [m.a,iI n] (.tup [(mEd m n).1.a,iU (mEd m n).2.1,iI (mEd m n).2.2]):=by
 have d:=g.wf;have j:=wb m d;rw[mD.2 g] at j;have o:=mB m.mem n d.me;have i:=px m n d.sl;rw[jr g] at i;by_cases e:yV m.mem n=0
 ·obtain⟨_,k,x,A,hx,_,hl,_⟩:=kc e;obtain⟨y,u,b⟩:=g.at hx;have f:=XG y m.running (d.st _ (zF u)) d.rn;have z:dlE y m.running=0:=by unfold dlE;rw[if_neg (by simpa using g.rn)];exact b.ok
  have D:m.stacks.getD (atA m.mem n).toNat ⟨0,[]⟩=y:=by rw[A,Int.toNat_natCast,zD,u];rfl
  have r:mEd m n=if xF y m.running=false then(moZ,2,0) else(⟨xP m.mem n,m.stacks.set k ⟨y.num,List.replicate y.cells.length []⟩,m.running,m.ntag,m.ncall⟩,0,0):=by
   unfold mEd;rw[if_neg (by simpa using e),D,A];rfl
  have C:dlW y m.running=if xF y m.running=false then 2 else 0:=by unfold dlW;rw[if_neg (by simpa using z)];cases xF y m.running<;>rfl
  have G:=dA m d k y u;rw[r];rw[e] at o;rw[A] at i;rw[z,C] at f;have I:=(gR b.ok).1;clear D r b C z e;generalize xF y m.running=F at *;generalize xP m.mem n=w at *;obtain⟨⟨l,next⟩,st,rn,nt,nc⟩:=m;obtain⟨J,c⟩:=w;obtain⟨K,E⟩:=y;simp only at *;obtain⟨B,H⟩:=zS.1 u;cases F with
  |false =>
   simp only[if_true] at f ⊢;refine eK [] func108 λX=>?_;go_simp;repeat'(first|((first|apply zd j|apply zd o|apply zd i|apply zd f);try go_simp)|with_reducible first|apply ai|intro)
  |true =>
   simp only[Bool.true_eq_false,if_false] at f ⊢;refine eK [14] func108 λX=>?_;go_simp;repeat'(first|((first|apply zd j|apply zd o|apply zd i|apply zd f|(refine zi [.l 49,.l 91] 0 2 G ?_;intro h));try go_simp)|with_reducible first|apply ai|intro)
   refine y8 [.l 91] (.l 49) k 1 (row:=[iI K,.sl (.l 91) (h 1).1 1 E.length (h 1).2]) (v:=.vec 1 (List.replicate E.length [.vec 3 []])) rfl (by simp[B]) rfl sm (Ql rfl rfl rfl rfl sm sm sm) ?_;refine aO [] ?_;go_simp;exact zT sm
 ·have r:mEd m n=(moZ,0,yV m.mem n):=by unfold mEd;rw[if_pos e]
  rw[r];have hb:=z4 e;generalize xP m.mem n=w at *;generalize yV m.mem n=er at *;obtain⟨⟨l,next⟩,st,rn,nt,nc⟩:=m;obtain⟨J,c⟩:=w;refine eK [] func108 λX=>?_;go_simp;repeat'(first|((first|apply zd j|apply zd o);try go_simp)|with_reducible first|apply ai|intro)
def u7 (nt nc:Int)(live:Bool)(s:List It): Bool:=s.all (tS nt nc live)
def ZW (nt nc:Int)(live:Bool)(s:List It)(k:Nat): Prop:=∀i∈s.take k,tS nt nc live i=true
def ZX (nt nc:Int)(live:Bool)(c:List (List It))(k:Nat): Prop:=∀s∈c.take k,u7 nt nc live s=true
def bz (m:Mo)(i:Nat)(a:Al)(x:Ss)(T:m.mem.allocs[i]?=some a)(hx:m.stacks[i]?=some x)(U:wfS x): zK 322 [m.a,iI i] (.bool (moS m.ntag m.ncall a x)):=by
 have Y:=XD x U;have f:moS m.ntag m.ncall a x=(x.num==a.num&&decide (x.cells.length=a.cells.length)&&decide (xU x=0)&&x.cells.all (u7 m.ntag m.ncall a.live)):=by
  unfold moS u7 xU;cases qM x<;>simp
 have S:x.num=a.num->x.cells.length=a.cells.length->xU x=0->(∀s∈x.cells,u7 m.ntag m.ncall a.live s=true)->moS m.ntag m.ncall a x=true:=λd e H W=>by
  rw[f,d,zA.2 W,decide_eq_true e,decide_eq_true H];simp
 have I:¬(x.num=a.num/\x.cells.length=a.cells.length/\xU x=0)->moS m.ntag m.ncall a x=false:=λh=>by
  rw[f];cases d:(x.num==a.num) with
  |false=>rfl
  |true =>
   rw[beq_iff_eq] at d;by_cases e:x.cells.length=a.cells.length
   ·rw[decide_eq_false (λH=>h ⟨d,e,H⟩)];simp
   ·rw[decide_eq_false e];simp
 have Q:∀s∈x.cells,u7 m.ntag m.ncall a.live s=false->moS m.ntag m.ncall a x=false:=λs hs h=>by
  rw[f,show x.cells.all (u7 m.ntag m.ncall a.live)=false by rw[List.all_eq_false];exact⟨s,hs,by simp[h]⟩,Bool.and_false]
 clear f;generalize moS m.ntag m.ncall a x=R at *;obtain⟨⟨l,next⟩,st,rn,nt,nc⟩:=m;obtain⟨h7,h5⟩:=zS.1 T;obtain⟨h8,h6⟩:=zS.1 hx;obtain⟨O,al,y⟩:=a;obtain⟨g,b⟩:=x;obtain⟨hd,M⟩:=U;simp only at *;clear T hx;refine eK [1,3038] func322 λX=>?_;go_simp;intro o;refine vo hP ⟨[(9,.l 2,2),(15,.l 2,0),(5,.l 5,0),(6,.l 6,0)],true⟩ [12,18] dk ?_;go_simp;intro r u;refine mq hP [] (B:=[]) (G:=Unit) (λ_=>[(2,.ptr (.l 2) o 6 0 0),(5,.ptr (.l 5) r 2 0 0),(6,.ptr (.l 6) u 3 0 0)])
  (λ_=>[(.l 2,⟨o,1,6,31,[Mo.c ⟨⟨l,next⟩,st,rn,nt,nc⟩],false⟩),(.l 6,⟨u,1,3,170,[Al.c ⟨O,al,y⟩],false⟩),(.l 5,⟨r,1,2,124,[Ss.c ⟨g,b⟩],false⟩)]) (λ_=>g=O/\b.length=y.length/\xU ⟨g,b⟩=0) dk ?_ λ_ hm=>?_
 ·go_simp;repeat'(first|(apply zd Y;try go_simp)|with_reducible first|apply ai|intro)
  all_goals first
   |assumption
   |omega
   |exact(I (by grind)).symm
   |exact I (by grind)
 ·obtain⟨rfl,N,V⟩:=hm;have hf:=(gR V).1;have J:=S rfl N V;have hg:=N.symm;clear N S I;go_simp;refine lN [3057] (λk=>[(2,.ptr (.l 2) o 6 0 0),(5,.ptr (.l 5) r 2 0 0),(6,.ptr (.l 6) u 3 0 0),(7,iI k)]) (λ_=>[(.l 2,⟨o,1,6,31,[Mo.c ⟨⟨l,next⟩,st,rn,nt,nc⟩],false⟩),(.l 6,⟨u,1,3,170,[Al.c ⟨g,al,y⟩],false⟩),(.l 5,⟨r,1,2,124,[Ss.c ⟨g,b⟩],false⟩)]) (λk=>k<=b.length/\ZX nt nc al b k) (λk=>b.length-k) 0 ?_ (h0:=⟨om,by simp[ZX]⟩)
  rintro k ⟨hk,D⟩;by_cases w:k<b.length
  ·have hc:=M _ (zM w);have E:u7 nt nc al b[k]=false->R=false:=Q _ (zM w);have L:u7 nt nc al b[k]=true->ZX nt nc al b (k+1):=λh=>zr D w h;generalize he:b[k]=s at *;have Z:al=false->0<s.length->u7 nt nc al s=false:=λd e=>by
    unfold u7;rw[List.all_eq_false];exact⟨s[0],zM e,by unfold tS;rw[d];simp⟩
   have A:∀i∈s,tS nt nc al i=false->R=false:=λi hi h=>E (by unfold u7;rw[List.all_eq_false];exact⟨i,hi,by simp[h]⟩);clear Q;go_simp;refine mq hP [] (B:=[]) (G:=Unit) (λ_=>[(2,.ptr (.l 2) o 6 0 0),(5,.ptr (.l 5) r 2 0 0),(6,.ptr (.l 6) u 3 0 0),(7,iI k)])
    (λ_=>[(.l 2,⟨o,1,6,31,[Mo.c ⟨⟨l,next⟩,st,rn,nt,nc⟩],false⟩),(.l 6,⟨u,1,3,170,[Al.c ⟨g,al,y⟩],false⟩),(.l 5,⟨r,1,2,124,[Ss.c ⟨g,b⟩],false⟩)]) (λ_=>al=false->s = []) dk ?_ λ_ hm=>?_
   ·go_simp;exact⟨λh=>⟨λhp=>E (Z h hp),λhs _=>hs⟩,λh P=>by rw[h] at P;cases P⟩
   ·have K:∀i∈s,al=true:=λi hi=>by
     cases al with
     |true=>rfl
     |false=>rw[hm rfl] at hi;simp at hi
    clear hm;go_simp;refine lN [] (λj=>[(2,.ptr (.l 2) o 6 0 0),(5,.ptr (.l 5) r 2 0 0),(6,.ptr (.l 6) u 3 0 0),(7,iI k),(8,iI j)]) (λ_=>[(.l 2,⟨o,1,6,31,[Mo.c ⟨⟨l,next⟩,st,rn,nt,nc⟩],false⟩),(.l 6,⟨u,1,3,170,[Al.c ⟨g,al,y⟩],false⟩),(.l 5,⟨r,1,2,124,[Ss.c ⟨g,b⟩],false⟩)]) (λj=>j<=s.length/\ZW nt nc al s j) (λj=>s.length-j) 0 ?_ (h0:=⟨om,by simp[ZW]⟩)
    rintro j ⟨hj,C⟩;by_cases v:j<s.length
    ·have hm:=zM v;have hb:=A _ hm;have F:tS nt nc al s[j]=true->ZW nt nc al s (j+1):=λh=>zr C v h;have z:=K _ hm;generalize h9:s[j]=it at *;subst z;go_simp;refine⟨⟨λd=>⟨λe=>hb (by unfold tS;rw[decide_eq_false (by omega:¬it.call<nc)];simp),λe=>⟨j+1,⟨om,F (by unfold tS;rw[decide_eq_true d,decide_eq_true e];rfl)⟩,om,wrS om⟩⟩,λd=>hb (by unfold tS;rw[decide_eq_false (by omega:¬it.tag<nt)];simp)⟩,λh=>absurd h om⟩
    ·obtain rfl:j=s.length:=om;go_simp;exact⟨k+1,⟨om,L (zA.2 (zx C (Nat.le_refl _)))⟩,om,wrS om⟩
  ·obtain rfl:k=b.length:=om;go_simp;exact J (zx D (Nat.le_refl _))
def XV (m:Mo)(A:wfM m): zK 209 [m.a] (iI (vR m)):=by
 have O:=jJ m.mem A.me;have P:=XA m.running A.rn;have u:=fun (i:Nat) a x f d=>bz m i a x f d (A.st x (zF d));have v:moH m=(decide (yq m.mem=0)&&decide (m.stacks.length=m.mem.allocs.length)&&sZ m.ntag&&sZ m.ncall&&decide (y9 m.running=0)&&decide (xI m.running m.running.length<m.ncall)):=by
  unfold moH yq y9;cases sG m.mem<;>cases pW m.running<;>simp
 have g:=@TI m;have r:=@TJ m;have y:=@Pi m;generalize vR m=er at *;generalize moH m=E at *;obtain⟨⟨l,next⟩,st,rn,nt,nc⟩:=m;obtain⟨⟨hl,hs⟩,T,U,S⟩:=A;simp only at *;refine eK [3060] func209 λX=>?_;go_simp;repeat'(first|((first|apply zd O|apply zd P);try go_simp)|with_reducible first|apply ai|intro)
 all_goals try(refine(g ?_).symm;rw[v];grind [sZ])
 rename_i b H Y Z e4 e5 e6 I;have e:sZ nt=true/\sZ nc=true/\1<=nc:=by unfold sZ;simp;omega
 refine mq hP [] (B:=[]) (G:=Unit) (λ_=>[(1,.ptr (.l 1) b 6 0 0)]) (λ_=>[(.l 1,⟨b,1,6,31,[Mo.c ⟨⟨l,next⟩,st,rn,nt,nc⟩],false⟩)]) (λ_=>E=true) dk ?_ λ_ hm=>?_
 ·rcases Nat.eq_zero_or_pos rn.length with J|J
  ·have hp:xI rn rn.length=0:=by unfold xI;rw[if_pos J]
   have R:¬(0:Int)<rn.length:=om;have Q:E=true:=by rw[v,hp,e.1,e.2.1,decide_eq_true (by omega:(0:Int)<nc),decide_eq_true H,decide_eq_true I,decide_eq_true (by omega:st.length=l.length)];rfl
   clear v g e;go_simp
  ·have A:IntKind.i64.wrap ((rn.length:Int)-1)=((rn.length-1:Nat):Int):=(AM.Tf om).trans om;have hp:xI rn rn.length=rn[rn.length-1]:=by
    have:=uH (l:=rn) (i:=rn.length-1) om
    rwa[show rn.length-1+1=rn.length by omega] at this
   have hg:rn[rn.length-1]?=some rn[rn.length-1]:=zE _;generalize rn[rn.length-1]=z at *;have R:(0:Int)<rn.length:=om;have f:¬z<nc->er=8:=λh=>g (by rw[v,hp,decide_eq_false h,Bool.and_false]);have d:z<nc->E=true:=λh=>by rw[v,hp,e.1,e.2.1,decide_eq_true h,decide_eq_true H,decide_eq_true I,decide_eq_true (by omega:st.length=l.length)];rfl
   clear v g e r;go_simp;exact⟨λh=>(f om).symm,λh=>d h⟩
 ·go_simp;have L:st.length=l.length:=om;have o:∀(i:Nat)(f:i<l.length) (d:i<st.length),moS nt nc l[i] st[i]=false->er=8:=λi f d h=>y (zE f) (zE d) h;clear y;refine lN [] (λi=>[(1,.ptr (.l 1) b 6 0 0),(4,iI i)]) (λi=>[(.l 1,⟨b,1,6,31,[Mo.c ⟨⟨l,next⟩,st,rn,nt,nc⟩],false⟩)]) (λi=>i<=l.length/\∀(j:Nat) a x,l[j]?=some a->st[j]?=some x->j<i->moS nt nc a x=true) (λi=>l.length-i) 0 ?_
  rintro i ⟨hi,D⟩;by_cases w:i<st.length
  ·have K:=u i l[i] st[i] (zE om) (zE w);have h8:=o i om w;have C:moS nt nc (l[i]'om) st[i]=true->∀(j:Nat) a x,l[j]?=some a->st[j]?=some x->j<i+1->moS nt nc a x=true:=λh j a x f d h3=>by
    rcases Nat.lt_or_ge j i with c|c
    ·exact D j a x f d c
    ·obtain rfl:j=i:=om;obtain⟨_,V⟩:=zS.1 f;obtain⟨_,W⟩:=zS.1 d;rw[<-V,<-W];exact h
   generalize moS nt nc l[i] st[i]=F at *;clear u o D;have N:i<l.length:=om;go_simp;cases F with
   |true =>
    repeat'(first|(apply zd K;try go_simp)|with_reducible first|apply ai|intro)
    exact⟨i+1,⟨om,C rfl⟩,om,wrS om⟩
   |false =>
    repeat'(first|(apply zd K;try go_simp)|with_reducible first|apply ai|intro)
  ·obtain rfl:i=st.length:=om;have M:¬st.length<st.length:=om;clear u;go_simp;exact(r hm λj a x f d=>D j a x f d (zS.1 d).1).symm
def yu (p:Pr)(k:Int): Fn:=p.funcs.getD k.toNat fnz
def u9 (f:Fn): Int:=(f.blocks.map λb=>(b.stmts.length:Int)+1).sum
def yW:List Bk->Int->Int->Bool
 |[],_,_=>false
 |b::l,k,to=>if k=b.stmts.length then b.jump.kind==4&&b.jump.fn==to else yW l (k-(b.stmts.length+1)) to
def xy (n:Int)(p:Po): Bool:=p.al==n
def sI (kind to off:Int): Bool:=(kind==to&&off==0)||(to==1&&kind==2&&decide (off<2))
def wW (p:Pr)(q:Po)(to:Int): List Fm->Bool
 |[]=>true
 |x::l=>if idx (xy q.al) x.locals<0 then wW p q to l else sI ((yu p x.fn).locals.getD (idx (xy q.al) x.locals).toNat ⟨0,0⟩).kind to q.off
def x5 (s:Sa)(t:Int): Bool:=if s.plain then t==0 else decide (1<=t/\t<s.mon.ntag)
def we (p:Pr)(s:Sa)(q:Po)(to:Int): Bool:=x5 s q.tag&&decide (0<=q.al/\q.al<s.mon.mem.next)&&wW p q to s.frames
def ceT (p:Pr)(s:Sa)(t:Ty)(c:Ce): Bool:=c.kind==0||((decide (3<=t.kind)==(c.kind==2))&&(decide (t.kind<3)||we p s c.p t.to))
def tu (s:Sa): Bool:=if s.plain then s.mon.stacks.length==0&&s.mon.running.length==0&&s.mon.ntag==0&&s.mon.ncall==0&&sG s.mon.mem else lW s.mon
def xm (s:Sa): Int:=if tu s then 0 else 8
def yZ (m:Me)(n:Int): Al:=m.allocs.getD (atA m n).toNat ix
def sJ (s:Sa)(l:Po)(t:Ty): Bool:=decide (0<=atA s.mon.mem l.al)&&l.off==0&&(yZ s.mon.mem l.al).live&&decide (((yZ s.mon.mem l.al).cells.length:Int)=zg t)&&x5 s l.tag
def jx (p:Pr)(s:Sa)(x:Fm): Bool:=decide (x.locals.length=(yu p x.fn).locals.length)&&(x.locals.zip (yu p x.fn).locals).all λq=>sJ s q.1 q.2
def iG (p:Pr)(s:Sa)(x:Fm): Bool:=decide (0<=x.fn/\x.fn<p.funcs.length)&&decide (0<=x.at_/\x.at_<u9 (yu p x.fn))&&jx p s x&&!(s.plain&&!(x.call==0))
def sw (p:Pr): List Fm->Bool
 |[]=>true
 |[_]=>true
 |x::y::l=>yW (yu p x.fn).blocks x.at_ y.fn&&sw p (y::l)
def wD (s:Sa): List Int:=s.frames.flatMap λx=>x.locals.map Po.al
def qW (p:Pr)(s:Sa): Bool:=s.frames.all λx=>(x.locals.zip (yu p x.fn).locals).all λq=>(yZ s.mon.mem q.1.al).cells.all (ceT p s q.2)
def uO (p:Pr)(s:Sa): Int:=if s.frames.length=0 then zg ((yu p 0).locals.getD 0 ⟨0,0⟩) else 0
def dC (p:Pr)(s:Sa): Bool:=tu s&&decide (s.frames.length<=16)&&decide (s.prints.length<=200)&&s.frames.all (iG p s)&&sw p s.frames&&decide (wD s).Nodup&&s.mon.mem.allocs.all (λa=>decide (a.num∈wD s))&&qW p s&&(s.plain||s.mon.running==s.frames.map Fm.call)&&decide ((s.result.length:Int)=uO p s)
def uP (p:Pr)(s:Sa): Int:=if dC p s then 0 else 8
structure WhV (s:Sa): Prop where
 mo:s.plain=false->MoV s.mon
 pl:s.plain=true->s.mon=⟨s.mon.mem,[],[],0,0⟩
 me:MeV s.mon.mem
def uA: xm s=0↔WhV s:=by
 have f:xm s=0↔tu s=true:=by unfold xm;split<;>simp_all
 have g:sG s.mon.mem=true↔MeV s.mon.mem:=by rw[<-og];unfold yq;split<;>simp_all
 have i:lW s.mon=true↔MoV s.mon:=by rw[<-mD];unfold vR;split<;>simp_all
 rw[f];unfold tu;obtain⟨pl,⟨mem,st,rn,nt,nc⟩,fr,pr,re⟩:=s;cases pl with
 |true =>
  simp only[if_true,zB,beq_iff_eq] at *;rw[g];constructor
  ·rintro⟨⟨⟨⟨a,b⟩,c⟩,d⟩,e⟩;obtain rfl:=List.eq_nil_of_length_eq_zero a;obtain rfl:=List.eq_nil_of_length_eq_zero b;subst c d;exact⟨λh=>by simp at h,λ_=>rfl,e⟩
  ·rintro⟨_,a,b⟩;have:=a rfl
   simp only[Mo.mk.injEq,true_and] at this;obtain⟨rfl,rfl,rfl,rfl⟩:=this;exact⟨⟨⟨⟨rfl,rfl⟩,rfl⟩,rfl⟩,b⟩
 |false =>
  simp only[Bool.false_eq_true,if_false] at *;rw[i];exact⟨λh=>⟨λ_=>h,λe=>by simp at e,h.me⟩,λh=>h.mo rfl⟩
structure LoV (s:Sa)(l:Po)(t:Ty)(a:Al): Prop where
 at_:∃k:Nat,atA s.mon.mem l.al=k/\s.mon.mem.allocs[k]?=some a
 num:a.num=l.al
 off:l.off=0
 live:a.live=true
 len:(a.cells.length:Int)=zg t
 tag:x5 s l.tag=true
def wX{a:Al}(h:atA m n=k)(b:m.allocs[k]?=some a): yZ m n=a:=by
 unfold yZ;rw[h,Int.toNat_natCast,zD,b];rfl
def Ei{l:Po}: sJ s l t=true↔∃a,LoV s l t a:=by
 unfold sJ;simp only[zB,zL,beq_iff_eq];constructor
 ·rintro⟨⟨⟨⟨a,b⟩,c⟩,d⟩,e⟩;obtain⟨k,g,x,hx,hn⟩:=ud (m:=s.mon.mem) (n:=l.al) om;have h:=wX g hx;rw[h] at c d;exact⟨x,⟨k,g,hx⟩,hn,b,c,d,e⟩
 ·rintro⟨a,⟨k,g,hx⟩,b,c,d,e,f⟩;have h:=wX g hx;rw[h];exact⟨⟨⟨⟨om,c⟩,d⟩,e⟩,f⟩
structure FmV (p:Pr)(s:Sa)(x:Fm): Prop where
 fn:0<=x.fn/\x.fn<p.funcs.length
 at_:0<=x.at_/\x.at_<u9 (yu p x.fn)
 len:x.locals.length=(yu p x.fn).locals.length
 loc:∀(k:Nat) l t,x.locals[k]?=some l->(yu p x.fn).locals[k]?=some t->∃a,LoV s l t a
 call:s.plain=true->x.call=0
def Qn{x:Fm}: iG p s x=true↔FmV p s x:=by
 have f:=dt (l:=x.locals) (r:=(yu p x.fn).locals) (P:=λl t=>∃a,LoV s l t a);unfold iG jx;simp only[zB,zL,zA,Ei];constructor
 ·rintro⟨⟨⟨a,b⟩,c,d⟩,e⟩;refine⟨a,b,c,f.1 d,λhp=>?_⟩;rw[hp] at e;simpa using e
 ·rintro⟨a,b,c,d,e⟩;refine⟨⟨⟨a,b⟩,c,f.2 d⟩,?_⟩;cases hp:s.plain with
  |false=>rfl
  |true=>simp[e hp]
structure SaV (p:Pr)(s:Sa): Prop where
 wh:WhV s
 nf:s.frames.length<=16
 np:s.prints.length<=200
 fm:∀x∈s.frames,FmV p s x
 nex:sw p s.frames=true
 nod:(wD s).Nodup
 cov:∀a∈s.mon.mem.allocs,a.num∈wD s
 typ:∀x∈s.frames,∀(k:Nat) l t,x.locals[k]?=some l->(yu p x.fn).locals[k]?=some t->∀c∈(yZ s.mon.mem l.al).cells,ceT p s t c=true
 run:s.plain=false->s.mon.running=s.frames.map Fm.call
 res:(s.result.length:Int)=uO p s
def Lj: uP p s=0↔SaV p s:=by
 have u:uP p s=0↔dC p s=true:=by unfold uP;split<;>simp_all
 have v:tu s=true↔WhV s:=by rw[<-uA];unfold xm;split<;>simp_all
 rw[u];unfold dC qW;have o:=λx:Fm=>dt (l:=x.locals) (r:=(yu p x.fn).locals) (P:=λl t=>∀c∈(yZ s.mon.mem l.al).cells,ceT p s t c=true);simp only[zB,zL,zA,v,Qn,Bool.or_eq_true,beq_iff_eq];constructor
 ·rintro⟨⟨⟨⟨⟨⟨⟨⟨⟨a,b⟩,c⟩,d⟩,e⟩,f⟩,g⟩,h⟩,i⟩,j⟩;exact⟨a,b,c,d,e,f,g,λx hx=>(o x).1 (h x hx),λhp=>by
    rcases i with i|i;· rw[hp] at i;simp at i
    ·exact i,j⟩
 ·rintro⟨a,b,c,d,e,f,g,h,i,j⟩;refine⟨⟨⟨⟨⟨⟨⟨⟨⟨a,b⟩,c⟩,d⟩,e⟩,f⟩,g⟩,λx hx=>(o x).2 (h x hx)⟩,?_⟩,j⟩;cases hp:s.plain with
  |true=>exact Or.inl rfl
  |false=>exact Or.inr (i hp)
def yw (a e:Int): Int:=if e=18 then 3 else if ¬e=0 then 8 else if a=0 then 0 else if a=3 then 6 else if a=4 then 7 else 5
def yX {a e:Int}: yw a e=0↔a=0/\e=0:=by
 unfold yw;repeat' split
 all_goals omega
def yh (s:Sa)(m:Mo): Sa:=⟨s.plain,m,s.frames,s.prints,s.result⟩
def sx (m:Me): Mo:=⟨m,[],[],0,0⟩
def gLd (s:Sa)(p:Po)(n:Int): Mo×List Ce×Int×Int:=if s.plain then(s.mon,ldL s.mon.mem p n,ldW s.mon.mem p n,fdE s.mon.mem p n) else mLd s.mon p n
def gSt (s:Sa)(p:Po)(l:List Ce): Mo×Int×Int:=if s.plain then(sx (stM s.mon.mem p l),stW s.mon.mem p l,stE s.mon.mem p l) else mSt s.mon p l
def gRt (s:Sa)(p:Po)(n kind call:Int): Mo×Po×Int×Int:=if s.plain then(s.mon,⟨p.al,p.off,0⟩,if ldW s.mon.mem p n=4 then 0 else ldW s.mon.mem p n,fdE s.mon.mem p n) else mRt s.mon p n kind call
def gAl (s:Sa)(size:Int): Mo×Po×Int:=if s.plain then(sx (wz s.mon.mem size),⟨uJ s.mon.mem size,0,0⟩,wy s.mon.mem size) else mAl s.mon size
def gEd (s:Sa)(n:Int): Mo×Int×Int:=if s.plain then(if yV s.mon.mem n=0 then sx (fgM (xP s.mon.mem n)) else s.mon,0,yV s.mon.mem n) else
 if ¬(mEd s.mon n).2.2=0\/¬(mEd s.mon n).2.1=0 then mEd s.mon n else(mFg (mEd s.mon n).1,0,0)
def gEn (s:Sa): Mo×Int×Int:=if s.plain then(s.mon,0,0) else mEn s.mon
def gLv (s:Sa): Mo×Int:=if s.plain then(s.mon,0) else mLv s.mon
def sLd (s:Sa)(p:Po)(n:Int): Sa×List Ce×Int:=if yw (gLd s p n).2.2.1 (gLd s p n).2.2.2=0 then(yh s (gLd s p n).1,(gLd s p n).2.1,0) else(s,[],yw (gLd s p n).2.2.1 (gLd s p n).2.2.2)
def sSt (s:Sa)(p:Po)(l:List Ce): Sa×Int:=if yw (gSt s p l).2.1 (gSt s p l).2.2=0 then(yh s (gSt s p l).1,0) else(s,yw (gSt s p l).2.1 (gSt s p l).2.2)
def sRt (s:Sa)(p:Po)(n kind call:Int): Sa×Po×Int:=if yw (gRt s p n kind call).2.2.1 (gRt s p n kind call).2.2.2=0 then(yh s (gRt s p n kind call).1,(gRt s p n kind call).2.1,0) else(s,po0,yw (gRt s p n kind call).2.2.1 (gRt s p n kind call).2.2.2)
def sAl (s:Sa)(size:Int): Sa×Po×Int:=if yw 0 (gAl s size).2.2=0 then(yh s (gAl s size).1,(gAl s size).2.1,0) else(s,po0,yw 0 (gAl s size).2.2)
def sEd (s:Sa)(n:Int): Sa×Int:=if yw (gEd s n).2.1 (gEd s n).2.2=0 then(yh s (gEd s n).1,0) else(s,yw (gEd s n).2.1 (gEd s n).2.2)
def cU {s s':Sa}{t:Int}(hp:s'.plain=s.plain)(hn:s.mon.ntag<=s'.mon.ntag)(h:x5 s t=true): x5 s' t=true:=by
 unfold x5 at *;rw[hp];cases e:s.plain with
 |true=>rw[e] at h;simpa using h
 |false=>rw[e] at h;simp at h ⊢;omega
def cV{s s':Sa}{to:Int}(hp:s'.plain=s.plain)(hn:s.mon.ntag<=s'.mon.ntag)(hx:s.mon.mem.next<=s'.mon.mem.next)(a:s'.frames=s.frames)(h:we p s q to=true): we p s' q to=true:=by
 unfold we at *;simp only[zB,zL] at *;rw[a];exact⟨⟨cU hp hn h.1.1,h.1.2.1,om⟩,h.2⟩
def ZY{s s':Sa}{c:Ce}(hp:s'.plain=s.plain)(hn:s.mon.ntag<=s'.mon.ntag)(hx:s.mon.mem.next<=s'.mon.mem.next)(b:s'.frames=s.frames)(h:ceT p s t c=true): ceT p s' t c=true:=by
 unfold ceT at *;simp only[Bool.or_eq_true,zB] at *;rcases h with h|⟨a,h|h⟩
 ·exact Or.inl h
 ·exact Or.inr ⟨a,Or.inl h⟩
 ·exact Or.inr ⟨a,Or.inr (cV hp hn hx b h)⟩
structure ri (m m':Me): Prop where
 len:m'.allocs.length=m.allocs.length
 nx:m'.next=m.next
 nums:m'.allocs.map Al.num=m.allocs.map Al.num
 at_:∀(k:Nat) a,m.allocs[k]?=some a->∃a',m'.allocs[k]?=some a'/\a'.num=a.num/\a'.live=a.live/\a'.cells.length=a.cells.length
def ri.rfl': ri m m:=⟨rfl,rfl,rfl,λ_ a h=>⟨a,h,rfl,rfl,rfl⟩⟩
def Qo {l l':List Al}(e:l'.map Al.num=l.map Al.num): idx (xO n) l'=idx (xO n) l:=by
 have h:∀q:List Al,idx (xO n) q=idx (λx=>x==n) (q.map Al.num):=λq=>by
  unfold idx;have a:(q.map Al.num).any (λx=>x==n)=q.any (xO n):=by rw[List.any_map];rfl
  have b:(q.map Al.num).findIdx (λx=>x==n)=q.findIdx (xO n):=by rw[List.findIdx_map];rfl
  rw[a,b]
 rw[h,h,e]
def ri.at {m a:Me}(h:ri m a)(n:Int): atA a n=atA m n:=Qo h.nums
def Qp{x y:Al}(hx:m.allocs[k]?=some x)(hn:y.num=x.num)(hl:y.live=x.live)(d:y.cells.length=x.cells.length): ri m ⟨m.allocs.set k y,m.next⟩:=by
 refine⟨sm,rfl,lY hx hn,λj a b=>?_⟩;by_cases e:j=k
 ·subst e;rw[hx] at b;injection b with b;subst b;exact⟨y,by simp[(zS.1 hx).1],hn,hl,d⟩
 ·exact⟨a,by simp only;rw[List.getElem?_set,if_neg (λc=>e c.symm)];exact b,rfl,rfl,rfl⟩
def LoV.same {s s':Sa}{l:Po}(hp:s'.plain=s.plain)(hn:s.mon.ntag<=s'.mon.ntag)(hm:ri s.mon.mem s'.mon.mem)(h:∃a,LoV s l t a): ∃a,LoV s' l t a:=by
 obtain⟨a,⟨k,i,g⟩,b,c,d,e,f⟩:=h;obtain⟨a',j,o,r,u⟩:=hm.at_ k a g;exact⟨a',⟨k,by rw[hm.at];exact i,j⟩,o.trans b,c,r.trans d,by rw[u];exact e,cU hp hn f⟩
def cW {s s':Sa}(h:s'.frames=s.frames): wD s'=wD s:=by unfold wD;rw[h]
def SaV.mem{s s':Sa}(h:SaV p s)(hp:s'.plain=s.plain)(d:s'.frames=s.frames)(w:s'.prints=s.prints)(v:s'.result=s.result)(hn:s.mon.ntag<=s'.mon.ntag)(j:s'.mon.running=s.mon.running)(hm:ri s.mon.mem s'.mon.mem)(y:WhV s')
  (u:∀x∈s.frames,∀(k:Nat) l t,x.locals[k]?=some l->(yu p x.fn).locals[k]?=some t->∀c∈(yZ s'.mon.mem l.al).cells,c∈(yZ s.mon.mem l.al).cells\/ceT p s t c=true):SaV p s':=by
 refine⟨y,by rw[d];exact h.nf,by rw[w];exact h.np,λx hx=>?_,by rw[d];exact h.nex,by rw[cW d];exact h.nod,λa r=>?_,λx hx k l t hl e c i=>?_,λq=>?_,by rw[v];unfold uO;rw[d];exact h.res⟩
 ·rw[d] at hx;have:=h.fm x hx
  exact⟨this.fn,this.at_,this.len,λk l t hl e=>LoV.same hp hn hm (this.loc k l t hl e),λq=>this.call (by rw[<-hp];exact q)⟩
 ·have o:a.num∈s'.mon.mem.allocs.map Al.num:=List.mem_map.2 ⟨a,r,rfl⟩;rw[hm.nums] at o;obtain⟨b,hb,f⟩:=List.mem_map.1 o;rw[cW d,<-f];exact h.cov b hb
 ·rw[d] at hx;rcases u x hx k l t hl e c i with g|g
  ·exact ZY hp hn (by rw[hm.nx];exact Int.le_refl _) d (h.typ x hx k l t hl e c g)
  ·exact ZY hp hn (by rw[hm.nx];exact Int.le_refl _) d g
 ·rw[j,d];exact h.run (by rw[<-hp];exact q)
def jy(h:WhV s)(f:(gLd s q n).2.2.1=0)(g:(gLd s q n).2.2.2=0): WhV (yh s (gLd s q n).1)/\(gLd s q n).1.mem=s.mon.mem/\(gLd s q n).1.ntag=s.mon.ntag/\(gLd s q n).1.running=s.mon.running/\(gLd s q n).1.ncall=s.mon.ncall/\fdE s.mon.mem q n=0/\ldW s.mon.mem q n=0/\(gLd s q n).2.1=fdL s.mon.mem q n:=by
 unfold gLd at *;cases hp:s.plain with
 |true =>
  simp only[hp,if_true] at f g ⊢;refine⟨⟨λe=>by unfold yh at e;simp[hp] at e,λ_=>h.pl hp,h.me⟩,trivial,trivial,trivial,trivial,g,f,?_⟩;unfold ldL;rw[if_pos ⟨g,f⟩]
 |false =>
  simp only[hp,Bool.false_eq_true,if_false] at f g ⊢;obtain⟨a,b,c,d,e⟩:=Ij (h.mo hp) f g;have hx:fdE s.mon.mem q n=0/\ldW s.mon.mem q n=0/\(mLd s.mon q n).2.1=fdL s.mon.mem q n:=by
   unfold mLd at *;by_cases i:fdE s.mon.mem q n=0
   ·rw[if_neg (by simpa using i)] at *;by_cases r:fdL s.mon.mem q n = []
    ·rw[if_pos r] at f;simp at f
    ·rw[if_neg r] at *;by_cases o:(rdR s.mon q n false).2.1=0
     ·rw[if_neg (by simpa using o)] at *;by_cases j:ldW s.mon.mem q n=0
      ·rw[if_neg (by simpa using j)];exact⟨i,j,rfl⟩
      ·rw[if_pos j] at f;exact absurd f j
     ·rw[if_pos o] at f;exact absurd f o
   ·rw[if_pos i] at g;exact absurd g i
  exact⟨⟨λ_=>a,λe=>by unfold yh at e;simp[hp] at e,a.me⟩,b,c,e,d,hx⟩
def fy(h:SaV p s): SaV p (sLd s q n).1:=by
 unfold sLd;by_cases e:yw (gLd s q n).2.2.1 (gLd s q n).2.2.2=0
 ·rw[if_pos e];obtain⟨f,g⟩:=yX.1 e;obtain⟨a,b,c,d,_⟩:=jy h.wh f g;refine h.mem rfl rfl rfl rfl ?_ d ?_ a ?_
  ·show _<=(gLd s q n).1.ntag;rw[c];exact Int.le_refl _
  ·show ri _ (gLd s q n).1.mem;rw[b];exact .rfl'
  ·show ∀x∈s.frames,∀(k:Nat) l t,x.locals[k]?=some l->_->∀c∈(yZ (gLd s q n).1.mem l.al).cells,_;rw[b];exact λ_ _ _ _ _ _ _ c i=>Or.inl i
 ·rw[if_neg e];exact h
def qn(h:WhV s): WhV (sLd s q n).1:=by
 unfold sLd;by_cases e:yw (gLd s q n).2.2.1 (gLd s q n).2.2.2=0
 ·rw[if_pos e];obtain⟨a,b⟩:=yX.1 e;exact(jy h a b).1
 ·rw[if_neg e];exact h
def mQ(h:WhV s)(f:(gSt s q l).2.1=0)(g:(gSt s q l).2.2=0): WhV (yh s (gSt s q l).1)/\(gSt s q l).1.mem=stM s.mon.mem q l/\(gSt s q l).1.ntag=s.mon.ntag/\(gSt s q l).1.running=s.mon.running/\(gSt s q l).1.ncall=s.mon.ncall/\stE s.mon.mem q l=0/\stW s.mon.mem q l=0:=by
 unfold gSt at *;cases hp:s.plain with
 |true =>
  simp only[hp,if_true] at f g ⊢;have i:=h.pl hp;refine⟨⟨λe=>by unfold yh at e;simp[hp] at e,λ_=>rfl,Pg h.me g f⟩,rfl,?_,?_,?_,g,f⟩<;>(rw[i];rfl)
 |false =>
  simp only[hp,Bool.false_eq_true,if_false] at f g ⊢;obtain⟨x,y,a,b,c,d,e⟩:=Ik (h.mo hp) f g;exact⟨⟨λ_=>a,λe=>by unfold yh at e;simp[hp] at e,a.me⟩,b,c,e,d,x,y⟩
def mR(h:WhV s): WhV (sSt s q l).1:=by
 unfold sSt;by_cases e:yw (gSt s q l).2.1 (gSt s q l).2.2=0
 ·rw[if_pos e];obtain⟨a,b⟩:=yX.1 e;exact(mQ h a b).1
 ·rw[if_neg e];exact h
def iH{p:Po}(a:stE m p l=0)(b:stW m p l=0): ri m (stM m p l):=by
 obtain⟨k,x,f⟩:=i4 a b;rw[f.eq];exact Qp f.hx rfl rfl (iz f.hi)
def Qq{p:Po}(i:stE m p l=0)(o:stW m p l=0){c:Ce}(hn:¬atA m n<0)(a:c∈(yZ (stM m p l) n).cells): c∈(yZ m n).cells\/(n=p.al/\c∈l):=by
 obtain⟨k,x,f⟩:=i4 i o;have b:=(iH i o).at n;unfold yZ at *;rw[b] at a;rw[f.eq] at a;obtain⟨j,r,y,g,d⟩:=ud hn;rw[r,Int.toNat_natCast] at a ⊢;simp only at a;rw[zD] at a ⊢;by_cases h:j=k
 ·subst h;rw[List.getElem?_set,if_pos rfl,if_pos (zS.1 g).1] at a;have e:y=x:=by have:=f.hx;rw[g] at this;injection this
  subst e;rw[g];rcases i3 a with a|a
  ·exact Or.inl a
  ·exact Or.inr ⟨by rw[<-d];exact f.num,a⟩
 ·rw[List.getElem?_set,if_neg (λc=>h c.symm)] at a;exact Or.inl a
def Iv(h:SaV p s){x:Fm}(hx:x∈s.frames){l:Po}(hl:x.locals[k]?=some l)(b:(yu p x.fn).locals[k]?=some t): ¬atA s.mon.mem l.al<0:=by
 obtain⟨a,⟨k,c,_⟩,_⟩:=(h.fm x hx).loc k l t hl b;omega
def Iw(h:SaV p s)(z:∀x∈s.frames,∀(k:Nat) lo t,x.locals[k]?=some lo->(yu p x.fn).locals[k]?=some t->lo.al=q.al->∀c∈l,ceT p s t c=true): SaV p (sSt s q l).1:=by
 unfold sSt;by_cases e:yw (gSt s q l).2.1 (gSt s q l).2.2=0
 ·rw[if_pos e];obtain⟨u,v⟩:=yX.1 e;obtain⟨a,b,c,d,_,j,o⟩:=mQ h.wh u v;refine h.mem rfl rfl rfl rfl ?_ d ?_ a ?_
  ·show _<=(gSt s q l).1.ntag;rw[c];exact Int.le_refl _
  ·show ri _ (gSt s q l).1.mem;rw[b];exact iH j o
  ·show ∀x∈s.frames,∀(k:Nat) l' t,x.locals[k]?=some l'->_->∀c∈(yZ (gSt s q l).1.mem l'.al).cells,_;rw[b];intro x hx k lo t f r c i;rcases Qq j o (Iv h hx f r) i with g|⟨w,y⟩
   ·exact Or.inl g
   ·exact Or.inr (z x hx k lo t f r w c y)
 ·rw[if_neg e];exact h
def f6(h:WhV s){n kind call:Int}(i:(gRt s q n kind call).2.2.1=0)(g:(gRt s q n kind call).2.2.2=0): WhV (yh s (gRt s q n kind call).1)/\(gRt s q n kind call).1.mem=s.mon.mem/\s.mon.ntag<=(gRt s q n kind call).1.ntag/\(gRt s q n kind call).1.running=s.mon.running/\(gRt s q n kind call).1.ncall=s.mon.ncall/\(gRt s q n kind call).2.1.al=q.al/\(gRt s q n kind call).2.1.off=q.off/\x5 (yh s (gRt s q n kind call).1) (gRt s q n kind call).2.1.tag=true/\fdE s.mon.mem q n=0/\fdL s.mon.mem q n≠[]:=by
 unfold gRt at *;cases hp:s.plain with
 |true =>
  simp only[hp,if_true] at i g ⊢;refine⟨⟨λe=>by unfold yh at e;simp[hp] at e,λ_=>h.pl hp,h.me⟩,trivial,Int.le_refl _,trivial,trivial,trivial,trivial,by unfold x5 yh;simp[hp],g,λe=>?_⟩;have:ldW s.mon.mem q n=3:=by unfold ldW;rw[if_neg (by simpa using g),if_pos e]
  rw[this] at i;simp at i
 |false =>
  simp only[hp,Bool.false_eq_true,if_false] at i g ⊢;obtain⟨a,b,c,d,e,f⟩:=Il (h.mo hp) i g;have hx:fdE s.mon.mem q n=0/\fdL s.mon.mem q n≠[]:=by
   unfold mRt at i g;by_cases o:¬grE kind=0\/(¬call=0/\call∉s.mon.running)
   ·rw[if_pos o] at g;simp at g
   rw[if_neg o] at i g;by_cases j:fdE s.mon.mem q n=0
   ·rw[if_neg (by simpa using j)] at i g;by_cases r:s.mon.ntag=1000000
    ·rw[if_pos r] at g;simp at g
    rw[if_neg r] at i;refine⟨j,λu=>?_⟩;rw[if_pos u] at i;simp at i
   ·rw[if_pos j] at g;exact absurd g j
  refine⟨⟨λ_=>a,λe=>by unfold yh at e;simp[hp] at e,a.me⟩,b,om,e,d,by rw[f],by rw[f],?_,hx⟩;unfold x5 yh;simp only[hp,Bool.false_eq_true,if_false,zL];rw[f,c];have:=(h.mo hp).nt
  simp only;omega
def f7(h:WhV s){n kind call:Int}: WhV (sRt s q n kind call).1:=by
 unfold sRt;by_cases e:yw (gRt s q n kind call).2.2.1 (gRt s q n kind call).2.2.2=0
 ·rw[if_pos e];obtain⟨a,b⟩:=yX.1 e;exact(f6 h a b).1
 ·rw[if_neg e];exact h
def Ix(h:SaV p s){n kind call:Int}: SaV p (sRt s q n kind call).1:=by
 unfold sRt;by_cases e:yw (gRt s q n kind call).2.2.1 (gRt s q n kind call).2.2.2=0
 ·rw[if_pos e];obtain⟨f,g⟩:=yX.1 e;obtain⟨a,b,c,d,_⟩:=f6 h.wh f g;refine h.mem rfl rfl rfl rfl c d ?_ a ?_
  ·show ri _ (gRt s q n kind call).1.mem;rw[b];exact .rfl'
  ·show ∀x∈s.frames,∀(k:Nat) l t,x.locals[k]?=some l->_->∀c∈(yZ (gRt s q n kind call).1.mem l.al).cells,_;rw[b];exact λ_ _ _ _ _ _ _ c i=>Or.inl i
 ·rw[if_neg e];exact h
def nT(h:MeV m){a:Al}(d:a∈m.allocs): ∃k:Nat,atA m a.num=k/\m.allocs[k]?=some a/\yZ m a.num=a:=by
 obtain⟨k,e,rfl⟩:=List.getElem_of_mem d;have b:=zE e;have c:atA m m.allocs[k].num=k:=i6 h.pw b;exact⟨k,c,b,wX c b⟩
def U6 {l:List Al}{y:Al}(h:y.live=false)(g:∃x,l[k]?=some x/\x.num=n)(hl:∀a∈l,a.live=true)(hn:∀(i:Nat) a,l[i]?=some a->i≠k->a.num≠n): (l.set k y).filter Al.live=l.filter λa=>!(a.num==n):=by
 induction l generalizing k with
 |nil=>rfl
 |cons b l ih =>
  cases k with
  |zero =>
   obtain⟨x,hx,f⟩:=g;simp only[List.getElem?_cons_zero,zQ] at hx;subst hx;have d:l.filter Al.live=l:=List.filter_eq_self.2 λa c=>hl a (List.mem_cons_of_mem _ c);have e:(l.filter λa=>!(a.num==n))=l:=List.filter_eq_self.2 λa c=>by
    obtain⟨i,hi,rfl⟩:=List.getElem_of_mem c;have:=hn (i+1) l[i] sm om
    simp[this]
   simp[List.filter_cons,h,f,d,e]
  |succ k =>
   have d:=hl b List.mem_cons_self;have e:=hn 0 b sm om;have:=ih (k:=k) (by simpa using g) (λa c=>hl a (List.mem_cons_of_mem _ c)) λi a c hi=>hn (i+1) a (by simpa using c) om
   simp[List.filter_cons,d,e,this]
def f8(h:MeV m)(hl:∀a∈m.allocs,a.live=true)(d:yV m n=0): (xP m n).allocs.filter Al.live=m.allocs.filter (λa=>!(a.num==n))/\(xP m n).next=m.next:=by
 obtain⟨e,k,x,f,hx,hn,g,b⟩:=kc d;rw[b];exact⟨U6 rfl ⟨x,hx,hn⟩ hl λi a c hi=>by rw[<-hn];exact du h hx c hi,rfl⟩
def Iy(h:WhV s)(hl:∀a∈s.mon.mem.allocs,a.live=true)(j:(gEd s n).2.1=0)(i:(gEd s n).2.2=0): WhV (yh s (gEd s n).1)/\(gEd s n).1.mem.next=s.mon.mem.next/\(gEd s n).1.ntag=s.mon.ntag/\(gEd s n).1.running=s.mon.running/\(gEd s n).1.mem.allocs=s.mon.mem.allocs.filter (λa=>!(a.num==n))/\yV s.mon.mem n=0:=by
 unfold gEd at *;cases hp:s.plain with
 |true =>
  simp only[hp,if_true] at j i ⊢;rw[if_pos i];have u:=h.pl hp;obtain⟨a,b⟩:=ap (ke i);obtain⟨c,d⟩:=f8 h.me hl i;refine⟨⟨λe=>by unfold yh at e;simp[hp] at e,λ_=>rfl,a⟩,?_,?_,?_,?_,i⟩
  ·show(fgM _).next=_;rw[b];exact d
  ·rw[u];rfl
  ·rw[u];rfl
  ·show(fgM _).allocs=_;rw[b];exact c
 |false =>
  simp only[hp,Bool.false_eq_true,if_false] at j i ⊢;by_cases e:¬(mEd s.mon n).2.2=0\/¬(mEd s.mon n).2.1=0
  ·rw[if_pos e] at j i;omega
  ·rw[if_neg e];obtain⟨a,b,c,d,f,g⟩:=am (h.mo hp) (n:=n) om om;obtain⟨o,r⟩:=Ph a;obtain⟨c1,v⟩:=f8 h.me hl b;refine⟨⟨λ_=>o,λe=>by unfold yh at e;simp[hp] at e,o.me⟩,?_,d,g,?_,b⟩
   ·show(mFg _).mem.next=_;rw[r,c];exact v
   ·show(mFg _).mem.allocs=_;rw[r,c];exact c1
def wJ:Sa->List Po->Sa×Int
 |s,[]=>(s,0)
 |s,q::l=>if(sEd s q.al).2=0 then wJ (sEd s q.al).1 l else(s,(sEd s q.al).2)
def Pm(h:WhV s)(hl:∀a∈s.mon.mem.allocs,a.live=true)(i:(sEd s n).2=0): WhV (sEd s n).1/\(sEd s n).1=yh s (sEd s n).1.mon/\(sEd s n).1.mon.mem.next=s.mon.mem.next/\(sEd s n).1.mon.ntag=s.mon.ntag/\(sEd s n).1.mon.running=s.mon.running/\(sEd s n).1.mon.mem.allocs=s.mon.mem.allocs.filter (λa=>!(a.num==n))/\yV s.mon.mem n=0:=by
 unfold sEd at *;by_cases e:yw (gEd s n).2.1 (gEd s n).2.2=0
 ·rw[if_pos e] at i ⊢;obtain⟨j,o⟩:=yX.1 e;obtain⟨a,b,c,d,f,g⟩:=Iy h hl j o;exact⟨a,rfl,b,c,d,f,g⟩
 ·rw[if_neg e] at i;exact absurd i e
def Nu{m a:Mo}: yh (yh s m) a=yh s a:=rfl
def WY:∀ {l:List Po} {s:Sa},WhV s->(∀a∈s.mon.mem.allocs,a.live=true)->(wJ s l).2=0->WhV (wJ s l).1/\(wJ s l).1=yh s (wJ s l).1.mon/\(wJ s l).1.mon.mem.next=s.mon.mem.next/\(wJ s l).1.mon.ntag=s.mon.ntag/\(wJ s l).1.mon.running=s.mon.running/\(wJ s l).1.mon.mem.allocs=s.mon.mem.allocs.filter (λa=>!decide (a.num∈l.map Po.al))
 |[],s,h,_,_=>⟨h,rfl,rfl,rfl,rfl,(List.filter_eq_self.2 λ_ _=>rfl).symm⟩
 |q::l,s,h,hl,h1=>by
  unfold wJ at h1 ⊢;by_cases e:(sEd s q.al).2=0
  ·rw[if_pos e] at h1 ⊢;obtain⟨a,b,c,d,f,g,_⟩:=Pm h hl e;obtain⟨j,o,c2,r,u,v⟩:=WY a (λy i=>hl y (by rw[g] at i;exact(List.mem_filter.1 i).1)) h1;refine⟨j,?_,c2.trans c,r.trans d,u.trans f,?_⟩
   ·rw[o,b,Nu];rfl
   ·rw[v,g,List.filter_filter];congr 1
    funext y
    by_cases k1:y.num=q.al<;>simp[k1]
  ·rw[if_neg e] at h1;exact absurd h1 e
def Ya {p:Pr}{q:Po}{to:Int}: ∀ {l1 a:List Fm},wW p q to (l1++a)=true->wW p q to l1=true
 |[],_,_=>rfl
 |x::l1,a,h=>by
  unfold wW;rw[List.cons_append] at h;unfold wW at h;split
  ·rename_i e;rw[if_pos e] at h;exact Ya h
  ·rename_i e;rw[if_neg e] at h;exact h
def WZ {p:Pr}: ∀ {l1 a:List Fm},sw p (l1++a)=true->sw p l1=true
 |[],_,_=>rfl
 |[x],_,_=>rfl
 |x::y::l1,a,h=>by
  simp only[List.cons_append] at h;unfold sw at h ⊢;rw[zB] at h ⊢;exact⟨h.1,WZ (l1:=y::l1) h.2⟩
def zn (s:Sa): Fm:=s.frames.getD (s.frames.length-1) ⟨0,0,0,[]⟩
def uf (s:Sa): List Fm:=s.frames.take (s.frames.length-1)
def nU(h:s.frames≠[]): s.frames=uf s++[zn s]:=by
 unfold uf zn;have:=List.length_pos_iff.2 h
 rw[zD,zE om,zH];conv=>lhs;rw[<-List.take_append_drop (s.frames.length-1) s.frames]
 rw[List.drop_eq_getElem_cons om,show s.frames.length-1+1=s.frames.length by omega,List.drop_length]
def vY (f:Fm): Po:=f.locals.getD 0 po0
def wK (p:Pr)(f:Fm): Int:=zg ((yu p f.fn).locals.getD 0 ⟨0,0⟩)
def sLv (s:Sa): Sa:=yh s (gLv s).1
def vU (p:Pr)(s:Sa): Sa×Int:=wJ (sLv (sLd s (vY (zn s)) (wK p (zn s))).1) (zn s).locals
def zk (p:Pr)(s:Sa): Sa×List Ce×Int :=
 if ¬(sLd s (vY (zn s)) (wK p (zn s))).2.2=0 then(s,[],(sLd s (vY (zn s)) (wK p (zn s))).2.2) else
 if ¬(vU p s).2=0 then(s,[],(vU p s).2) else(⟨s.plain,(vU p s).1.mon,uf s,s.prints,s.result⟩,(sLd s (vY (zn s)) (wK p (zn s))).2.1,0)
def Lk {s:Sa}{q:Po}{n:Int}: (sLd s q n).1=yh s (sLd s q n).1.mon:=by unfold sLd;split<;>rfl
def pz(h:WhV s): (sLd s q n).1.mon.mem=s.mon.mem/\(sLd s q n).1.mon.ntag=s.mon.ntag/\(sLd s q n).1.mon.running=s.mon.running:=by
 unfold sLd;by_cases e:yw (gLd s q n).2.2.1 (gLd s q n).2.2.2=0
 ·rw[if_pos e];obtain⟨f,g⟩:=yX.1 e;obtain⟨a,b,c,d,_⟩:=jy h f g;exact⟨b,c,d⟩
 ·rw[if_neg e];exact⟨rfl,rfl,rfl⟩
def Va(h:SaV p s): ∀a∈s.mon.mem.allocs,a.live=true:=λa e=>by
 have d:=h.cov a e;unfold wD at d;obtain⟨x,hx,o⟩:=List.mem_flatMap.1 d;obtain⟨l,hl,r⟩:=List.mem_map.1 o;obtain⟨k,g,rfl⟩:=List.getElem_of_mem hl;have f:=h.fm x hx;obtain⟨b,⟨j,u,hb⟩,v⟩:=f.loc k _ _ (zE g) (zE (by rw[<-f.len];exact g));obtain⟨i,hi,c,_⟩:=nT h.wh.me e;rw[r] at u;obtain rfl:i=j:=om;rw[c] at hb;injection hb with hb;subst hb;assumption
def av(h:WhV s)(c:(gLv s).2=0): WhV (sLv s)/\(sLv s).mon.mem=s.mon.mem/\(sLv s).mon.ntag=s.mon.ntag/\(s.plain=false->(sLv s).mon.running=s.mon.running.take (s.mon.running.length-1)):=by
 unfold sLv gLv at *;cases hp:s.plain with
 |true =>
  simp only[if_true] at c ⊢;exact⟨⟨λe=>by unfold yh at e;simp[hp] at e,λ_=>h.pl hp,h.me⟩,rfl,rfl,λe=>by simp at e⟩
 |false =>
  simp only[hp,Bool.false_eq_true,if_false] at c ⊢;obtain⟨a,b⟩:=Io (h.mo hp) c;refine⟨⟨λ_=>a,λe=>by unfold yh at e;simp[hp] at e,a.me⟩,?_,?_,λ_=>?_⟩
  ·show(mLv s.mon).1.mem=_;rw[b]
  ·show(mLv s.mon).1.ntag=_;rw[b]
  ·show(mLv s.mon).1.running=_;rw[b]
def Ll(h:SaV p s)(M:s.frames≠[]){d:Mo}(J:WhV (yh s d))(hx:d.mem.next=s.mon.mem.next)(hn:d.ntag=s.mon.ntag)(W:s.plain=false->d.running=s.mon.running.take (s.mon.running.length-1))
  (Q:d.mem.allocs=s.mon.mem.allocs.filter λa=>!decide (a.num∈(zn s).locals.map Po.al)) {re:List Int} (O:(re.length:Int)=uO p ⟨s.plain,d,uf s,s.prints,re⟩):SaV p ⟨s.plain,d,uf s,s.prints,re⟩:=by
 have b:=nU M;have u:wD s=(uf s).flatMap (λx=>x.locals.map Po.al)++(zn s).locals.map Po.al:=by
  unfold wD;conv=>lhs;rw[b];rw[List.flatMap_append];simp
 have f:=h.nod;rw[u] at f;have D:=(List.nodup_append.1 f).2.2;have g:∀x∈uf s,x∈s.frames:=λx hx=>by rw[b];exact List.mem_append_left _ hx
 have e:∀x∈uf s,∀(k:Nat) l t,x.locals[k]?=some l->(yu p x.fn).locals[k]?=some t->∃a,LoV s l t a/\a∈d.mem.allocs/\yZ s.mon.mem l.al=a/\yZ d.mem l.al=a/\¬atA d.mem l.al<0:=λx hx k l t hl A=>by
  obtain⟨a,o⟩:=(h.fm x (g x hx)).loc k l t hl A;obtain⟨j,I,E⟩:=o.at_;have v:a∈d.mem.allocs:=by
   rw[Q];refine List.mem_filter.2 ⟨zF E,?_⟩;have L:a.num∈(uf s).flatMap (λx=>x.locals.map Po.al):=List.mem_flatMap.2 ⟨x,hx,List.mem_map.2 ⟨l,zF hl,o.num.symm⟩⟩;have F:a.num∉(zn s).locals.map Po.al:=λc=>D _ L _ c rfl;simp only[decide_eq_false F,Bool.not_false]
  obtain⟨i,S,Z,T⟩:=nT J.me v;have K:=wX I E;rw[o.num] at S T;have Y:atA d.mem l.al=i:=S;exact⟨a,o,v,K,T,om⟩
 have w:∀(t:Ty)(c:Ce),ceT p s t c=true->ceT p ⟨s.plain,d,uf s,s.prints,re⟩ t c=true:=λt c G=>by
  unfold ceT we x5 at *;simp only[Bool.or_eq_true,zB] at G ⊢;rw[hx,hn];rcases G with c|⟨c1,c|⟨c2,P⟩⟩
  ·exact Or.inl c
  ·exact Or.inr ⟨c1,Or.inl c⟩
  ·refine Or.inr ⟨c1,Or.inr ⟨c2,?_⟩⟩;rw[b] at P;exact Ya P
 refine⟨⟨J.mo,J.pl,J.me⟩,?_,h.np,λx r=>?_,?_,(List.nodup_append.1 f).1,λa B=>?_,λx r k l t hl A c G=>?_,λhp=>?_,?_⟩
 ·have:=h.nf;unfold uf;simp only[List.length_take];omega
 ·have H:=h.fm x (g x r);refine⟨H.fn,H.at_,H.len,λk l t hl A=>?_,H.call⟩;obtain⟨a,o,hm,_,V,N⟩:=e x r k l t hl A;obtain⟨j,I,y,R,X⟩:=ud N;have:y=a:=by have:=wX I R;rw[V] at this;exact this.symm
  subst this;exact⟨y,⟨j,I,R⟩,o.num,o.off,o.live,o.len,by have:=o.tag;unfold x5 at *;simp only;rw[hn];exact this⟩
 ·have:=h.nex;rw[b] at this;exact WZ this
 ·rw[Q] at B;obtain⟨L,F⟩:=List.mem_filter.1 B;have z:=h.cov a L;rw[u] at z;rcases zJ.1 z with z|z
  ·exact z
  ·rw[decide_eq_true z] at F;simp at F
 ·obtain⟨a,o,hm,K,U,_⟩:=e x r k l t hl A;have C:c∈(yZ d.mem l.al).cells:=G;rw[U,<-K] at C;exact w t c (h.typ x (g x r) k l t hl A c C)
 ·rw[W hp,h.run hp];unfold uf;simp[List.map_take]
 ·exact O
def aw(h:SaV p s)(a:s.frames≠[]){s':Sa}(hp:s'.plain=s.plain)(b:s'.mon.running=s.mon.running): (gLv s').2=0:=by
 unfold gLv;cases e:s'.plain with
 |true=>rfl
 |false =>
  simp only[Bool.false_eq_true,if_false];have:=h.run (by rw[<-hp];exact e)
  unfold mLv;rw[b,this,if_neg (by simpa using a)]
def Nv(h:SaV p s)(j:s.frames≠[])(y:(vU p s).2=0): WhV (yh s (vU p s).1.mon)/\(vU p s).1.mon.mem.next=s.mon.mem.next/\(vU p s).1.mon.ntag=s.mon.ntag/\(s.plain=false->(vU p s).1.mon.running=s.mon.running.take (s.mon.running.length-1)) /\
  (vU p s).1.mon.mem.allocs=s.mon.mem.allocs.filter λa=>!decide (a.num∈(zn s).locals.map Po.al):=by
 unfold vU at *;have D:=qn h.wh (q:=vY (zn s)) (n:=wK p (zn s));obtain⟨r,z,v⟩:=pz h.wh (q:=vY (zn s)) (n:=wK p (zn s));have w:=@Lk s (vY (zn s)) (wK p (zn s));generalize (sLd s (vY (zn s)) (wK p (zn s))).1=x at *;have i:x.plain=s.plain:=by rw[w];rfl
 obtain⟨A,u,B,C⟩:=av D (aw h j i v);have g:∀a∈(sLv x).mon.mem.allocs,a.live=true:=by rw[u,r];exact Va h
 obtain⟨a,b,c,d,e,f⟩:=WY A g y;have o:yh s (wJ (sLv x) (zn s).locals).1.mon=(wJ (sLv x) (zn s).locals).1:=by
  rw[b];unfold sLv;rw[w];rfl
 refine⟨by rw[o];exact a,by rw[c,u,r],by rw[d,B,z],λhp=>?_,by rw[f,u,r]⟩;rw[e,C (by rw[i];exact hp),v]
def Yb(h:SaV p s)(e:s.frames≠[])(i:(zk p s).2.2=0): WhV (zk p s).1/\(zk p s).1.frames=uf s/\(∀re,(re.length:Int)=(if(uf s).length=0 then zg ((yu p 0).locals.getD 0 ⟨0,0⟩) else 0)->SaV p ⟨(zk p s).1.plain,(zk p s).1.mon,(zk p s).1.frames,(zk p s).1.prints,re⟩):=by
 unfold zk at *;by_cases j:(sLd s (vY (zn s)) (wK p (zn s))).2.2=0
 ·rw[if_neg (by simpa using j)] at *;by_cases g:(vU p s).2=0
  ·rw[if_neg (by simpa using g)] at *;obtain⟨a,b,c,d,f⟩:=Nv h e g;refine⟨⟨a.mo,a.pl,a.me⟩,rfl,λre o=>?_⟩;exact Ll h e a b c d f o
  ·rw[if_pos g] at i;exact absurd i g
 ·rw[if_pos j] at i;exact absurd i j
end Go.Proofs.YtllodfoldffonaaGreatDoor
