/- A part of the proof. -/
import Derived.Test.YtllodfoldffonaaGreatDoorQ18
import Derived.Test.YtllodfoldffonaaGreatDoorQ19
namespace Go.Proofs.YtllodfoldffonaaGreatDoor
open Tryz AM Go.RowKit
set_option linter.unusedSimpArgs false
set_option linter.unusedVariables false
set_option linter.defProp false
set_option maxRecDepth 100000
set_option maxHeartbeats 16000000
variable {n:Int}{s:Sa}
def Fm.one (x:Fm): x.c.all xW=true:=rfl
def Po.one (x:Po): x.c.all xW=true:=rfl
def saF (x:Sa)(i:AM.Id)(b c:Nat): List AV:=[.bool x.plain,vAl_ x.mon.mem.allocs,iI x.mon.mem.next,vSs_ x.mon.stacks,vCi_ x.mon.running,iI x.mon.ntag,iI x.mon.ncall,.sl i b 4 x.frames.length c,vCi_ x.prints,vCi_ x.result]
attribute [go_sem] saF
abbrev TwA (f:Nat)(s:Sa): Prop:=zG f 3 (λ_=>[s.a]) (λ_=>[]) (λι q=>(.agg [.bool s.plain,vAl_ s.mon.mem.allocs,iI s.mon.mem.next,vSs_ s.mon.stacks,vCi_ s.mon.running,iI s.mon.ntag,iI s.mon.ncall,.sl (ι 0) (q 0).1 4 s.frames.length (q 0).2,.sl (ι 1) (q 1).1 1 s.prints.length (q 1).2,.sl (ι 2) (q 2).1 1 s.result.length (q 2).2])) (λ_ q=>[⟨(q 0).1,(q 0).2,4,64,s.frames.map Fm.c,false⟩,⟨(q 1).1,(q 1).2,1,2,s.prints.map ci,false⟩,⟨(q 2).1,(q 2).2,1,2,s.result.map ci,false⟩])
abbrev TwC (f:Nat)(s:Sa): Prop:=zG f 1 (λ_=>[s.a]) (λ_=>[]) (λι q=>(.agg [.bool s.plain,vAl_ s.mon.mem.allocs,iI s.mon.mem.next,vSs_ s.mon.stacks,vCi_ s.mon.running,iI s.mon.ntag,iI s.mon.ncall,.sl (ι 0) (q 0).1 4 s.frames.length (q 0).2,vCi_ s.prints,vCi_ s.result])) (λ_ q=>[⟨(q 0).1,(q 0).2,4,64,s.frames.map Fm.c,false⟩])
def Yv (s:Sa)(Y:z9 s)(f:Nat)(V:f=166\/f=161\/f=37): TwA f s:=by
 obtain⟨pl,⟨⟨l,next⟩,st,rn,nt,nc⟩,fr,pr,re⟩:=s;obtain⟨⟨⟨hl,hs⟩,R,S,P⟩,L,M,N,O⟩:=Y;simp only at *;have G:=jF (yb Fm.one fr) (by simpa using L);have H:=tY (yb tE pr) (by simpa using N);have I:=tY (yb tE re) (by simpa using O);have F:=tc (yb Al.one l) (by simpa using hl);have K:=sX (yb Ss.one st) (by simpa using R);have J:=oQ (yb tE rn) (by simpa using P);rcases V with rfl|rfl|rfl;all_goals
  first|refine eG [1,5,8,12,17,21,23] func166 λX=>?_|refine eG [1,5,8,12,17,21,23] func161 λX=>?_|refine eG [1,5,8,12,17,21,23] func37 λX=>?_
  go_simp;intro q w;refine wA hP ⟨[(8,.l 1,7),(11,.l 1,8),(14,.l 1,9),(17,.l 1,7),(18,.l 1,8),(19,.l 1,9)],false⟩ [10,13,16] dk ?_;go_simp;repeat'(first|((first|(refine xM G ?_;intro _ _)|(refine xM H ?_;intro _ _)|(refine xM I ?_;intro _ _));try go_simp)|with_reducible first|apply ai|intro)
  rename_i a e b g d h;refine lN [5,8,12,17,21,23] (λi=>[(1,.ptr (.l 1) q 10 0 0),(2,.ptr (.l 2) w 10 0 0),(22,iI fr.length),(23,iI i)]) (λi=>[(.l 1,⟨q,1,10,35,[[.bool pl,vAl_ l,iI next,vSs_ st,vCi_ rn,iI nt,iI nc,.sl (.l 10) a 4 fr.length e,.sl (.l 13) b 1 pr.length g,.sl (.l 16) d 1 re.length h]],false⟩),(.l 2,⟨w,1,10,35,[zr0],false⟩),(.l 10,⟨a,e,4,64,fr.map Fm.c,false⟩),(.l 13,⟨b,g,1,2,pr.map ci,false⟩),(.l 16,⟨d,h,1,2,re.map ci,false⟩)]) (λi=>i<=fr.length) (λi=>fr.length-i) 0 ?_
  rintro i hi;by_cases j:i<fr.length
  ·have z:=nL (yb Po.one fr[i].locals) (by simpa using M _ (zM j));go_simp;refine zh hP ⟨[(26,.l 1,7),(29,.l 1,7),(33,.l 10,3),(37,.l 10,3)],false⟩ dk ?_;go_simp;repeat'(first|(apply zd z;try go_simp)|with_reducible first|apply ai|intro)
   refine⟨i+1,om,om,wrS om,wL j rfl⟩
  ·obtain rfl:i=fr.length:=om;go_simp;refine wA hP ⟨[(46,.l 1,1),(51,.l 1,3),(56,.l 1,4),(61,.l 1,1),(63,.l 1,3),(65,.l 1,4)],false⟩ [48,53,58] dk ?_;go_simp;repeat'(first|((first|(refine xM F ?_;intro _ _)|(refine xM K ?_;intro _ _)|(refine xM J ?_;intro _ _));try go_simp)|with_reducible first|apply ai|intro)
   rename_i t u m p C D;refine yU [.l 58] (.l 1) 0 4 (row:=[.bool pl,.sl (.l 48) t 3 l.length u,iI next,.sl (.l 53) m 2 st.length p,.sl (.l 58) C 1 rn.length D,iI nt,iI nc,.sl (.l 10) a 4 fr.length e,.sl (.l 13) b 1 pr.length g,.sl (.l 16) d 1 re.length h]) (v:=vCi_ rn) ?_;refine aO [12,17,21,23] ?_;go_simp;refine lN [12,17,21,23] (λi=>[(1,.ptr (.l 1) q 10 0 0),(2,.ptr (.l 2) w 10 0 0),(4,.ptr (.l 1) q 10 0 1),(71,iI l.length),(72,iI i)]) (λi=>[(.l 1,⟨q,1,10,35,[[.bool pl,.sl (.l 48) t 3 l.length u,iI next,.sl (.l 53) m 2 st.length p,vCi_ rn,iI nt,iI nc,.sl (.l 10) a 4 fr.length e,.sl (.l 13) b 1 pr.length g,.sl (.l 16) d 1 re.length h]],false⟩),(.l 2,⟨w,1,10,35,[zr0],false⟩),(.l 10,⟨a,e,4,64,fr.map Fm.c,false⟩),(.l 13,⟨b,g,1,2,pr.map ci,false⟩),(.l 16,⟨d,h,1,2,re.map ci,false⟩),(.l 48,⟨t,u,3,170,l.map Al.c,false⟩),(.l 53,⟨m,p,2,124,st.map Ss.c,false⟩)]) (λi=>i<=l.length) (λi=>l.length-i) 0 ?_
   rintro i hi;by_cases j:i<l.length
   ·have z:=xE (yb Ce.one l[i].cells) (by simpa using hs _ (zM j));go_simp;refine zh hP ⟨[(78,.l 1,1),(84,.l 1,1),(88,.l 48,2),(92,.l 48,2)],false⟩ dk ?_;go_simp;repeat'(first|(apply zd z;try go_simp)|with_reducible first|apply ai|intro)
    refine⟨i+1,om,om,wrS om,wL j rfl⟩
   ·obtain rfl:i=l.length:=om;go_simp;refine yU [.l 48] (.l 1) 0 1 (row:=[.bool pl,.sl (.l 48) t 3 l.length u,iI next,.sl (.l 53) m 2 st.length p,vCi_ rn,iI nt,iI nc,.sl (.l 10) a 4 fr.length e,.sl (.l 13) b 1 pr.length g,.sl (.l 16) d 1 re.length h]) (v:=vAl_ l) ?_;refine aO [17,21,23] ?_;go_simp;refine lN [17,21,23] (λi=>[(1,.ptr (.l 1) q 10 0 0),(2,.ptr (.l 2) w 10 0 0),(4,.ptr (.l 1) q 10 0 1),(98,iI st.length),(99,iI i)]) (λi=>[(.l 1,⟨q,1,10,35,[[.bool pl,vAl_ l,iI next,.sl (.l 53) m 2 st.length p,vCi_ rn,iI nt,iI nc,.sl (.l 10) a 4 fr.length e,.sl (.l 13) b 1 pr.length g,.sl (.l 16) d 1 re.length h]],false⟩),(.l 2,⟨w,1,10,35,[zr0],false⟩),(.l 10,⟨a,e,4,64,fr.map Fm.c,false⟩),(.l 13,⟨b,g,1,2,pr.map ci,false⟩),(.l 16,⟨d,h,1,2,re.map ci,false⟩),(.l 53,⟨m,p,2,124,st.map Ss.c,false⟩)]) (λi=>i<=st.length) (λi=>st.length-i) 0 ?_
    rintro i hi;by_cases j:i<st.length
    ·obtain⟨T,U⟩:=S _ (zM j);have z:=qe (yb gW st[i].cells) (by simpa using T);have ze:((st.map Ss.c).set i [iI st[i].num,vSk_ st[i].cells])=st.map Ss.c:=wL j rfl;have E:∀r,((st.map Ss.c).set i r)[i]?=some r:=λr=>by simp[j]
     go_simp;refine wA hP ⟨[(104,.l 1,3),(109,.l 1,3),(113,.l 53,1),(117,.l 53,1)],false⟩ [115] dk ?_;go_simp;repeat'(first|(refine xM z ?_;intro _ _;try go_simp)|with_reducible first|apply ai|intro)
     rename_i A B;refine lN [21,23] (λk=>[(1,.ptr (.l 1) q 10 0 0),(2,.ptr (.l 2) w 10 0 0),(4,.ptr (.l 1) q 10 0 1),(6,iI i),(98,iI st.length),(99,iI i),(126,iI st[i].cells.length),(127,iI k)]) (λk=>[(.l 1,⟨q,1,10,35,[[.bool pl,vAl_ l,iI next,.sl (.l 53) m 2 st.length p,vCi_ rn,iI nt,iI nc,.sl (.l 10) a 4 fr.length e,.sl (.l 13) b 1 pr.length g,.sl (.l 16) d 1 re.length h]],false⟩),(.l 2,⟨w,1,10,35,[zr0],false⟩),(.l 10,⟨a,e,4,64,fr.map Fm.c,false⟩),(.l 13,⟨b,g,1,2,pr.map ci,false⟩),(.l 16,⟨d,h,1,2,re.map ci,false⟩),(.l 53,⟨m,p,2,124,(st.map Ss.c).set i [iI st[i].num,.sl (.l 115) A 1 st[i].cells.length B],false⟩),(.l 115,⟨A,B,1,126,st[i].cells.map sk,false⟩)]) (λk=>k<=st[i].cells.length) (λk=>st[i].cells.length-k) 0 ?_
     rintro k W;by_cases x:k<st[i].cells.length
     ·have y:=wT (yb It.one st[i].cells[k]) (by simpa using U _ (zM x));have Q:((st[i].cells.map sk).set k [vIt_ st[i].cells[k]])=st[i].cells.map sk:=wL x rfl;go_simp;refine zh hP ⟨[(132,.l 1,3),(136,.l 53,1),(141,.l 1,3),(145,.l 53,1),(148,.l 115,0),(151,.l 115,0)],false⟩ dk ?_;go_simp;repeat'(first|(apply zd y;try go_simp)|with_reducible first|apply ai|intro)
      exact⟨k+1,om,om,wrS om⟩
     ·have y:k=st[i].cells.length:=om;subst y;go_simp;refine y8 [.l 115] (.l 53) i 1 (row:=[iI st[i].num,.sl (.l 115) A 1 st[i].cells.length B]) (v:=vSk_ st[i].cells) rfl (E _) rfl (by decide) (SV.own (o:=⟨A,B,1,126,st[i].cells.map sk,false⟩) rfl rfl rfl rfl (Nat.le_of_eq (zU _).symm) (by decide) (zT sm)) ?_;refine aO [] ?_;go_simp;exact⟨i+1,om,om,wrS om⟩
    ·obtain rfl:i=st.length:=om;go_simp;exact⟨[.l 10,.l 13,.l 16],dk,λk=>if k=0 then(a,e) else if k=1 then(b,g) else(d,h),⟨OB,OB,OB,trivial⟩,⟨by decide,⟨rfl,rfl,rfl⟩,⟨rfl,rfl,rfl⟩,rfl,rfl,rfl⟩,rfl⟩
def TwA.k {f:Nat}(h:TwA f s): zK f [s.a] s.a:=KG.k1 h λq=>by
 obtain⟨pl,⟨⟨l,next⟩,st,rn,nt,nc⟩,fr,pr,re⟩:=s;go_simp
def TwA.o {f:Nat}(h:TwA f s): TwC f s :=
 KG.one 0 h (λp=>⟨p.1,p.2,4,64,s.frames.map Fm.c,false⟩) (λi p=>.agg (saF s i p.1 p.2)) (λq=>rfl) (λi j p X w u h=>by simpa only[saF,RV,RL] using h) (λq=>by
  obtain⟨pl,⟨⟨l,next⟩,st,rn,nt,nc⟩,fr,pr,re⟩:=s;go_simp)
def vj (s:Sa)(a:z9 s): TwA 166 s:=Yv s a _ sm
def yN (s:Sa)(b:z9 s): zK 166 [s.a] s.a:=(vj s b).k
def bD (s:Sa)(a:z9 s): TwC 166 s:=(vj s a).o
def fJ (s:Sa)(a:z9 s): TwA 161 s:=Yv s a _ sm
def ua (s:Sa)(b:z9 s): zK 161 [s.a] s.a:=(fJ s b).k
def l9 (s:Sa)(a:z9 s): TwA 37 s:=Yv s a _ sm
def yO (s:Sa)(b:z9 s): zK 37 [s.a] s.a:=(l9 s b).k
def bE (s:Sa)(a:z9 s): TwC 37 s:=(l9 s a).o
def Yw (l:List Fm)(n i:Nat)(R:List AV): List (List AV):=if i<=n then l.map Fm.c else(l.map Fm.c).set n R
def fmO (x:Fm)(b c:Nat): List AV:=[iI x.fn,iI x.at_,iI x.call,.sl (.l 90) b 3 x.locals.length c]
def bF (s:Sa)(hw:z9 s)(n:Nat)(x:Fm)(hx:s.frames[n]?=some x)(hn:n+1=s.frames.length): zG 166 2 (λ_=>[s.a]) (λ_=>[]) (λι q=>(.agg [.bool s.plain,vAl_ s.mon.mem.allocs,iI s.mon.mem.next,vSs_ s.mon.stacks,vCi_ s.mon.running,iI s.mon.ntag,iI s.mon.ncall,.sl (ι 0) (q 0).1 4 s.frames.length (q 0).2,vCi_ s.prints,vCi_ s.result])) (λι q=>[⟨(q 0).1,(q 0).2,4,64,(s.frames.map Fm.c).set n [iI x.fn,iI x.at_,iI x.call,.sl (ι 1) (q 1).1 3 x.locals.length (q 1).2],false⟩,⟨(q 1).1,(q 1).2,3,53,x.locals.map Po.c,false⟩]):=by
 obtain⟨pl,⟨⟨l,next⟩,st,rn,nt,nc⟩,fr,pr,re⟩:=s;obtain⟨⟨⟨hl,hs⟩,h6,h7,h4⟩,V,L,Z,h3⟩:=hw;simp only at *;obtain⟨hb,Y⟩:=zS.1 hx;have Q:=jF (yb Fm.one fr) (by simpa using V);have R:=tY (yb tE pr) (by simpa using Z);have S:=tY (yb tE re) (by simpa using h3);have P:=tc (yb Al.one l) (by simpa using hl);have U:=sX (yb Ss.one st) (by simpa using h6);have T:=oQ (yb tE rn) (by simpa using h4);refine eG [1,5,8,12,17,21,23] func166 λX=>?_;go_simp;intro u z;refine wA hP ⟨[(8,.l 1,7),(11,.l 1,8),(14,.l 1,9),(17,.l 1,7),(18,.l 1,8),(19,.l 1,9)],false⟩ [10,13,16] dk ?_;go_simp;repeat'(first|((first|(refine xM Q ?_;intro _ _)|(refine xM R ?_;intro _ _)|(refine xM S ?_;intro _ _));try go_simp)|with_reducible first|apply ai|intro)
 rename_i b d f j g m;refine zf hP (B:=[5,6,8,12,17,21,23]) (G:=Nat×Nat×Nat) (λv=>[(1,.ptr (.l 1) u 10 0 0),(2,.ptr (.l 2) z 10 0 0),(22,iI fr.length),(23,iI v.1)])
  (λv=>[(.l 1,⟨u,1,10,35,[[.bool pl,vAl_ l,iI next,vSs_ st,vCi_ rn,iI nt,iI nc,.sl (.l 10) b 4 fr.length d,.sl (.l 13) f 1 pr.length j,.sl (.l 16) g 1 re.length m]],false⟩),(.l 2,⟨z,1,10,35,[zr0],false⟩),(.l 10,⟨b,d,4,64,Yw fr n v.1 (fmO x v.2.1 v.2.2),false⟩),(.l 13,⟨f,j,1,2,pr.map ci,false⟩),(.l 16,⟨g,m,1,2,re.map ci,false⟩)]++(if v.1<=n then [] else [(.l 90,⟨v.2.1,v.2.2,3,53,x.locals.map Po.c,false⟩)])) (λv=>v.1<=fr.length) (λv=>fr.length-v.1) (0,0,0) dk sm ?_ ?_ ?_
 ·go_simp
 ·go_simp;unfold Yw;simp
 ·rintro⟨i,E,F⟩ hi;simp only at hi;by_cases e:i<fr.length
  ·rcases Nat.lt_or_ge i n with W|W
   ·have K:i<=n:=om;have M:i+1<=n:=om;have I:=nL (yb Po.one fr[i].locals) (by simpa using L _ (zM e));have ze:((fr.map Fm.c).set i [iI fr[i].fn,iI fr[i].at_,iI fr[i].call,vPo_ fr[i].locals])=fr.map Fm.c:=wL e rfl;simp only[if_pos K,Yw];go_simp;refine zh hP ⟨[(26,.l 1,7),(29,.l 1,7),(33,.l 10,3),(37,.l 10,3)],false⟩ dk ?_;go_simp;repeat'(first|(apply zd I;try go_simp)|with_reducible first|apply ai|intro)
    refine aO [] ?_;go_simp;refine⟨i+1,om,om,wrS om,0,0,λh=>absurd h om,?_⟩;rw[if_pos M];go_simp
   ·obtain rfl:i=n:=om;obtain rfl:=Y;have K:i<=i:=om;have M:¬i+1<=i:=om;have I:=ln (yb Po.one fr[i].locals) (by simpa using L _ (zM e));have H:∀r,((fr.map Fm.c).set i r)[i]?=some r:=λr=>by simp[e]
    simp only[if_pos K,Yw];go_simp;refine wA hP ⟨[(26,.l 1,7),(29,.l 1,7),(33,.l 10,3),(37,.l 10,3)],false⟩ [35] dk ?_;go_simp;repeat'(first|(refine xM I ?_;intro _ _;try go_simp)|with_reducible first|apply ai|intro)
    rename_i C D;refine sT (.l 35) (.l 90) (.l 10) i 3 (row:=[iI fr[i].fn,iI fr[i].at_,iI fr[i].call,.sl (.l 35) C 3 fr[i].locals.length D]) rfl rfl rfl (by decide) (H _) rfl ?_;refine aO [] ?_;go_simp;refine⟨i+1,om,om,wrS om,C,D,?_,?_⟩
    ·rw[if_neg M];rfl
    ·rw[if_neg M];go_simp
  ·obtain rfl:i=fr.length:=om;have K:¬fr.length<=n:=om;simp only[if_neg K,Yw];go_simp;refine wA hP ⟨[(46,.l 1,1),(51,.l 1,3),(56,.l 1,4),(61,.l 1,1),(63,.l 1,3),(65,.l 1,4)],false⟩ [48,53,58] dk ?_;go_simp;repeat'(first|((first|(refine xM P ?_;intro _ _)|(refine xM U ?_;intro _ _)|(refine xM T ?_;intro _ _));try go_simp)|with_reducible first|apply ai|intro)
   rename_i w y p t N O;refine yU [.l 58] (.l 1) 0 4 (row:=[.bool pl,.sl (.l 48) w 3 l.length y,iI next,.sl (.l 53) p 2 st.length t,.sl (.l 58) N 1 rn.length O,iI nt,iI nc,.sl (.l 10) b 4 fr.length d,.sl (.l 13) f 1 pr.length j,.sl (.l 16) g 1 re.length m]) (v:=vCi_ rn) ?_;refine aO [12,17,21,23] ?_;go_simp;refine lN [12,17,21,23] (λi=>[(1,.ptr (.l 1) u 10 0 0),(2,.ptr (.l 2) z 10 0 0),(4,.ptr (.l 1) u 10 0 1),(71,iI l.length),(72,iI i)]) (λi=>[(.l 1,⟨u,1,10,35,[[.bool pl,.sl (.l 48) w 3 l.length y,iI next,.sl (.l 53) p 2 st.length t,vCi_ rn,iI nt,iI nc,.sl (.l 10) b 4 fr.length d,.sl (.l 13) f 1 pr.length j,.sl (.l 16) g 1 re.length m]],false⟩),(.l 2,⟨z,1,10,35,[zr0],false⟩),(.l 10,⟨b,d,4,64,(fr.map Fm.c).set n (fmO x E F),false⟩),(.l 90,⟨E,F,3,53,x.locals.map Po.c,false⟩),(.l 13,⟨f,j,1,2,pr.map ci,false⟩),(.l 16,⟨g,m,1,2,re.map ci,false⟩),(.l 48,⟨w,y,3,170,l.map Al.c,false⟩),(.l 53,⟨p,t,2,124,st.map Ss.c,false⟩)]) (λi=>i<=l.length) (λi=>l.length-i) 0 ?_
   rintro i hi;by_cases e:i<l.length
   ·have I:=xE (yb Ce.one l[i].cells) (by simpa using hs _ (zM e));go_simp;refine zh hP ⟨[(78,.l 1,1),(84,.l 1,1),(88,.l 48,2),(92,.l 48,2)],false⟩ dk ?_;go_simp;repeat'(first|(apply zd I;try go_simp)|with_reducible first|apply ai|intro)
    refine⟨i+1,om,om,wrS om,wL e rfl⟩
   ·obtain rfl:i=l.length:=om;go_simp;refine yU [.l 48] (.l 1) 0 1 (row:=[.bool pl,.sl (.l 48) w 3 l.length y,iI next,.sl (.l 53) p 2 st.length t,vCi_ rn,iI nt,iI nc,.sl (.l 10) b 4 fr.length d,.sl (.l 13) f 1 pr.length j,.sl (.l 16) g 1 re.length m]) (v:=vAl_ l) ?_;refine aO [17,21,23] ?_;go_simp;refine lN [17,21,23] (λi=>[(1,.ptr (.l 1) u 10 0 0),(2,.ptr (.l 2) z 10 0 0),(4,.ptr (.l 1) u 10 0 1),(98,iI st.length),(99,iI i)]) (λi=>[(.l 1,⟨u,1,10,35,[[.bool pl,vAl_ l,iI next,.sl (.l 53) p 2 st.length t,vCi_ rn,iI nt,iI nc,.sl (.l 10) b 4 fr.length d,.sl (.l 13) f 1 pr.length j,.sl (.l 16) g 1 re.length m]],false⟩),(.l 2,⟨z,1,10,35,[zr0],false⟩),(.l 10,⟨b,d,4,64,(fr.map Fm.c).set n (fmO x E F),false⟩),(.l 90,⟨E,F,3,53,x.locals.map Po.c,false⟩),(.l 13,⟨f,j,1,2,pr.map ci,false⟩),(.l 16,⟨g,m,1,2,re.map ci,false⟩),(.l 53,⟨p,t,2,124,st.map Ss.c,false⟩)]) (λi=>i<=st.length) (λi=>st.length-i) 0 ?_
    rintro i hi;by_cases e:i<st.length
    ·obtain⟨h8,h9⟩:=h7 _ (zM e);have I:=qe (yb gW st[i].cells) (by simpa using h8);have ze:((st.map Ss.c).set i [iI st[i].num,vSk_ st[i].cells])=st.map Ss.c:=wL e rfl;have H:∀r,((st.map Ss.c).set i r)[i]?=some r:=λr=>by simp[e]
     go_simp;refine wA hP ⟨[(104,.l 1,3),(109,.l 1,3),(113,.l 53,1),(117,.l 53,1)],false⟩ [115] dk ?_;go_simp;repeat'(first|(refine xM I ?_;intro _ _;try go_simp)|with_reducible first|apply ai|intro)
     rename_i C D;refine lN [21,23] (λk=>[(1,.ptr (.l 1) u 10 0 0),(2,.ptr (.l 2) z 10 0 0),(4,.ptr (.l 1) u 10 0 1),(6,iI i),(98,iI st.length),(99,iI i),(126,iI st[i].cells.length),(127,iI k)]) (λk=>[(.l 1,⟨u,1,10,35,[[.bool pl,vAl_ l,iI next,.sl (.l 53) p 2 st.length t,vCi_ rn,iI nt,iI nc,.sl (.l 10) b 4 fr.length d,.sl (.l 13) f 1 pr.length j,.sl (.l 16) g 1 re.length m]],false⟩),(.l 2,⟨z,1,10,35,[zr0],false⟩),(.l 10,⟨b,d,4,64,(fr.map Fm.c).set n (fmO x E F),false⟩),(.l 90,⟨E,F,3,53,x.locals.map Po.c,false⟩),(.l 13,⟨f,j,1,2,pr.map ci,false⟩),(.l 16,⟨g,m,1,2,re.map ci,false⟩),(.l 53,⟨p,t,2,124,(st.map Ss.c).set i [iI st[i].num,.sl (.l 115) C 1 st[i].cells.length D],false⟩),(.l 115,⟨C,D,1,126,st[i].cells.map sk,false⟩)]) (λk=>k<=st[i].cells.length) (λk=>st[i].cells.length-k) 0 ?_
     rintro k ha;by_cases A:k<st[i].cells.length
     ·have J:=wT (yb It.one st[i].cells[k]) (by simpa using h9 _ (zM A));have h5:((st[i].cells.map sk).set k [vIt_ st[i].cells[k]])=st[i].cells.map sk:=wL A rfl;go_simp;refine zh hP ⟨[(132,.l 1,3),(136,.l 53,1),(141,.l 1,3),(145,.l 53,1),(148,.l 115,0),(151,.l 115,0)],false⟩ dk ?_;go_simp;repeat'(first|(apply zd J;try go_simp)|with_reducible first|apply ai|intro)
      exact⟨k+1,om,om,wrS om⟩
     ·have J:k=st[i].cells.length:=om;subst J;go_simp;refine y8 [.l 115] (.l 53) i 1 (row:=[iI st[i].num,.sl (.l 115) C 1 st[i].cells.length D]) (v:=vSk_ st[i].cells) rfl (H _) rfl (by decide) (SV.own (o:=⟨C,D,1,126,st[i].cells.map sk,false⟩) rfl rfl rfl rfl (Nat.le_of_eq (zU _).symm) (by decide) (zT sm)) ?_;refine aO [] ?_;go_simp;exact⟨i+1,om,om,wrS om⟩
    ·obtain rfl:i=st.length:=om;go_simp;refine⟨[.l 10,.l 90],dk,λk=>if k=0 then(b,d) else(E,F),⟨⟨_,rfl,rfl,rfl,rfl,rfl,rfl,?_⟩,OB,trivial⟩,?_,rfl⟩
     ·exact xi _ _ _
     ·go_simp
attribute [go_sem] yh sx
def MeV.wf {m:Me}(h:MeV m): wfA m:=⟨by have:=h.len;omega,λa b=>by have:=(h.al a b).c2;omega⟩
def WhV.wfm(h:WhV s): wfM s.mon:=by
  cases hp:s.plain with
  |false=>exact(h.mo hp).wf
  |true =>
    have a:=h.pl hp;exact⟨h.me.wf,by rw[a];simp,by rw[a];simp,by rw[a];simp⟩
def pM{m:Mo}(a:z9 s)(h:WhV (yh s m)): z9 (yh s m):=⟨h.wfm,a.fr,a.lo,a.pr,a.re⟩
def ru(hp:s.plain=false): ofF s = [.fn 256 [.rp (Mo.c s.mon)],.fn 258 [.rp (Mo.c s.mon)],.fn 260 [.rp (Mo.c s.mon)],.fn 262 [.rp (Mo.c s.mon)],.fn 264 [.rp (Mo.c s.mon)],.fn 266 [.rp (Mo.c s.mon)],.fn 267 [.rp (Mo.c s.mon)]]:=by unfold ofF;rw[hp];rfl
def rx(hp:s.plain=true): ofF s = [.fn 269 [.rp (Mo.c s.mon)],.fn 271 [.rp (Mo.c s.mon),.rp [.fn 268 []]],.fn 273 [.rp (Mo.c s.mon)],.fn 274 [.rp (Mo.c s.mon),.rp [.fn 268 []]],
     .fn 276 [.rp (Mo.c s.mon),.rp [.fn 268 []]],.fn 278 [.rp (Mo.c s.mon)],.fn 279 [.rp (Mo.c s.mon)]]:=by unfold ofF;rw[hp];rfl
def Vk(h:WhV s){q:Po}(g:yw (gLd s q n).2.2.1 (gLd s q n).2.2.2=0): (gLd s q n).2.1.length<1000000:=by
  obtain⟨a,b⟩:=yX.1 g;obtain⟨_,_,_,_,_,c,_,d⟩:=jy h a b;rw[d];by_cases e:fdL s.mon.mem q n = []
  · rw[e];simp
  · obtain⟨k,x,f⟩:=i5 c e
    have:=h.me.wf.2 x (zF f.hx)
    rw[f.eq];simp;omega
def Vl(h:WhV s){q:Po}: (sLd s q n).2.1.length<1000000:=by
  unfold sLd;split
  · exact Vk h (by assumption)
  · simp
def IH(h:WhV s)(b:(gAl s n).2.2=0): WhV (yh s (gAl s n).1):=by
  unfold gAl at *;cases hp:s.plain with
  |true =>
    simp only[hp,if_true] at b ⊢;exact⟨λe=>by unfold yh at e;simp[hp] at e,λ_=>rfl,(TG b).1⟩
  |false =>
    simp only[hp,Bool.false_eq_true,if_false] at b ⊢;have a:=(Im (h.mo hp) b).1;exact⟨λ_=>a,λe=>by unfold yh at e;simp[hp] at e,a.me⟩
def Yx {s:Sa}{n:Int}(a:¬(gAl s n).2.2=0): (gAl s n).2.1=po0:=by
  unfold gAl at *;cases hp:s.plain with
  |true =>
    simp only[hp,if_true] at a ⊢;unfold uJ;rw[if_neg a];rfl
  |false =>
    simp only[hp,Bool.false_eq_true,if_false] at a ⊢;unfold mAl at *;split
    · rfl
    · rename_i c
      rw[if_neg c] at a;split
      · rfl
      · rename_i c2
        rw[if_neg c2] at a;exact absurd rfl a
def Yy (s:Sa)(n:Int)(hp:s.plain=false)(b:WhV s): zK 264 [iI n,.rp (Mo.c s.mon)] (.tup [(gEd s n).1.a,iU (gEd s n).2.1,iI (gEd s n).2.2]):=by
  have h:=Ep s.mon n (b.mo hp);unfold gEd;rw[hp];simp only[Bool.false_eq_true,if_false];by_cases c:¬(mEd s.mon n).2.2=0\/¬(mEd s.mon n).2.1=0
  · rw[if_pos c] at h ⊢;exact h
  · rw[if_neg c] at h ⊢;exact h
def Yz (s:Sa)(n:Int)(hp:s.plain=true)(b:WhV s): zK 276 [iI n,.rp (Mo.c s.mon),.rp [.fn 268 []]] (.tup [(gEd s n).1.a,iU (gEd s n).2.1,iI (gEd s n).2.2]):=by
  have h:=I5 s.mon n b.me.wf;unfold gEd;rw[hp];simp only[if_true];by_cases c:yV s.mon.mem n=0
  · rw[if_pos c] at h ⊢;exact h
  · rw[if_neg c] at h ⊢;exact h
def qq (s:Sa)(p:Po)(n:Int)(y:z9 s)(o:WhV s): zK 174 [s.a,p.a,iI n] (.tup [(sLd s p n).1.a,.vec 5 ((sLd s p n).2.1.map Ce.c),iU (sLd s p n).2.2]):=by
  have f:=wY s;have d:=x3 (gLd s p n).2.2.1 (gLd s p n).2.2.2;have k:=λz A=>pM y (jy o (q:=p) (n:=n) z A).1;have j:=yN s y;have i:=Vk o (q:=p) (n:=n);have x:sLd s p n=if yw (gLd s p n).2.2.1 (gLd s p n).2.2.2=0 then(yh s (gLd s p n).1,(gLd s p n).2.1,0) else(s,[],yw (gLd s p n).2.2.1 (gLd s p n).2.2.2):=rfl;rw[x];clear x;have m:=@yX (gLd s p n).2.2.1 (gLd s p n).2.2.2;cases hp:s.plain with
  |false =>
    have h:=Ek s.mon p n (o.mo hp);have v:gLd s p n=mLd s.mon p n:=by unfold gLd;rw[hp];rfl
    rw[ru hp] at f;rw[v] at d m k i ⊢;generalize mLd s.mon p n=g at *;obtain⟨C,w,r,t⟩:=g;simp only at *;clear v o;obtain⟨pl,mo,fr,pr,re⟩:=s;simp only at hp;subst hp;by_cases b:yw r t=0
    · obtain⟨rfl,rfl⟩:=m.1 b
      have e:=yN _ (k rfl rfl);have u:=xE (yb Ce.one w) (by simpa using i b);clear m k i;rw[if_pos b];rw[b] at d;refine eK [2] func174 λX=>?_;go_simp;repeat'(first|((first|apply zd j|apply zd f|apply zd h|apply zd d|apply zd e|apply zd u);try go_simp)|with_reducible first|apply ai|intro)
      all_goals try(refine zh hP ⟨[(3,.l 3,0),(4,.l 4,0),(10,.l 10,0)],true⟩ dk ?_;go_simp)
      repeat'(first|((first|apply zd j|apply zd f|apply zd h|apply zd d|apply zd e|apply zd u);try go_simp)|with_reducible first|apply ai|intro)
    · have hb:=z4 b
      clear m k i;rw[if_neg b];generalize yw r t=B at *;refine eK [2] func174 λX=>?_;go_simp;repeat'(first|((first|apply zd j|apply zd f|apply zd h|apply zd d);try go_simp)|with_reducible first|apply ai|intro)
      all_goals try(refine zh hP ⟨[(3,.l 3,0),(4,.l 4,0),(10,.l 10,0)],true⟩ dk ?_;go_simp)
      repeat'(first|((first|apply zd j|apply zd f|apply zd h|apply zd d);try go_simp)|with_reducible first|apply ai|intro)
  |true =>
    have h:=Eo s.mon p n o.me.wf;have v:gLd s p n=(s.mon,ldL s.mon.mem p n,ldW s.mon.mem p n,fdE s.mon.mem p n):=by unfold gLd;rw[hp];rfl
    rw[rx hp] at f;rw[v] at d m k i ⊢;simp only at *;generalize ldL s.mon.mem p n=w at *;generalize ldW s.mon.mem p n=r at *;generalize fdE s.mon.mem p n=t at *;clear v o;obtain⟨pl,mo,fr,pr,re⟩:=s;simp only at hp;subst hp;by_cases b:yw r t=0
    · obtain⟨rfl,rfl⟩:=m.1 b
      have e:=yN _ (k rfl rfl);have u:=xE (yb Ce.one w) (by simpa using i b);clear m k i;rw[if_pos b];rw[b] at d;refine eK [2] func174 λX=>?_;go_simp;repeat'(first|((first|apply zd j|apply zd f|apply zd h|apply zd d|apply zd e|apply zd u);try go_simp)|with_reducible first|apply ai|intro)
      all_goals try(refine zh hP ⟨[(3,.l 3,0),(4,.l 4,0),(10,.l 10,0)],true⟩ dk ?_;go_simp)
      repeat'(first|((first|apply zd j|apply zd f|apply zd h|apply zd d|apply zd e|apply zd u);try go_simp)|with_reducible first|apply ai|intro)
    · have hb:=z4 b
      clear m k i;rw[if_neg b];generalize yw r t=B at *;refine eK [2] func174 λX=>?_;go_simp;repeat'(first|((first|apply zd j|apply zd f|apply zd h|apply zd d);try go_simp)|with_reducible first|apply ai|intro)
      all_goals try(refine zh hP ⟨[(3,.l 3,0),(4,.l 4,0),(10,.l 10,0)],true⟩ dk ?_;go_simp)
      repeat'(first|((first|apply zd j|apply zd f|apply zd h|apply zd d);try go_simp)|with_reducible first|apply ai|intro)
def nY (s:Sa)(p:Po)(l:List Ce)(hl:l.length<1000000)(u:z9 s)(o:WhV s)(d:(sSt s p l).2=0): zG 217 3 (λ_=>[s.a,p.a,vCe_ l]) (λ_=>[]) (λι q=>.tup [(.agg [.bool ((sSt s p l).1).plain,.vec 3 (((sSt s p l).1).mon.mem.allocs.map Al.c),iI ((sSt s p l).1).mon.mem.next,.vec 2 (((sSt s p l).1).mon.stacks.map Ss.c),.vec 1 (((sSt s p l).1).mon.running.map ci),iI ((sSt s p l).1).mon.ntag,iI ((sSt s p l).1).mon.ncall,.sl (ι 0) (q 0).1 4 ((sSt s p l).1).frames.length (q 0).2,.sl (ι 1) (q 1).1 1 ((sSt s p l).1).prints.length (q 1).2,.sl (ι 2) (q 2).1 1 ((sSt s p l).1).result.length (q 2).2]),iU 0]) (λ_ q=>[⟨(q 0).1,(q 0).2,4,64,((sSt s p l).1).frames.map Fm.c,false⟩,⟨(q 1).1,(q 1).2,1,2,((sSt s p l).1).prints.map ci,false⟩,⟨(q 2).1,(q 2).2,1,2,((sSt s p l).1).result.map ci,false⟩]):=by
  have h:=wY s;have e:=x3 (gSt s p l).2.1 (gSt s p l).2.2;have i:=λy z=>pM u (mQ o (q:=p) (l:=l) y z).1;have r:=yN s u;have t:sSt s p l=if yw (gSt s p l).2.1 (gSt s p l).2.2=0 then(yh s (gSt s p l).1,0) else(s,yw (gSt s p l).2.1 (gSt s p l).2.2):=rfl;rw[t] at d ⊢;clear t;have f:yw (gSt s p l).2.1 (gSt s p l).2.2=0:=zC λc=>by rw[if_neg c] at d;exact c d
  rw[if_pos f];clear d;have j:=@yX (gSt s p l).2.1 (gSt s p l).2.2;cases hp:s.plain with
  |false =>
    have k:=Lz s.mon p l (o.mo hp) hl;have m:gSt s p l=mSt s.mon p l:=by unfold gSt;rw[hp];rfl
    rw[ru hp] at h;rw[m] at e j f i ⊢;generalize mSt s.mon p l=g at *;obtain⟨v,w,x⟩:=g;simp only at *;clear m o;obtain⟨pl,mo,fr,pr,re⟩:=s;simp only at hp;subst hp;obtain⟨rfl,rfl⟩:=j.1 f;have b:=vj _ (i rfl rfl);clear j i;rw[f] at e;refine eG [2] func217 λX=>?_;go_simp;repeat'(first|((first|apply zd h|apply zd k|apply zd e|apply zd r|(refine yR [] [.l 80,.l 81,.l 82] b ?_;intro q));try go_simp)|with_reducible first|apply ai|intro)
    all_goals try(refine zh hP ⟨[(3,.l 3,0),(4,.l 4,0),(9,.l 9,0)],true⟩ dk ?_;go_simp)
    repeat'(first|((first|apply zd h|apply zd k|apply zd e|apply zd r|(refine yR [] [.l 80,.l 81,.l 82] b ?_;intro q));try go_simp)|with_reducible first|apply ai|intro)
    all_goals exact⟨[.l 80,.l 81,.l 82],dk,q,⟨OB,OB,OB,trivial⟩,by go_simp,rfl⟩
  |true =>
    have k:=Ps s.mon p l o.me.wf hl;have m:gSt s p l=(sx (stM s.mon.mem p l),stW s.mon.mem p l,stE s.mon.mem p l):=by unfold gSt;rw[hp];rfl
    rw[rx hp] at h;rw[m] at e j f i ⊢;simp only at *;generalize stM s.mon.mem p l=v at *;generalize stW s.mon.mem p l=w at *;generalize stE s.mon.mem p l=x at *;clear m o;obtain⟨pl,mo,fr,pr,re⟩:=s;simp only at hp;subst hp;obtain⟨rfl,rfl⟩:=j.1 f;have b:=vj _ (i rfl rfl);clear j i;rw[f] at e;refine eG [2] func217 λX=>?_;go_simp;repeat'(first|((first|apply zd h|apply zd k|apply zd e|apply zd r|(refine yR [] [.l 80,.l 81,.l 82] b ?_;intro q));try go_simp)|with_reducible first|apply ai|intro)
    all_goals try(refine zh hP ⟨[(3,.l 3,0),(4,.l 4,0),(9,.l 9,0)],true⟩ dk ?_;go_simp)
    repeat'(first|((first|apply zd h|apply zd k|apply zd e|apply zd r|(refine yR [] [.l 80,.l 81,.l 82] b ?_;intro q));try go_simp)|with_reducible first|apply ai|intro)
    all_goals exact⟨[.l 80,.l 81,.l 82],dk,q,⟨OB,OB,OB,trivial⟩,by go_simp,rfl⟩
def ry (s:Sa)(p:Po)(l:List Ce)(hl:l.length<1000000)(u:z9 s)(e:WhV s): zK 217 [s.a,p.a,vCe_ l] (.tup [(sSt s p l).1.a,iU (sSt s p l).2]):=by
  by_cases j:(sSt s p l).2=0
  · rw[j]
    exact(nY s p l hl u e j).k1 λq=>by go_simp
  have d:=wY s;have b:=x3 (gSt s p l).2.1 (gSt s p l).2.2;have m:=λx y=>pM u (mQ e (q:=p) (l:=l) x y).1;have k:=yN s u;have i:¬yw (gSt s p l).2.1 (gSt s p l).2.2=0:=λc=>j (by unfold sSt;rw[if_pos c]);have v:sSt s p l=(s,yw (gSt s p l).2.1 (gSt s p l).2.2):=by unfold sSt;rw[if_neg i]
  rw[v];clear v j;have o:=@yX (gSt s p l).2.1 (gSt s p l).2.2;cases hp:s.plain with
  |false =>
    have f:=Lz s.mon p l (e.mo hp) hl;have h:gSt s p l=mSt s.mon p l:=by unfold gSt;rw[hp];rfl
    rw[ru hp] at d;rw[h] at b o i m ⊢;generalize mSt s.mon p l=g at *;obtain⟨w,r,t⟩:=g;simp only at *;clear h e;obtain⟨pl,mo,fr,pr,re⟩:=s;simp only at hp;subst hp;have hb:=z4 i;clear o m;generalize yw r t=z at *;refine eK [2] func217 λX=>?_;go_simp;repeat'(first|((first|apply zd k|apply zd d|apply zd f|apply zd b);try go_simp)|with_reducible first|apply ai|intro)
    all_goals try(refine zh hP ⟨[(3,.l 3,0),(4,.l 4,0),(9,.l 9,0)],true⟩ dk ?_;go_simp)
    repeat'(first|((first|apply zd k|apply zd d|apply zd f|apply zd b);try go_simp)|with_reducible first|apply ai|intro)
  |true =>
    have f:=Ps s.mon p l e.me.wf hl;have h:gSt s p l=(sx (stM s.mon.mem p l),stW s.mon.mem p l,stE s.mon.mem p l):=by unfold gSt;rw[hp];rfl
    rw[rx hp] at d;rw[h] at b o i m ⊢;simp only at *;generalize stM s.mon.mem p l=w at *;generalize stW s.mon.mem p l=r at *;generalize stE s.mon.mem p l=t at *;clear h e;obtain⟨pl,mo,fr,pr,re⟩:=s;simp only at hp;subst hp;have hb:=z4 i;clear o m;generalize yw r t=z at *;refine eK [2] func217 λX=>?_;go_simp;repeat'(first|((first|apply zd k|apply zd d|apply zd f|apply zd b);try go_simp)|with_reducible first|apply ai|intro)
    all_goals try(refine zh hP ⟨[(3,.l 3,0),(4,.l 4,0),(9,.l 9,0)],true⟩ dk ?_;go_simp)
    repeat'(first|((first|apply zd k|apply zd d|apply zd f|apply zd b);try go_simp)|with_reducible first|apply ai|intro)
def rU (s:Sa)(p:Po)(l:List Ce)(hl:l.length<1000000)(f:z9 s)(e:WhV s)(d:(sSt s p l).2=0): zG 217 1 (λ_=>[s.a,p.a,vCe_ l]) (λ_=>[]) (λι q=>.tup [(.agg [.bool ((sSt s p l).1).plain,.vec 3 (((sSt s p l).1).mon.mem.allocs.map Al.c),iI ((sSt s p l).1).mon.mem.next,.vec 2 (((sSt s p l).1).mon.stacks.map Ss.c),.vec 1 (((sSt s p l).1).mon.running.map ci),iI ((sSt s p l).1).mon.ntag,iI ((sSt s p l).1).mon.ncall,.sl (ι 0) (q 0).1 4 ((sSt s p l).1).frames.length (q 0).2,.vec 1 (((sSt s p l).1).prints.map ci),.vec 1 (((sSt s p l).1).result.map ci)]),iU 0]) (λ_ q=>[⟨(q 0).1,(q 0).2,4,64,((sSt s p l).1).frames.map Fm.c,false⟩]) :=
  (nY s p l hl f e d).one 0 (λb=>⟨b.1,b.2,4,64,(sSt s p l).1.frames.map Fm.c,false⟩) (λi b=>.tup [.agg (saF (sSt s p l).1 i b.1 b.2),iU 0]) (λq=>rfl) (λi j p X w u h=>by simpa only[saF,RV,RL] using h) (λq=>by go_simp)
def oD (s:Sa)(p:Po)(n kind call:Int)(x:0<=kind)(u:z9 s)(r:WhV s): zK 218 [s.a,p.a,iI n,iU kind,iI call] (.tup [(sRt s p n kind call).1.a,(sRt s p n kind call).2.1.a,iU (sRt s p n kind call).2.2]):=by
  have d:=wY s;have b:=x3 (gRt s p n kind call).2.2.1 (gRt s p n kind call).2.2.2;have i:=λv w=>pM u (f6 r (q:=p) (n:=n) (kind:=kind) (call:=call) v w).1;have f:=yN s u;have t:sRt s p n kind call=if yw (gRt s p n kind call).2.2.1 (gRt s p n kind call).2.2.2=0 then(yh s (gRt s p n kind call).1,(gRt s p n kind call).2.1,0) else(s,po0,yw (gRt s p n kind call).2.2.1 (gRt s p n kind call).2.2.2):=rfl;rw[t];clear t;have j:=@yX (gRt s p n kind call).2.2.1 (gRt s p n kind call).2.2.2;cases hp:s.plain with
  |false =>
    have e:=El s.mon p n kind call (r.mo hp) x;have o:gRt s p n kind call=mRt s.mon p n kind call:=by unfold gRt;rw[hp];rfl
    rw[ru hp] at d;rw[o] at b j i ⊢;generalize mRt s.mon p n kind call=g at *;obtain⟨z,A,k,m⟩:=g;simp only at *;clear o r;obtain⟨pl,mo,fr,pr,re⟩:=s;simp only at hp;subst hp;by_cases h:yw k m=0
    · obtain⟨rfl,rfl⟩:=j.1 h
      have c:=yN _ (i rfl rfl);clear j i;rw[if_pos h];rw[h] at b;refine eK [2,7] func218 λX=>?_;go_simp;repeat'(first|((first|apply zd f|apply zd d|apply zd e|apply zd b|apply zd c);try go_simp)|with_reducible first|apply ai|intro)
      all_goals try(refine zh hP ⟨[(5,.l 5,0),(6,.l 6,0),(14,.l 14,0),(15,.l 15,0)],true⟩ dk ?_;go_simp)
      repeat'(first|((first|apply zd f|apply zd d|apply zd e|apply zd b|apply zd c);try go_simp)|with_reducible first|apply ai|intro)
      all_goals try(refine zh hP ⟨[(13,.l 13,0),(15,.l 15,0),(10,.l 10,0),(11,.l 11,0)],true⟩ dk ?_;go_simp)
      repeat'(first|((first|apply zd f|apply zd d|apply zd e|apply zd b|apply zd c);try go_simp)|with_reducible first|apply ai|intro)
    · have hb:=z4 h
      clear j i;rw[if_neg h];generalize yw k m=y at *;refine eK [2,7] func218 λX=>?_;go_simp;repeat'(first|((first|apply zd f|apply zd d|apply zd e|apply zd b);try go_simp)|with_reducible first|apply ai|intro)
      all_goals try(refine zh hP ⟨[(5,.l 5,0),(6,.l 6,0),(14,.l 14,0),(15,.l 15,0)],true⟩ dk ?_;go_simp)
      repeat'(first|((first|apply zd f|apply zd d|apply zd e|apply zd b);try go_simp)|with_reducible first|apply ai|intro)
      all_goals try(refine zh hP ⟨[(13,.l 13,0),(15,.l 15,0),(10,.l 10,0),(11,.l 11,0)],true⟩ dk ?_;go_simp)
      repeat'(first|((first|apply zd f|apply zd d|apply zd e|apply zd b);try go_simp)|with_reducible first|apply ai|intro)
  |true =>
    have e:=I2 s.mon p n kind call r.me.wf;have o:gRt s p n kind call=(s.mon,⟨p.al,p.off,0⟩,(if ldW s.mon.mem p n=4 then 0 else ldW s.mon.mem p n),fdE s.mon.mem p n):=by unfold gRt;rw[hp];rfl
    rw[rx hp] at d;rw[o] at b j i ⊢;simp only at *;generalize (if ldW s.mon.mem p n=4 then 0 else ldW s.mon.mem p n)=k at *;generalize fdE s.mon.mem p n=m at *;clear o r;obtain⟨pl,mo,fr,pr,re⟩:=s;simp only at hp;subst hp;by_cases h:yw k m=0
    · obtain⟨rfl,rfl⟩:=j.1 h
      have c:=yN _ (i rfl rfl);clear j i;rw[if_pos h];rw[h] at b;refine eK [2,7] func218 λX=>?_;go_simp;repeat'(first|((first|apply zd f|apply zd d|apply zd e|apply zd b|apply zd c);try go_simp)|with_reducible first|apply ai|intro)
      all_goals try(refine zh hP ⟨[(5,.l 5,0),(6,.l 6,0),(14,.l 14,0),(15,.l 15,0)],true⟩ dk ?_;go_simp)
      repeat'(first|((first|apply zd f|apply zd d|apply zd e|apply zd b|apply zd c);try go_simp)|with_reducible first|apply ai|intro)
      all_goals try(refine zh hP ⟨[(13,.l 13,0),(15,.l 15,0),(10,.l 10,0),(11,.l 11,0)],true⟩ dk ?_;go_simp)
      repeat'(first|((first|apply zd f|apply zd d|apply zd e|apply zd b|apply zd c);try go_simp)|with_reducible first|apply ai|intro)
    · have hb:=z4 h
      clear j i;rw[if_neg h];generalize yw k m=y at *;refine eK [2,7] func218 λX=>?_;go_simp;repeat'(first|((first|apply zd f|apply zd d|apply zd e|apply zd b);try go_simp)|with_reducible first|apply ai|intro)
      all_goals try(refine zh hP ⟨[(5,.l 5,0),(6,.l 6,0),(14,.l 14,0),(15,.l 15,0)],true⟩ dk ?_;go_simp)
      repeat'(first|((first|apply zd f|apply zd d|apply zd e|apply zd b);try go_simp)|with_reducible first|apply ai|intro)
      all_goals try(refine zh hP ⟨[(13,.l 13,0),(15,.l 15,0),(10,.l 10,0),(11,.l 11,0)],true⟩ dk ?_;go_simp)
      repeat'(first|((first|apply zd f|apply zd d|apply zd e|apply zd b);try go_simp)|with_reducible first|apply ai|intro)
def nZ (s:Sa)(n:Int)(r:z9 s)(o:WhV s)(f:(sAl s n).2.2=0): zG 167 3 (λ_=>[s.a,iI n]) (λ_=>[]) (λι q=>.tup [(.agg [.bool ((sAl s n).1).plain,.vec 3 (((sAl s n).1).mon.mem.allocs.map Al.c),iI ((sAl s n).1).mon.mem.next,.vec 2 (((sAl s n).1).mon.stacks.map Ss.c),.vec 1 (((sAl s n).1).mon.running.map ci),iI ((sAl s n).1).mon.ntag,iI ((sAl s n).1).mon.ncall,.sl (ι 0) (q 0).1 4 ((sAl s n).1).frames.length (q 0).2,.sl (ι 1) (q 1).1 1 ((sAl s n).1).prints.length (q 1).2,.sl (ι 2) (q 2).1 1 ((sAl s n).1).result.length (q 2).2]),(sAl s n).2.1.a,iU 0]) (λ_ q=>[⟨(q 0).1,(q 0).2,4,64,((sAl s n).1).frames.map Fm.c,false⟩,⟨(q 1).1,(q 1).2,1,2,((sAl s n).1).prints.map ci,false⟩,⟨(q 2).1,(q 2).2,1,2,((sAl s n).1).result.map ci,false⟩]):=by
  have h:=wY s;have d:=x3 0 (gAl s n).2.2;have w:=yN s r;have b:=vj s r;have e:=@Yx s n;have p:sAl s n=if yw 0 (gAl s n).2.2=0 then(yh s (gAl s n).1,(gAl s n).2.1,0) else(s,po0,yw 0 (gAl s n).2.2):=rfl;rw[p] at f ⊢;clear p;have j:yw 0 (gAl s n).2.2=0:=zC λc=>by rw[if_neg c] at f;exact c f
  rw[if_pos j];clear f;have k:=@yX 0 (gAl s n).2.2;cases hp:s.plain with
  |false =>
    have i:=Q4 s.mon n (o.mo hp);have m:gAl s n=mAl s.mon n:=by unfold gAl;rw[hp];rfl
    rw[ru hp] at h;rw[m] at d k j e ⊢;generalize mAl s.mon n=g at *;obtain⟨t,u,v⟩:=g;simp only at *;clear m o;obtain⟨pl,mo,fr,pr,re⟩:=s;simp only at hp;subst hp;obtain⟨-,rfl⟩:=k.1 j;clear k e;rw[j] at d;refine eG [4,7] func167 λX=>?_;go_simp;repeat'(first|((first|apply zd h|apply zd i|apply zd d|(refine yR [] [.l 80,.l 81,.l 82] b ?_;intro q));try go_simp)|with_reducible first|apply ai|intro)
    all_goals try(refine zh hP ⟨[(2,.l 2,0),(8,.l 8,0),(4,.l 4,0),(5,.l 5,0)],true⟩ dk ?_;go_simp)
    repeat'(first|((first|apply zd h|apply zd i|apply zd d|(refine yR [] [.l 80,.l 81,.l 82] b ?_;intro q));try go_simp)|with_reducible first|apply ai|intro)
    all_goals try(refine zh hP ⟨[(2,.l 2,0),(8,.l 8,0),(4,.l 4,0),(5,.l 5,0)],true⟩ dk ?_;go_simp)
    repeat'(first|((first|apply zd h|apply zd i|apply zd d|(refine yR [] [.l 80,.l 81,.l 82] b ?_;intro q));try go_simp)|with_reducible first|apply ai|intro)
    all_goals exact⟨[.l 80,.l 81,.l 82],dk,q,⟨OB,OB,OB,trivial⟩,by go_simp,rfl⟩
  |true =>
    have i:=UC s.mon n o.me.wf;have m:gAl s n=(sx (wz s.mon.mem n),⟨uJ s.mon.mem n,0,0⟩,wy s.mon.mem n):=by unfold gAl;rw[hp];rfl
    rw[rx hp] at h;rw[m] at d k j e ⊢;simp only at *;generalize wz s.mon.mem n=t at *;generalize uJ s.mon.mem n=u at *;generalize wy s.mon.mem n=v at *;clear m o;obtain⟨pl,mo,fr,pr,re⟩:=s;simp only at hp;subst hp;obtain⟨-,rfl⟩:=k.1 j;clear k e;rw[j] at d;refine eG [4,7] func167 λX=>?_;go_simp;repeat'(first|((first|apply zd h|apply zd i|apply zd d|(refine yR [] [.l 80,.l 81,.l 82] b ?_;intro q));try go_simp)|with_reducible first|apply ai|intro)
    all_goals try(refine zh hP ⟨[(2,.l 2,0),(8,.l 8,0),(4,.l 4,0),(5,.l 5,0)],true⟩ dk ?_;go_simp)
    repeat'(first|((first|apply zd h|apply zd i|apply zd d|(refine yR [] [.l 80,.l 81,.l 82] b ?_;intro q));try go_simp)|with_reducible first|apply ai|intro)
    all_goals try(refine zh hP ⟨[(2,.l 2,0),(8,.l 8,0),(4,.l 4,0),(5,.l 5,0)],true⟩ dk ?_;go_simp)
    repeat'(first|((first|apply zd h|apply zd i|apply zd d|(refine yR [] [.l 80,.l 81,.l 82] b ?_;intro q));try go_simp)|with_reducible first|apply ai|intro)
    all_goals exact⟨[.l 80,.l 81,.l 82],dk,q,⟨OB,OB,OB,trivial⟩,by go_simp,rfl⟩
def dK (s:Sa)(n:Int)(t:z9 s)(p:WhV s)(k:Nat)(x:Fm)(hx:s.frames[k]?=some x)(y:k+1=s.frames.length)(f:(sAl s n).2.2=0): zG 167 2 (λ_=>[s.a,iI n]) (λ_=>[]) (λι q=>.tup [(.agg [.bool ((sAl s n).1).plain,.vec 3 (((sAl s n).1).mon.mem.allocs.map Al.c),iI ((sAl s n).1).mon.mem.next,.vec 2 (((sAl s n).1).mon.stacks.map Ss.c),.vec 1 (((sAl s n).1).mon.running.map ci),iI ((sAl s n).1).mon.ntag,iI ((sAl s n).1).mon.ncall,.sl (ι 0) (q 0).1 4 ((sAl s n).1).frames.length (q 0).2,.vec 1 (((sAl s n).1).prints.map ci),.vec 1 (((sAl s n).1).result.map ci)]),(sAl s n).2.1.a,iU 0]) (λι q=>[⟨(q 0).1,(q 0).2,4,64,(((sAl s n).1).frames.map Fm.c).set k [iI x.fn,iI x.at_,iI x.call,.sl (ι 1) (q 1).1 3 x.locals.length (q 1).2],false⟩,⟨(q 1).1,(q 1).2,3,53,x.locals.map Po.c,false⟩]):=by
  have h:=wY s;have d:=x3 0 (gAl s n).2.2;have z:=yN s t;have b:=bF s t k x hx y;have e:=@Yx s n;have r:sAl s n=if yw 0 (gAl s n).2.2=0 then(yh s (gAl s n).1,(gAl s n).2.1,0) else(s,po0,yw 0 (gAl s n).2.2):=rfl;rw[r] at f ⊢;clear r;have j:yw 0 (gAl s n).2.2=0:=zC λc=>by rw[if_neg c] at f;exact c f
  rw[if_pos j];clear f;have m:=@yX 0 (gAl s n).2.2;cases hp:s.plain with
  |false =>
    have i:=Q4 s.mon n (p.mo hp);have o:gAl s n=mAl s.mon n:=by unfold gAl;rw[hp];rfl
    rw[ru hp] at h;rw[o] at d m j e ⊢;generalize mAl s.mon n=g at *;obtain⟨u,v,w⟩:=g;simp only at *;clear o p;obtain⟨pl,mo,fr,pr,re⟩:=s;simp only at hp;subst hp;obtain⟨-,rfl⟩:=m.1 j;clear m e;rw[j] at d;refine eG [4,7] func167 λX=>?_;go_simp;repeat'(first|((first|apply zd h|apply zd i|apply zd d|(refine yR [] [.l 80,.l 81] b ?_;intro q));try go_simp)|with_reducible first|apply ai|intro)
    all_goals try(refine zh hP ⟨[(2,.l 2,0),(8,.l 8,0),(4,.l 4,0),(5,.l 5,0)],true⟩ dk ?_;go_simp)
    repeat'(first|((first|apply zd h|apply zd i|apply zd d|(refine yR [] [.l 80,.l 81] b ?_;intro q));try go_simp)|with_reducible first|apply ai|intro)
    all_goals try(refine zh hP ⟨[(2,.l 2,0),(8,.l 8,0),(4,.l 4,0),(5,.l 5,0)],true⟩ dk ?_;go_simp)
    repeat'(first|((first|apply zd h|apply zd i|apply zd d|(refine yR [] [.l 80,.l 81] b ?_;intro q));try go_simp)|with_reducible first|apply ai|intro)
    all_goals exact⟨[.l 80,.l 81],dk,q,⟨OB,OB,trivial⟩,by go_simp,rfl⟩
  |true =>
    have i:=UC s.mon n p.me.wf;have o:gAl s n=(sx (wz s.mon.mem n),⟨uJ s.mon.mem n,0,0⟩,wy s.mon.mem n):=by unfold gAl;rw[hp];rfl
    rw[rx hp] at h;rw[o] at d m j e ⊢;simp only at *;generalize wz s.mon.mem n=u at *;generalize uJ s.mon.mem n=v at *;generalize wy s.mon.mem n=w at *;clear o p;obtain⟨pl,mo,fr,pr,re⟩:=s;simp only at hp;subst hp;obtain⟨-,rfl⟩:=m.1 j;clear m e;rw[j] at d;refine eG [4,7] func167 λX=>?_;go_simp;repeat'(first|((first|apply zd h|apply zd i|apply zd d|(refine yR [] [.l 80,.l 81] b ?_;intro q));try go_simp)|with_reducible first|apply ai|intro)
    all_goals try(refine zh hP ⟨[(2,.l 2,0),(8,.l 8,0),(4,.l 4,0),(5,.l 5,0)],true⟩ dk ?_;go_simp)
    repeat'(first|((first|apply zd h|apply zd i|apply zd d|(refine yR [] [.l 80,.l 81] b ?_;intro q));try go_simp)|with_reducible first|apply ai|intro)
    all_goals try(refine zh hP ⟨[(2,.l 2,0),(8,.l 8,0),(4,.l 4,0),(5,.l 5,0)],true⟩ dk ?_;go_simp)
    repeat'(first|((first|apply zd h|apply zd i|apply zd d|(refine yR [] [.l 80,.l 81] b ?_;intro q));try go_simp)|with_reducible first|apply ai|intro)
    all_goals exact⟨[.l 80,.l 81],dk,q,⟨OB,OB,trivial⟩,by go_simp,rfl⟩
def ky (s:Sa)(n:Int)(u:z9 s)(o:WhV s): zK 167 [s.a,iI n] (.tup [(sAl s n).1.a,(sAl s n).2.1.a,iU (sAl s n).2.2]):=by
  by_cases p:(sAl s n).2.2=0
  · rw[p]
    exact(nZ s n u o p).k1 λq=>by go_simp
  have e:=wY s;have d:=x3 0 (gAl s n).2.2;have j:=yN s u;have b:=@Yx s n;have i:¬yw 0 (gAl s n).2.2=0:=λc=>p (by unfold sAl;rw[if_pos c]);have t:sAl s n=(s,po0,yw 0 (gAl s n).2.2):=by unfold sAl;rw[if_neg i]
  rw[t];clear t p;have k:=@yX 0 (gAl s n).2.2;cases hp:s.plain with
  |false =>
    have f:=Q4 s.mon n (o.mo hp);have m:gAl s n=mAl s.mon n:=by unfold gAl;rw[hp];rfl
    rw[ru hp] at e;rw[m] at d k i b ⊢;generalize mAl s.mon n=g at *;obtain⟨v,w,r⟩:=g;simp only at *;clear m o;obtain⟨pl,mo,fr,pr,re⟩:=s;simp only at hp;subst hp;have hb:=z4 i;obtain rfl:=b (λc=>i (k.2 (by simpa using c)));clear k b;generalize yw 0 r=x at *;refine eK [4,7] func167 λX=>?_;go_simp;repeat'(first|((first|apply zd j|apply zd e|apply zd f|apply zd d);try go_simp)|with_reducible first|apply ai|intro)
    all_goals try(refine zh hP ⟨[(2,.l 2,0),(8,.l 8,0),(4,.l 4,0),(5,.l 5,0)],true⟩ dk ?_;go_simp)
    repeat'(first|((first|apply zd j|apply zd e|apply zd f|apply zd d);try go_simp)|with_reducible first|apply ai|intro)
    all_goals try(refine zh hP ⟨[(2,.l 2,0),(8,.l 8,0),(4,.l 4,0),(5,.l 5,0)],true⟩ dk ?_;go_simp)
    repeat'(first|((first|apply zd j|apply zd e|apply zd f|apply zd d);try go_simp)|with_reducible first|apply ai|intro)
  |true =>
    have f:=UC s.mon n o.me.wf;have m:gAl s n=(sx (wz s.mon.mem n),⟨uJ s.mon.mem n,0,0⟩,wy s.mon.mem n):=by unfold gAl;rw[hp];rfl
    rw[rx hp] at e;rw[m] at d k i b ⊢;simp only at *;generalize wz s.mon.mem n=v at *;generalize uJ s.mon.mem n=w at *;generalize wy s.mon.mem n=r at *;clear m o;obtain⟨pl,mo,fr,pr,re⟩:=s;simp only at hp;subst hp;have hb:=z4 i;have h:=b (λc=>i (k.2 (by simpa using c)));unfold po0 at h;simp only[Po.mk.injEq,and_true] at h;subst h;clear k b;generalize yw 0 r=x at *;refine eK [4,7] func167 λX=>?_;go_simp;repeat'(first|((first|apply zd j|apply zd e|apply zd f|apply zd d);try go_simp)|with_reducible first|apply ai|intro)
    all_goals try(refine zh hP ⟨[(2,.l 2,0),(8,.l 8,0),(4,.l 4,0),(5,.l 5,0)],true⟩ dk ?_;go_simp)
    repeat'(first|((first|apply zd j|apply zd e|apply zd f|apply zd d);try go_simp)|with_reducible first|apply ai|intro)
    all_goals try(refine zh hP ⟨[(2,.l 2,0),(8,.l 8,0),(4,.l 4,0),(5,.l 5,0)],true⟩ dk ?_;go_simp)
    repeat'(first|((first|apply zd j|apply zd e|apply zd f|apply zd d);try go_simp)|with_reducible first|apply ai|intro)
def dL (s:Sa)(n:Int)(f:z9 s)(e:WhV s)(d:(sAl s n).2.2=0): zG 167 1 (λ_=>[s.a,iI n]) (λ_=>[]) (λι q=>.tup [(.agg [.bool ((sAl s n).1).plain,.vec 3 (((sAl s n).1).mon.mem.allocs.map Al.c),iI ((sAl s n).1).mon.mem.next,.vec 2 (((sAl s n).1).mon.stacks.map Ss.c),.vec 1 (((sAl s n).1).mon.running.map ci),iI ((sAl s n).1).mon.ntag,iI ((sAl s n).1).mon.ncall,.sl (ι 0) (q 0).1 4 ((sAl s n).1).frames.length (q 0).2,.vec 1 (((sAl s n).1).prints.map ci),.vec 1 (((sAl s n).1).result.map ci)]),(sAl s n).2.1.a,iU 0]) (λ_ q=>[⟨(q 0).1,(q 0).2,4,64,((sAl s n).1).frames.map Fm.c,false⟩]) :=
  (nZ s n f e d).one 0 (λb=>⟨b.1,b.2,4,64,(sAl s n).1.frames.map Fm.c,false⟩) (λi b=>.tup [.agg (saF (sAl s n).1 i b.1 b.2),(sAl s n).2.1.a,iU 0]) (λq=>rfl) (λi j p X w u h=>by simpa only[saF,RV,RL] using h) (λq=>by go_simp)
def kz (s:Sa)(n:Int)(o:z9 s)(i:WhV s)(b:(sEd s n).2=0): zG 165 3 (λ_=>[s.a,iI n]) (λ_=>[]) (λι q=>.tup [(.agg [.bool ((sEd s n).1).plain,.vec 3 (((sEd s n).1).mon.mem.allocs.map Al.c),iI ((sEd s n).1).mon.mem.next,.vec 2 (((sEd s n).1).mon.stacks.map Ss.c),.vec 1 (((sEd s n).1).mon.running.map ci),iI ((sEd s n).1).mon.ntag,iI ((sEd s n).1).mon.ncall,.sl (ι 0) (q 0).1 4 ((sEd s n).1).frames.length (q 0).2,.sl (ι 1) (q 1).1 1 ((sEd s n).1).prints.length (q 1).2,.sl (ι 2) (q 2).1 1 ((sEd s n).1).result.length (q 2).2]),iU 0]) (λ_ q=>[⟨(q 0).1,(q 0).2,4,64,((sEd s n).1).frames.map Fm.c,false⟩,⟨(q 1).1,(q 1).2,1,2,((sEd s n).1).prints.map ci,false⟩,⟨(q 2).1,(q 2).2,1,2,((sEd s n).1).result.map ci,false⟩]):=by
  have h:=wY s;have f:=x3 (gEd s n).2.1 (gEd s n).2.2;have u:=yN s o;have d:=vj s o;have m:sEd s n=if yw (gEd s n).2.1 (gEd s n).2.2=0 then(yh s (gEd s n).1,0) else(s,yw (gEd s n).2.1 (gEd s n).2.2):=rfl;rw[m] at b ⊢;clear m;have e:yw (gEd s n).2.1 (gEd s n).2.2=0:=zC λc=>by rw[if_neg c] at b;exact c b
  rw[if_pos e];clear b;have j:=@yX (gEd s n).2.1 (gEd s n).2.2;cases hp:s.plain with
  |false =>
    have k:=Yy s n hp i;rw[ru hp] at h;generalize gEd s n=g at *;obtain⟨p,r,t⟩:=g;simp only at *;clear i;obtain⟨pl,mo,fr,pr,re⟩:=s;simp only at hp;subst hp;obtain⟨rfl,rfl⟩:=j.1 e;clear j;rw[e] at f;refine eG [] func165 λX=>?_;go_simp;repeat'(first|((first|apply zd h|apply zd k|apply zd f|(refine yR [] [.l 80,.l 81,.l 82] d ?_;intro q));try go_simp)|with_reducible first|apply ai|intro)
    all_goals exact⟨[.l 80,.l 81,.l 82],dk,q,⟨OB,OB,OB,trivial⟩,by go_simp,rfl⟩
  |true =>
    have k:=Yz s n hp i;rw[rx hp] at h;generalize gEd s n=g at *;obtain⟨p,r,t⟩:=g;simp only at *;clear i;obtain⟨pl,mo,fr,pr,re⟩:=s;simp only at hp;subst hp;obtain⟨rfl,rfl⟩:=j.1 e;clear j;rw[e] at f;refine eG [] func165 λX=>?_;go_simp;repeat'(first|((first|apply zd h|apply zd k|apply zd f|(refine yR [] [.l 80,.l 81,.l 82] d ?_;intro q));try go_simp)|with_reducible first|apply ai|intro)
    all_goals exact⟨[.l 80,.l 81,.l 82],dk,q,⟨OB,OB,OB,trivial⟩,by go_simp,rfl⟩
def fK (s:Sa)(n:Int)(o:z9 s)(b:WhV s): zK 165 [s.a,iI n] (.tup [(sEd s n).1.a,iU (sEd s n).2]):=by
  by_cases d:(sEd s n).2=0
  · rw[d]
    exact(kz s n o b d).k1 λq=>by go_simp
  have e:=wY s;have k:=x3 (gEd s n).2.1 (gEd s n).2.2;have m:=yN s o;have j:¬yw (gEd s n).2.1 (gEd s n).2.2=0:=λc=>d (by unfold sEd;rw[if_pos c]);have l:sEd s n=(s,yw (gEd s n).2.1 (gEd s n).2.2):=by unfold sEd;rw[if_neg j]
  rw[l];clear l d;have p:=@yX (gEd s n).2.1 (gEd s n).2.2;cases hp:s.plain with
  |false =>
    have i:=Yy s n hp b;rw[ru hp] at e;generalize gEd s n=g at *;obtain⟨r,f,h⟩:=g;simp only at *;clear b;obtain⟨pl,mo,fr,pr,re⟩:=s;simp only at hp;subst hp;have hb:=z4 j;clear p;generalize yw f h=t at *;refine eK [] func165 λX=>?_;go_simp;repeat'(first|((first|apply zd m|apply zd e|apply zd i|apply zd k);try go_simp)|with_reducible first|apply ai|intro)
  |true =>
    have i:=Yz s n hp b;rw[rx hp] at e;generalize gEd s n=g at *;obtain⟨r,f,h⟩:=g;simp only at *;clear b;obtain⟨pl,mo,fr,pr,re⟩:=s;simp only at hp;subst hp;have hb:=z4 j;clear p;generalize yw f h=t at *;refine eK [] func165 λX=>?_;go_simp;repeat'(first|((first|apply zd m|apply zd e|apply zd i|apply zd k);try go_simp)|with_reducible first|apply ai|intro)
end Go.Proofs.YtllodfoldffonaaGreatDoor
