/- A part of the proof. -/
import Derived.Test.YtllodfoldffonaaGreatDoorQ10
namespace Go.Proofs.YtllodfoldffonaaGreatDoor
open Tryz AM Go.RowKit
set_option linter.unusedSimpArgs false
set_option linter.unusedVariables false
set_option linter.defProp false
set_option maxRecDepth 100000
set_option maxHeartbeats 16000000
def Ss.one (x:Ss): x.c.all xW=true:=rfl
def gW (x:List It): (sk x).all xW=true:=rfl
def tE (x:Int): (ci x).all xW=true:=rfl
def wL {a:Type}{l:List a}{f:a->List AV}{i:Nat}(h:i<l.length){r:List AV}(e:r=f l[i]): (l.map f).set i r=l.map f:=by
 have:r=(l.map f)[i]'(by simpa using h):=by simp[e]
 rw[this,List.set_getElem_self]
def vE (m:Mo)(G:wfM m): zO 187 [m.a] 2 124 (m.stacks.map Ss.c) (λi b c=>.agg [vAl_ m.mem.allocs,iI m.mem.next,.sl i b 2 m.stacks.length c,vCi_ m.running,iI m.ntag,iI m.ncall]):=by
 obtain⟨⟨l,next⟩,st,rn,nt,nc⟩:=m;obtain⟨⟨hl,hs⟩,A,B,y⟩:=G;simp only at *;have E:=tc (yb Al.one l) (by simpa using hl);have w:=sX (yb Ss.one st) (by simpa using A);have u:=m9 (yb tE rn) (by simpa using y);refine eO [5,7] func187 λX=>?_;go_simp;repeat'(first|(refine xu (.l 9) E ?_;intro o q;try go_simp)|with_reducible first|apply ai|intro)
 rename_i j n;refine lN [5,7] (λi=>[(1,.ptr (.l 1) j 6 0 0),(2,.ptr (.l 2) n 6 0 0),(15,iI l.length),(16,iI i)]) (λi=>[(.l 1,⟨j,1,6,31,[[.sl (.l 9) o 3 l.length q,iI next,vSs_ st,vCi_ rn,iI nt,iI nc]],false⟩),(.l 2,⟨n,1,6,31,[[.nils,iI 0,.nils,.nils,iI 0,iI 0]],false⟩),(.l 9,⟨o,q,3,170,l.map Al.c,false⟩)]) (λi=>i<=l.length) (λi=>l.length-i) 0 ?_
 rintro i hi;by_cases d:i<l.length
 ·have x:=xE (yb Ce.one l[i].cells) (by simpa using hs _ (zM d));go_simp;refine zh hP ⟨[(20,.l 1,0),(24,.l 1,0),(28,.l 9,2),(32,.l 9,2)],false⟩ dk ?_;go_simp;repeat'(first|(apply zd x;try go_simp)|with_reducible first|apply ai|intro)
  refine⟨i+1,om,om,wrS om,wL d rfl⟩
 ·obtain rfl:i=l.length:=om;go_simp;refine yU [.l 9] (.l 1) 0 0 (row:=[.sl (.l 9) o 3 l.length q,iI next,vSs_ st,vCi_ rn,iI nt,iI nc]) (v:=vAl_ l) ?_;refine aO [11,15,17] ?_;go_simp;repeat'(first|(refine xu (.l 36) w ?_;intro e f;try go_simp)|with_reducible first|apply ai|intro)
  refine lN [11,15,17] (λi=>[(1,.ptr (.l 1) j 6 0 0),(2,.ptr (.l 2) n 6 0 0),(40,iI st.length),(41,iI i)]) (λi=>[(.l 1,⟨j,1,6,31,[[vAl_ l,iI next,.sl (.l 36) e 2 st.length f,vCi_ rn,iI nt,iI nc]],false⟩),(.l 2,⟨n,1,6,31,[[.nils,iI 0,.nils,.nils,iI 0,iI 0]],false⟩),(.l 36,⟨e,f,2,124,st.map Ss.c,false⟩)]) (λi=>i<=st.length) (λi=>st.length-i) 0 ?_
  rintro i hi;by_cases d:i<st.length
  ·obtain⟨C,D⟩:=B _ (zM d);have x:=qe (yb gW st[i].cells) (by simpa using C);have ze:((st.map Ss.c).set i [iI st[i].num,vSk_ st[i].cells])=st.map Ss.c:=wL d rfl;have t:∀r,((st.map Ss.c).set i r)[i]?=some r:=λr=>by simp[d]
   go_simp;refine wA hP ⟨[(45,.l 1,2),(48,.l 1,2),(52,.l 36,1),(55,.l 36,1)],false⟩ [53] dk ?_;go_simp;repeat'(first|(refine xM x ?_;intro _ _;try go_simp)|with_reducible first|apply ai|intro)
   rename_i p s;refine lN [15] (λk=>[(1,.ptr (.l 1) j 6 0 0),(2,.ptr (.l 2) n 6 0 0),(4,iI i),(40,iI st.length),(41,iI i),(62,iI st[i].cells.length),(63,iI k)]) (λk=>[(.l 1,⟨j,1,6,31,[[vAl_ l,iI next,.sl (.l 36) e 2 st.length f,vCi_ rn,iI nt,iI nc]],false⟩),(.l 2,⟨n,1,6,31,[[.nils,iI 0,.nils,.nils,iI 0,iI 0]],false⟩),(.l 36,⟨e,f,2,124,(st.map Ss.c).set i [iI st[i].num,.sl (.l 53) p 1 st[i].cells.length s],false⟩),(.l 53,⟨p,s,1,126,st[i].cells.map sk,false⟩)]) (λk=>k<=st[i].cells.length) (λk=>st[i].cells.length-k) 0 ?_
   rintro k F;by_cases g:k<st[i].cells.length
   ·have h:=wT (yb It.one st[i].cells[k]) (by simpa using D _ (zM g));have z:((st[i].cells.map sk).set k [vIt_ st[i].cells[k]])=st[i].cells.map sk:=wL g rfl;go_simp;refine zh hP ⟨[(67,.l 1,2),(71,.l 36,1),(74,.l 1,2),(78,.l 36,1),(81,.l 53,0),(83,.l 53,0)],false⟩ dk ?_;go_simp;repeat'(first|(apply zd h;try go_simp)|with_reducible first|apply ai|intro)
    exact⟨k+1,om,om,wrS om⟩
   ·have h:k=st[i].cells.length:=om;subst h;go_simp;refine y8 [.l 53] (.l 36) i 1 (row:=[iI st[i].num,.sl (.l 53) p 1 st[i].cells.length s]) (v:=vSk_ st[i].cells) rfl (t _) rfl sm (SV.own rfl rfl rfl rfl sm sm (zT sm)) ?_;refine aO [] ?_;go_simp;exact⟨i+1,om,om,wrS om⟩
  ·obtain rfl:i=st.length:=om;go_simp;repeat'(first|(apply zd u;try go_simp)|with_reducible first|apply ai|intro)
   exact⟨.l 36,e,f,sm,rfl,rfl,rfl⟩
def lq (m:Mo)(d:wfM m): zK 187 [m.a] m.a:=(vE m d).k1 λb c=>by
 obtain⟨⟨l,next⟩,st,rn,nt,nc⟩:=m;go_simp
attribute [go_sem] moZ po0
def i7 (n:Int)(x:Ss): Bool:=x.num==n
def XK:zK 139 [] (Mo.a ⟨⟨[],0⟩,[],[],1,1⟩):=by
 refine eK [] func139 λX=>?_;go_simp
def OW (n:Int)(l:List Ss): yF 295 [.rp [iI n]] Ss.a (i7 n) l:=⟨by go_simp,λx hx=>by
 have c:i7 n x=(x.num==n):=rfl;rw[c];obtain⟨a,b⟩:=x;refine eK [] func295 λX=>?_;go_simp⟩
def px (m:Mo)(n:Int)(hl:m.stacks.length<1000000): zK 185 [m.a,iI n] (iI (idx (i7 n) m.stacks)):=by
 have b:=Zq (OW n m.stacks) hl;obtain⟨⟨l,next⟩,st,rn,nt,nc⟩:=m;refine eK [1] func185 λX=>?_;go_simp;intro c d;refine z5 [.l 3] 3 (SV.ptr rfl rfl rfl rfl sm rfl) ?_;refine aO [] ?_;go_simp;repeat'(first|(apply zd b;try go_simp)|with_reducible first|apply ai|intro)
def jr {m:Mo}(h:MoV m)(n:Int): idx (i7 n) m.stacks=atA m.mem n:=by
 have e:m.stacks.map Ss.num=m.mem.allocs.map Al.num:=by
  apply List.ext_getElem (by simp[h.len]);intro i c d;simp only[zU] at c d;obtain⟨x,hx,f⟩:=h.at (zE d)
  rw[zE c] at hx;injection hx with hx;simp only[zR];rw[hx];exact f.num
 have g:∀q:List Ss,idx (i7 n) q=idx (λx=>x==n) (q.map Ss.num):=λq=>by
  unfold idx;have a:(q.map Ss.num).any (λx=>x==n)=q.any (i7 n):=by rw[List.any_map];rfl
  have b:(q.map Ss.num).findIdx (λx=>x==n)=q.findIdx (i7 n):=by rw[List.findIdx_map];rfl
  rw[a,b]
 have j:∀q:List Al,idx (xO n) q=idx (λx=>x==n) (q.map Al.num):=λq=>by
  unfold idx;have a:(q.map Al.num).any (λx=>x==n)=q.any (xO n):=by rw[List.any_map];rfl
  have b:(q.map Al.num).findIdx (λx=>x==n)=q.findIdx (xO n):=by rw[List.findIdx_map];rfl
  rw[a,b]
 unfold atA;rw[g,j,e]
def MoV.wf {m:Mo}(h:MoV m): wfM m:=by
 refine⟨⟨by have:=h.me.len;omega,λa c=>by have:=(h.me.al a c).c2;omega⟩,by have:=h.len;have:=h.me.len;omega,λx hx=>?_,by have:=(uV.1 h.rn).1;omega⟩;obtain⟨k,b,rfl⟩:=List.getElem_of_mem hx;obtain⟨x,hx,d⟩:=h.at (zE (show k<m.mem.allocs.length by rw[<-h.len];exact b))
 rw[zE b] at hx;injection hx with hx;have:=rI.1 d.ok
 rw[hx];exact⟨om,λs hs=>by have:=(sE.1 (this.2.2.2 s hs)).1;omega⟩
def z4 {n:Int}(h:¬n=0): (n != 0)=true:=by simpa using h
def ZJ (m:Mo)(p:Po)(n:Int)(u:MoV m): zK 257 [m.a,p.a,iI n] (.tup [(mLd m p n).1.a,.vec 5 ((mLd m p n).2.1.map Ce.c),iU (mLd m p n).2.2.1,iI (mLd m p n).2.2.2]):=by
 have i:=u.wf;have d:=wb m i;rw[mD.2 u] at d;have b:=su m.mem p n i.me;have s:=px m p.al i.sl;rw[jr u] at s;by_cases e:fdE m.mem p n=0
 ·rw[e] at b;by_cases r:fdL m.mem p n = []
  ·have z:ldW m.mem p n=3:=by unfold ldW;rw[if_neg (by simpa using e),if_pos r]
   have g:mLd m p n=(moZ,[],3,0):=by unfold mLd;rw[if_neg (by simpa using e),if_pos r]
   rw[z] at b;rw[g];generalize ldL m.mem p n=q at *;obtain⟨⟨l,next⟩,st,rn,nt,nc⟩:=m;obtain⟨F,G,H⟩:=p;refine eK [] func257 λX=>?_;go_simp;repeat'(first|((first|apply zd d|apply zd b);try go_simp)|with_reducible first|apply ai|intro)
  ·obtain⟨k,x,f⟩:=i5 e r;obtain⟨hx,hs⟩:=oh u f.at_ f.hx;have y:=XE (vS m p) p.off n p.tag m.running (i.st _ (zF hx)) i.rn;have E:rdS (vS m p) p.off n p.tag m.running false=rdR m p n false:=rfl;have C:=jq u (w:=false) f.at_ f.hx f.lo f.hi f.n1.1;have A:=vE m i;have g:mLd m p n=if ¬(rdR m p n false).2.1=0 then(moZ,[],(rdR m p n false).2.1,0) else if ¬ldW m.mem p n=0 then(moZ,[],ldW m.mem p n,0) else(sH m p (rdR m p n false).1,fdL m.mem p n,0,0):=by
    unfold mLd;rw[if_neg (by simpa using e),if_neg r]
   have K:¬ldW m.mem p n=3:=by unfold ldW;rw[if_neg (by simpa using e),if_neg r];split<;>omega
   have t:sH m p (rdR m p n false).1=⟨m.mem,m.stacks.set k (rdR m p n false).1,m.running,m.ntag,m.ncall⟩:=by unfold sH;rw[f.at_];rfl
   have B:ldW m.mem p n=0->ldL m.mem p n=fdL m.mem p n:=λh=>by unfold ldL;rw[if_pos ⟨e,h⟩]
   have D:=(zS.1 hx).1;rw[g,t];rw[E] at y;rw[f.at_] at s;clear E g t f hs e;generalize rdR m p n false=R at *;obtain⟨J,I,P⟩:=R;simp only at C;subst C;generalize vS m p=S at *;generalize ldL m.mem p n=q at *;generalize ldW m.mem p n=W at *;generalize fdL m.mem p n=V at *;obtain⟨⟨l,next⟩,st,rn,nt,nc⟩:=m;obtain⟨F,G,H⟩:=p;obtain⟨U,T⟩:=S;obtain⟨Q,O⟩:=J;simp only at *;have L:(W==3)=false:=by simpa using K
   obtain⟨N,M⟩:=zS.1 hx;clear hx;by_cases w0:I=0
   ·rw[if_neg (by simpa using w0)];by_cases v:W=0
    ·rw[if_neg (by simpa using v)];obtain rfl:=B v;subst w0 v;refine eK [] func257 λX=>?_;go_simp;repeat'(first|((first|apply zd d|apply zd b|apply zd s|apply zd y|(refine xu (.l 71) A ?_;intro j o));try go_simp)|with_reducible first|apply ai|intro)
     rw[zT sm]
    ·rw[if_pos v];have hb:=z4 v;subst w0;refine eK [] func257 λX=>?_;go_simp;repeat'(first|((first|apply zd d|apply zd b|apply zd s|apply zd y|(refine xu (.l 71) A ?_;intro j o));try go_simp)|with_reducible first|apply ai|intro)
   ·rw[if_pos w0];have hb:=z4 w0;refine eK [] func257 λX=>?_;go_simp;repeat'(first|((first|apply zd d|apply zd b|apply zd s|apply zd y|(refine xu (.l 71) A ?_;intro j o));try go_simp)|with_reducible first|apply ai|intro)
 ·have g:mLd m p n=(moZ,[],0,fdE m.mem p n):=by unfold mLd;rw[if_pos e]
  have z:ldW m.mem p n=0:=by unfold ldW;rw[if_pos e]
  rw[g];rw[z] at b;have hb:=z4 e;generalize ldL m.mem p n=q at *;generalize fdE m.mem p n=er at *;obtain⟨⟨l,next⟩,st,rn,nt,nc⟩:=m;obtain⟨F,G,H⟩:=p;refine eK [] func257 λX=>?_;go_simp;repeat'(first|((first|apply zd d|apply zd b);try go_simp)|with_reducible first|apply ai|intro)
def bu (m:Mo)(p:Po)(cl:List Ce)(q:MoV m)(v:cl.length<1000000): zK 259 [m.a,p.a,vCe_ cl] (.tup [(mSt m p cl).1.a,iU (mSt m p cl).2.1,iI (mSt m p cl).2.2]):=by
 have h:=q.wf;have j:=wb m h;rw[mD.2 q] at j;have c:=nN m.mem p cl h.me v;have r:=px m p.al h.sl;rw[jr q] at r;by_cases e:stE m.mem p cl=0
 ·by_cases d:stW m.mem p cl=0
  ·obtain⟨k,x,f⟩:=i4 e d;obtain⟨hx,hs⟩:=oh q f.at_ f.hx;have u:=Z6 (vS m p) p.off cl.length p.tag m.running (h.st _ (zF hx)) h.rn;have A:rdS (vS m p) p.off cl.length p.tag m.running true=rdR m p cl.length true:=rfl;have z:=jq q (w:=true) (n:=cl.length) f.at_ f.hx f.lo (by have:=f.hi;have:=f.lo;omega) (by have:=f.n1;omega);have y:=vE m h;have g:mSt m p cl=if ¬(rdR m p cl.length true).2.1=0 then(moZ,(rdR m p cl.length true).2.1,0) else(⟨stM m.mem p cl,(sH m p (rdR m p cl.length true).1).stacks,m.running,m.ntag,m.ncall⟩,0,0):=by
    unfold mSt;rw[if_neg (by simpa using e),if_neg (by simpa using d)]
   have o:(sH m p (rdR m p cl.length true).1).stacks=m.stacks.set k (rdR m p cl.length true).1:=by unfold sH;rw[f.at_];rfl
   rw[g,o];rw[A] at u;rw[f.at_] at r;rw[e,d] at c;clear A g o f hs e d;generalize rdR m p cl.length true=R at *;obtain⟨G,F,L⟩:=R;simp only at z;subst z;generalize vS m p=S at *;generalize stM m.mem p cl=i at *;obtain⟨⟨l,next⟩,st,rn,nt,nc⟩:=m;obtain⟨C,D,E⟩:=p;obtain⟨O,N⟩:=S;obtain⟨M,K⟩:=G;obtain⟨B,b⟩:=i;simp only at *;obtain⟨J,I⟩:=zS.1 hx;clear hx;by_cases w0:F=0
   ·rw[if_neg (by simpa using w0)];subst w0;refine eK [12] func259 λX=>?_;go_simp;repeat'(first|((first|apply zd j|apply zd c|apply zd r|apply zd u|(refine xu (.l 67) y ?_;intro s t));try go_simp)|with_reducible first|apply ai|intro)
    refine zh hP ⟨[(68,.l 3,2),(10,.l 10,0),(14,.l 14,0),(73,.l 3,0),(74,.l 67,0)],false⟩ dk ?_;go_simp;rw[zT sm]
   ·rw[if_pos w0];have hb:=z4 w0;refine eK [12] func259 λX=>?_;go_simp;repeat'(first|((first|apply zd j|apply zd c|apply zd r|apply zd u|(refine xu (.l 67) y ?_;intro s t));try go_simp)|with_reducible first|apply ai|intro)
  ·have g:mSt m p cl=(moZ,stW m.mem p cl,0):=by unfold mSt;rw[if_neg (by simpa using e),if_pos d]
   rw[g];rw[e] at c;have hb:=z4 d;generalize stM m.mem p cl=i at *;generalize stW m.mem p cl=W at *;obtain⟨⟨l,next⟩,st,rn,nt,nc⟩:=m;obtain⟨C,D,E⟩:=p;obtain⟨B,b⟩:=i;refine eK [12] func259 λX=>?_;go_simp;repeat'(first|((first|apply zd j|apply zd c);try go_simp)|with_reducible first|apply ai|intro)
 ·have g:mSt m p cl=(moZ,0,stE m.mem p cl):=by unfold mSt;rw[if_pos e]
  have H:stW m.mem p cl=0:=by unfold stW;rw[if_pos e]
  rw[g];rw[H] at c;have hb:=z4 e;generalize stM m.mem p cl=i at *;generalize stE m.mem p cl=er at *;obtain⟨⟨l,next⟩,st,rn,nt,nc⟩:=m;obtain⟨C,D,E⟩:=p;obtain⟨B,b⟩:=i;refine eK [12] func259 λX=>?_;go_simp;repeat'(first|((first|apply zd j|apply zd c);try go_simp)|with_reducible first|apply ai|intro)
def XL (m:Mo)(b:MoV m): zK 190 [vCi_ m.running,iI m.ncall] (.tup [vCi_ (if m.running.length=32 then [] else m.running++[m.ncall]),iI (if m.running.length=32 then 18 else 0)]):=by
 have c:=vC m.running b.wf.rn;rw[b.rn] at c;have j:=oQ (yb tE m.running) (by simpa using b.wf.rn);have g:=b.lt;have p:=b.nc;have r:=(uV.1 b.rn).1;obtain⟨⟨l,next⟩,st,rn,nt,nc⟩:=m;simp only at *;rcases Nat.eq_zero_or_pos rn.length with h|h
 ·have q:¬(0:Int)<rn.length:=om;have a:¬rn.length=32:=om;have k:¬nc<=0:=om;have n:¬1000000<nc:=om;have i:¬(rn.length:Int)=32:=om;simp only[if_neg a];refine eK [] func190 λX=>?_;go_simp;repeat'(first|((first|apply zd c|(refine xu (.l 36) j ?_;intro d e));try go_simp)|with_reducible first|apply ai|intro)
  exact List.eq_nil_of_length_eq_zero h
 ·have t:IntKind.i64.wrap ((rn.length:Int)-1)=((rn.length-1:Nat):Int):=(AM.Tf om).trans om;have o:rn[rn.length-1]?=some rn[rn.length-1]:=zE _;have s:=g _ (zM (show rn.length-1<rn.length by omega));generalize rn[rn.length-1]=z at *;have q:(0:Int)<rn.length:=om;have k:¬nc<=z:=om;have n:¬1000000<nc:=om;by_cases a:rn.length=32
  ·have i:(rn.length:Int)=32:=om;simp only[if_pos a];refine eK [] func190 λX=>?_;go_simp;repeat'(first|(apply zd c;try go_simp)|with_reducible first|apply ai|intro)
   ·decide
   ·have f:(IntKind.i64.wrap 31).toNat=rn.length-1:=by rw[a];decide
    exact⟨z,by rw[f];exact o,s⟩
  ·have i:¬(rn.length:Int)=32:=om;simp only[if_neg a];refine eK [] func190 λX=>?_;go_simp;repeat'(first|((first|apply zd c|(refine xu (.l 36) j ?_;intro d e));try go_simp)|with_reducible first|apply ai|intro)
   omega
def XM (m:Mo)(b:MoV m): zK 191 [vCi_ m.running] (.tup [.vec 1 ((m.running.take (m.running.length-1)).map ci),iI (if m.running = [] then 6 else 0)]):=by
 have c:=vC m.running b.wf.rn;rw[b.rn] at c;have f:=m9 (yb tE (m.running.take (m.running.length-1))) (by have:=b.wf.rn;simp;omega);have g:=(uV.1 b.rn).1;obtain⟨⟨l,next⟩,st,rn,nt,nc⟩:=m;simp only at *;rcases Nat.eq_zero_or_pos rn.length with a|a
 ·obtain rfl:=List.eq_nil_of_length_eq_zero a;refine eK [] func191 λX=>?_;go_simp;repeat'(first|(apply zd c;try go_simp)|with_reducible first|apply ai|intro)
 ·have i:IntKind.i64.wrap ((rn.length:Int)-1)=((rn.length-1:Nat):Int):=(AM.Tf om).trans om;have d:¬rn = []:=λe=>by rw[e] at a;simp at a
  simp only[if_neg d];have h:¬(rn.length:Int)=0:=om;rw[List.map_take] at f ⊢;refine eK [] func191 λX=>?_;go_simp;repeat'(first|((first|apply zd c|apply zd f);try go_simp)|with_reducible first|apply ai|intro)
def lu (m:Mo)(f:MoV m): zK 112 [m.a] (.tup [(mEn m).1.a,iI (mEn m).2.1,iI (mEn m).2.2]):=by
 have h:=f.wf;have e:=wb m h;rw[mD.2 f] at e;have c:=XL m f;have i:=lq m h;have j:=f.nc;unfold mEn;by_cases g:m.running.length=32
 ·simp only[g,true_or,if_true] at c ⊢;obtain⟨⟨l,next⟩,st,rn,nt,nc⟩:=m;clear g;refine eK [] func112 λX=>?_;go_simp;repeat'(first|((first|apply zd e|apply zd c);try go_simp)|with_reducible first|apply ai|intro)
 ·simp only[g,false_or,if_false] at c ⊢;by_cases b:m.ncall=1000000
  ·simp only[b,if_true];rw[b] at c;obtain⟨⟨l,next⟩,st,rn,nt,nc⟩:=m;simp only at b;subst b;refine eK [] func112 λX=>?_;go_simp;repeat'(first|((first|apply zd e|apply zd c);try go_simp)|with_reducible first|apply ai|intro)
  ·simp only[b,if_false];have d:IntKind.i64.wrap (m.ncall+1)=m.ncall+1:=AM.Tf om;obtain⟨⟨l,next⟩,st,rn,nt,nc⟩:=m;simp only at b d;have k:(nc==1000000)=false:=by simpa using b
   refine eK [] func112 λX=>?_;go_simp;repeat'(first|((first|apply zd e|apply zd c|apply zd i);try go_simp)|with_reducible first|apply ai|intro)
def lw (m:Mo)(e:MoV m): zK 113 [m.a] (.tup [(mLv m).1.a,iI (mLv m).2]):=by
 have f:=e.wf;have d:=wb m f;rw[mD.2 e] at d;have c:=XM m e;have g:=lq m f;unfold mLv;by_cases b:m.running = []
 ·rw[if_pos b] at c ⊢;obtain⟨⟨l,next⟩,st,rn,nt,nc⟩:=m;simp only at b;subst b;refine eK [] func113 λX=>?_;go_simp;repeat'(first|((first|apply zd d|apply zd c);try go_simp)|with_reducible first|apply ai|intro)
 ·rw[if_neg b] at c ⊢;obtain⟨⟨l,next⟩,st,rn,nt,nc⟩:=m;simp only at b c ⊢;generalize rn.take (rn.length-1)=h at *;refine eK [] func113 λX=>?_;go_simp;repeat'(first|((first|apply zd d|apply zd c|apply zd g);try go_simp)|with_reducible first|apply ai|intro)
def Uu (n size tag:Int)(hn:0<=n/\n<=1000000)(hs:1<=size/\size<=2)(k:0<=tag/\tag<=1000000): zK 364 [iI n,iI size,iI tag] (.tup [(qQ n size tag).a,iI 0]):=by
 have e:=Uh tag;have hi:inT tag=true:=by unfold inT;simpa using k
 rw[hi] at e;simp only[if_true] at e;have m:¬n<0:=om;have o:¬1000000<n:=om;unfold qQ;have j:size=1\/size=2:=om;have d:∃N:Nat,size=N:=⟨size.toNat,om⟩
 obtain⟨N,rfl⟩:=d
 have r:1<=N/\N<=2:=om;have p:¬(N:Int)<1:=om;have q:¬2<(N:Int):=om;rw[Int.toNat_natCast];refine eK [] func364 λX=>?_;go_simp;repeat'(first|(apply zd e;try go_simp)|with_reducible first|apply ai|intro)
 rename_i f g;refine wR (.l 8) (.l 90) 1 1 126 rfl rfl rfl ?_;refine lG [] (G:=Nat×Nat×Nat) (λv=>[(2,iI tag),(6,.ptr (.l 6) f 2 0 0),(8,.ptr (.l 8) g 2 0 0),(28,iI N),(29,iI v.1)]) (λv=>[(.l 6,⟨f,1,2,124,[[iI 0,.nils]],false⟩),(.l 8,⟨g,1,2,124,[[iI n,.sl (.l 90) v.2.1 1 v.1 v.2.2]],false⟩),(.l 90,⟨v.2.1,v.2.2,1,126,(List.replicate v.1 [⟨1,tag,0⟩]).map sk,false⟩)]) (λv=>v.1<=N) (λv=>N-v.1) (0,0,0) ?_
 rintro⟨i,c1,c2⟩ hi;simp only at hi;by_cases h:i<N
 ·have b:(i:Int)<N:=om;go_simp;repeat'(first|(apply zd e;try go_simp)|with_reducible first|apply ai|intro)
  ·omega
  ·exact⟨i+1,om,om,wrS om,_,_,⟨rfl,rfl,rfl⟩,rfl,rfl,by simp[List.replicate_succ',sk,It.c]⟩
 ·have b:¬(i:Int)<N:=om;obtain rfl:i=N:=om;go_simp
def WM {l:List Int}{x:Int}: l.any (eqI x)=true↔x∈l:=by
 rw[List.any_eq_true];constructor
 ·rintro⟨y,a,e⟩;unfold eqI at e;rw[beq_iff_eq] at e;rw[e];exact a
 ·intro h;exact⟨x,h,by simp[eqI]⟩
def bv (m:Mo)(p:Po)(n kind call:Int)(F:MoV m)(P:0<=kind): zK 261 [m.a,p.a,iI n,iU kind,iI call] (.tup [(mRt m p n kind call).1.a,(mRt m p n kind call).2.1.a,iU (mRt m p n kind call).2.2.1,iI (mRt m p n kind call).2.2.2]):=by
 have B:=F.wf;have j:=wb m B;rw[mD.2 F] at j;have i:=qi kind;rw[dj P] at i;have o:=WG m.running call B.rn;have r:=su m.mem p n B.me;have y:=px m p.al B.sl;rw[jr F] at y;by_cases s:¬grE kind=0\/(¬call=0/\call∉m.running)
 ·have t:mRt m p n kind call=(moZ,po0,0,2):=by unfold mRt;rw[if_pos s]
  rw[t];by_cases g:grE kind=0
  ·obtain⟨c1,c2⟩:=s.resolve_left (λh=>h g);have hb:m.running.any (eqI call)=false:=by
    cases c:m.running.any (eqI call) with
    |false=>rfl
    |true=>exact absurd (WM.1 c) c2
   rw[hb] at o;rw[g] at i;have hc:=z4 c1;obtain⟨⟨l,next⟩,st,rn,nt,nc⟩:=m;obtain⟨G,H,I⟩:=p;clear hb c2 s;refine eK [21] func261 λX=>?_;go_simp;repeat'(first|((first|apply zd j|apply zd i|apply zd o);try go_simp)|with_reducible first|apply ai|intro)
  ·have hb:=z4 g;generalize grE kind=gk at *;obtain⟨⟨l,next⟩,st,rn,nt,nc⟩:=m;obtain⟨G,H,I⟩:=p;clear s;refine eK [21] func261 λX=>?_;go_simp;repeat'(first|((first|apply zd j|apply zd i|apply zd o);try go_simp)|with_reducible first|apply ai|intro)
 ·have g:grE kind=0:=zC λc=>s (Or.inl c);rw[g] at i;have b:call=0\/((call != 0)=true/\m.running.any (eqI call)=true):=by
   by_cases c:call=0
   ·exact Or.inl c
   ·exact Or.inr ⟨z4 c,WM.2 (zC λd=>s (Or.inr ⟨c,d⟩))⟩
  by_cases e:fdE m.mem p n=0
  ·by_cases v:m.ntag=1000000
   ·have t:mRt m p n kind call=(moZ,po0,0,18):=by unfold mRt;rw[if_neg s,if_neg (by simpa using e),if_pos v]
    rw[t];rw[e] at r;clear t s;generalize ldL m.mem p n=q at *;generalize ldW m.mem p n=W at *;obtain⟨⟨l,next⟩,st,rn,nt,nc⟩:=m;obtain⟨G,H,I⟩:=p;simp only at v b;subst v;rcases b with rfl|⟨u,b⟩
    ·refine eK [21] func261 λX=>?_;go_simp;repeat'(first|((first|apply zd j|apply zd i|apply zd r);try go_simp)|with_reducible first|apply ai|intro)
    ·rw[b] at o;clear b;refine eK [21] func261 λX=>?_;go_simp;repeat'(first|((first|apply zd j|apply zd i|apply zd o|apply zd r);try go_simp)|with_reducible first|apply ai|intro)
   ·by_cases z:fdL m.mem p n = []
    ·have t:mRt m p n kind call=(moZ,po0,3,0):=by unfold mRt;rw[if_neg s,if_neg (by simpa using e),if_neg v,if_pos z]
     have N:ldW m.mem p n=3:=by unfold ldW;rw[if_neg (by simpa using e),if_pos z]
     rw[t];rw[e,N] at r;clear t s N e z;generalize ldL m.mem p n=q at *;obtain⟨⟨l,next⟩,st,rn,nt,nc⟩:=m;obtain⟨G,H,I⟩:=p;simp only at v b;have K:(nt==1000000)=false:=by simpa using v
     rcases b with rfl|⟨u,b⟩
     ·refine eK [21] func261 λX=>?_;go_simp;repeat'(first|((first|apply zd j|apply zd i|apply zd r);try go_simp)|with_reducible first|apply ai|intro)
     ·rw[b] at o;clear b;refine eK [21] func261 λX=>?_;go_simp;repeat'(first|((first|apply zd j|apply zd i|apply zd o|apply zd r);try go_simp)|with_reducible first|apply ai|intro)
    ·obtain⟨k,x,f⟩:=i5 e z;obtain⟨hx,hs⟩:=oh F f.at_ f.hx;have A:=Z7 (vS m p) p.off n kind p.tag ⟨0,m.ntag,call⟩ m.running (B.st _ (zF hx)) B.rn P;have Q:rtS (vS m p) p.off n kind p.tag ⟨0,m.ntag,call⟩ m.running=rtR m p n kind call:=rfl;have M:=vE m B;have t:mRt m p n kind call=if ¬(rtR m p n kind call).2.2=0\/¬(rtR m p n kind call).2.1=0 then(moZ,po0,(rtR m p n kind call).2.1,(rtR m p n kind call).2.2) else
      (⟨m.mem,(sH m p (rtR m p n kind call).1).stacks,m.running,m.ntag+1,m.ncall⟩,⟨p.al,p.off,m.ntag⟩,0,0):=by
      unfold mRt;rw[if_neg s,if_neg (by simpa using e),if_neg v,if_neg z]
     have U:¬ldW m.mem p n=3:=by unfold ldW;rw[if_neg (by simpa using e),if_neg z];split<;>omega
     have E:(sH m p (rtR m p n kind call).1).stacks=m.stacks.set k (rtR m p n kind call).1:=by unfold sH;rw[f.at_];rfl
     have O:IntKind.i64.wrap (m.ntag+1)=m.ntag+1:=AM.Tf (by have:=F.nt;omega);rw[t,E];rw[Q] at A;rw[f.at_] at y;rw[e] at r;clear Q t E f hs e z s;generalize rtR m p n kind call=R at *;obtain⟨T,L,J⟩:=R;generalize vS m p=S at *;generalize ldL m.mem p n=q at *;generalize ldW m.mem p n=W at *;obtain⟨⟨l,next⟩,st,rn,nt,nc⟩:=m;obtain⟨G,H,I⟩:=p;obtain⟨Sn,Sc⟩:=S;obtain⟨Rn,Rc⟩:=T;simp only at *;have K:(nt==1000000)=false:=by simpa using v
     have V:(W==3)=false:=by simpa using U
     obtain⟨Z,Y⟩:=zS.1 hx;clear hx;by_cases w:¬J=0\/¬L=0
     ·rw[if_pos w];by_cases w0:J=0
      ·have hb:=z4 (w.resolve_left λh=>h w0);subst w0;clear w;rcases b with rfl|⟨u,b⟩
       ·refine eK [21] func261 λX=>?_;go_simp;repeat'(first|((first|apply zd j|apply zd i|apply zd r|apply zd y|apply zd A);try go_simp)|with_reducible first|apply ai|intro)
       ·rw[b] at o;clear b;refine eK [21] func261 λX=>?_;go_simp;repeat'(first|((first|apply zd j|apply zd i|apply zd o|apply zd r|apply zd y|apply zd A);try go_simp)|with_reducible first|apply ai|intro)
      ·have hb:=z4 w0;clear w;rcases b with rfl|⟨u,b⟩
       ·refine eK [21] func261 λX=>?_;go_simp;repeat'(first|((first|apply zd j|apply zd i|apply zd r|apply zd y|apply zd A);try go_simp)|with_reducible first|apply ai|intro)
       ·rw[b] at o;clear b;refine eK [21] func261 λX=>?_;go_simp;repeat'(first|((first|apply zd j|apply zd i|apply zd o|apply zd r|apply zd y|apply zd A);try go_simp)|with_reducible first|apply ai|intro)
     ·rw[if_neg w];obtain⟨rfl,rfl⟩:J=0/\L=0:=om;clear w;rcases b with rfl|⟨u,b⟩
      ·refine eK [21] func261 λX=>?_;go_simp;repeat'(first|((first|apply zd j|apply zd i|apply zd r|apply zd y|apply zd A|(refine xu (.l 110) M ?_;intro C D));try go_simp)|with_reducible first|apply ai|intro)
       refine zh hP ⟨[(5,.l 5,0),(6,.l 6,0),(10,.l 10,0),(11,.l 11,0)],false⟩ dk ?_;go_simp;rw[zT sm]
      ·rw[b] at o;clear b;refine eK [21] func261 λX=>?_;go_simp;repeat'(first|((first|apply zd j|apply zd i|apply zd o|apply zd r|apply zd y|apply zd A|(refine xu (.l 110) M ?_;intro C D));try go_simp)|with_reducible first|apply ai|intro)
       refine zh hP ⟨[(5,.l 5,0),(6,.l 6,0),(10,.l 10,0),(11,.l 11,0)],false⟩ dk ?_;go_simp;rw[zT sm]
  ·have t:mRt m p n kind call=(moZ,po0,0,fdE m.mem p n):=by unfold mRt;rw[if_neg s,if_pos e]
   rw[t];have hb:=z4 e;clear t s;generalize ldL m.mem p n=q at *;generalize ldW m.mem p n=W at *;generalize fdE m.mem p n=er at *;obtain⟨⟨l,next⟩,st,rn,nt,nc⟩:=m;obtain⟨G,H,I⟩:=p;simp only at b;rcases b with rfl|⟨u,b⟩
   ·refine eK [21] func261 λX=>?_;go_simp;repeat'(first|((first|apply zd j|apply zd i|apply zd r);try go_simp)|with_reducible first|apply ai|intro)
   ·rw[b] at o;clear b;refine eK [21] func261 λX=>?_;go_simp;repeat'(first|((first|apply zd j|apply zd i|apply zd o|apply zd r);try go_simp)|with_reducible first|apply ai|intro)
end Go.Proofs.YtllodfoldffonaaGreatDoor
