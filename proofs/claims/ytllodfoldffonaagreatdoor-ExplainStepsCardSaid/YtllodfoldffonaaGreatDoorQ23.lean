/- A part of the proof. -/
import Derived.Test.YtllodfoldffonaaGreatDoorQ22
namespace Go.Proofs.YtllodfoldffonaaGreatDoor
open Tryz AM Go.RowKit
set_option linter.unusedSimpArgs false
set_option linter.unusedVariables false
set_option linter.defProp false
set_option maxRecDepth 100000
set_option maxHeartbeats 16000000
variable {i:Nat}{o:Opd}{p:Pr}{s:Sa}
def LD(h:WhV s): Lx s:=λa d c e f=>by
 have b:=(h.me.al a d).ce c e;unfold uI xg at b;simp[f] at b;omega
def Wh (p:Pr)(s:Sa)(hw:z9 s)(hm:wfP p)(hg:tyE p=0): zK 79 [p.a,s.a] (iI (uP p s)):=by
 have n:=s8 hm (vW hg);have W:=(oY hm (vW hg)).1;have hM:=Yl s hw;have xl:=hw.mo.me.1;by_cases z:tu s=true
 ·by_cases E:s.frames.length<=16
  ·by_cases w:s.prints.length<=200
   ·have A:xm s=0:=by unfold xm;rw[if_pos z]
    rw[Pw z E w];rw[A] at hM;have I:=A;clear A z;replace I:=Hd.mk I;have xf:¬(16:Int)<s.frames.length:=om;have xj:¬(200:Int)<s.prints.length:=om;have xk:(s.mon.mem.allocs.length:Int)<=2147483648:=om;generalize hR:vaG p s s.frames (List.replicate s.mon.mem.allocs.length false)=R at *;refine eK [] func79 λX=>?_;go_simp;repeat'(first|(apply zd hM;try go_simp)|with_reducible first|apply ai|intro)
    rename_i b2 b3 B;refine sS 6 (.l 90) 1 3 (by go_simp) (by go_simp) ?_;refine lG [9] (G:=Nat×List Bool×Nat×Nat) (λv=>[(2,.ptr (.l 2) b2 1 0 0),(3,.ptr (.l 3) b3 10 0 0),(5,.sl (.l 31) B 1 s.mon.mem.allocs.length s.mon.mem.allocs.length),(6,.sl (.l 90) v.2.2.1 1 (s.frames.take v.1).length v.2.2.2),(7,iI v.1)]) (λv=>[(.l 2,⟨b2,1,1,24,[Pr.c p],false⟩),(.l 3,⟨b3,1,10,35,[Sa.c s],false⟩),(.l 31,⟨B,s.mon.mem.allocs.length,1,4,v.2.1.map cb,false⟩),(.l 90,⟨v.2.2.1,v.2.2.2,1,3,((s.frames.take v.1).map Fm.call).map ci,false⟩)]) (λv=>v.1<=s.frames.length/\v.2.1.length=s.mon.mem.allocs.length/\vaG p s (s.frames.drop v.1) v.2.1=R) (λv=>s.frames.length-v.1) (0,List.replicate s.mon.mem.allocs.length false,0,0) ?_ (h0:=⟨Nat.zero_le _,sm,hR⟩)
    rintro⟨i,u,d1,d2⟩ ⟨hi,hu,S⟩;simp only at hi hu S;have V:=hR;clear hR;by_cases O:i<s.frames.length
    ·clear V;have J:s.frames[i]?=some s.frames[i]:=zE O;have hd:s.frames.drop i=s.frames[i]::s.frames.drop (i+1):=List.drop_eq_getElem_cons O;have y2:(s.frames.take i).length=i:=by simp;omega
     have h7:=hw.lo _ (zM O);rw[hd] at S;clear hd;have xc:s.frames.take (i+1)=s.frames.take i++[s.frames[i]]:=by rw[List.take_add_one,J];rfl
     generalize hq:s.frames[i]=x at *;have d:=λh=>(Sm (p:=p) (s:=s) (x:=x) (l:=s.frames.drop (i+1)) (u:=u) h).symm.trans S;have e:=λh=>(Vm (p:=p) (s:=s) (x:=x) (l:=s.frames.drop (i+1)) (u:=u) h).symm.trans S;clear S;by_cases c1:0<=x.fn/\x.fn<p.funcs.length
     ·obtain⟨fn,at_,call,locals⟩:=x;obtain⟨f1,f2⟩:=c1;simp only at f1 f2 h7;obtain⟨m,rfl⟩:∃m:Nat,fn=m:=⟨fn.toNat,om⟩
      have h9:m<p.funcs.length:=om;have g:yu p m=p.funcs[m]:=by unfold yu;rw[Int.toNat_natCast,zD,zE h9];rfl
      have K:=n _ (zM h9);simp only[g] at d e;generalize xn:p.funcs[m]=f at *;have C:=Yg f (by have:=K.b24;omega) (λb hb=>by have:=K.st b hb;omega);rw[oE] at C;have L:=Yn s f ⟨m,at_,call,locals⟩ u B s.mon.mem.allocs.length hw hu K.wf.1 h7;have hpl:=@Vo s f ⟨m,at_,call,locals⟩ u;rw[hu] at L;have hH:fmH p s ⟨m,at_,call,locals⟩=(decide (0<=at_/\at_<u9 f)&&!(s.plain&&!(call==0))):=by unfold fmH;simp only[g];rw[decide_eq_true ⟨f1,f2⟩,Bool.true_and]
      rw[hH] at d e;clear hH;by_cases c2:0<=at_/\at_<u9 f
      ·obtain⟨a1,a2⟩:=c2;rw[decide_eq_true ⟨a1,a2⟩,Bool.true_and] at d e;generalize hf:u9 f=np at *;generalize plU s f ⟨m,at_,call,locals⟩ u=PU at *;obtain⟨pk,u2⟩:=PU;simp only at hpl d e;have ha:¬p.funcs.length<=m:=om;have hr:¬(m:Int)<0:=om;have H:¬s.frames.length<=i:=om;have a3:¬at_<0:=om;have a4:¬np<=at_:=om;have hy:u9 f<=24000000:=by
        rw[<-oE];have h1:=nX (l:=f.blocks) (λb hb=>by have:=K.st b hb;omega) f.blocks.length;have h2:=K.b24;unfold p9;omega
       rw[hf] at hy;have yd:IntKind.i64.wrap ((i:Int)+1)=(i:Int)+1:=AM.Tf om;have q:none=R->8=vaR p s R:=λh=>by rw[<-h];rfl
       have Z:=K.st;have Q:=K.b24;clear n K hf;generalize y1:vaR p s R=RR at *;by_cases hc:i+1<s.frames.length
       ·have ht:(i:Int)+1<s.frames.length:=om;have xd:s.frames[i+1]?=some s.frames[i+1]:=zE hc;have h5:s.frames.drop (i+1)=s.frames[i+1]::s.frames.drop (i+1+1):=List.drop_eq_getElem_cons hc;generalize yk:s.frames[i+1]=y at *;have P:rm p ⟨(m:Int),at_,call,locals⟩ (s.frames.drop (i+1))=yW f.blocks at_ y.fn:=by rw[h5];show yW (yu p m).blocks _ _=_;rw[g]
        have hn:=Ym f at_ y.fn om (λb hb=>by have:=Z b hb;omega) ⟨a1,om⟩;rw[P] at d e;generalize yW f.blocks at_ y.fn=cl at *;clear h5 P g Z Q;obtain⟨yf,ya,yc,yl⟩:=y;go_simp;intro b9;refine rX hP ⟨[],true⟩ [82] dk ?_;go_simp;repeat'(first|((first|apply zd C|(refine zi [.l 31] 1 0 L ?_;intro x1)|apply zd hn);try go_simp)|with_reducible first|apply ai|intro)
        all_goals first
         |exact q (d (by simp[*]))
         |omega
         |exact⟨i+1,u2,⟨om,om,e (by simp[*])⟩,om,_,_,⟨⟨rfl,om,rfl⟩,om⟩,rfl,rfl,rfl,by first|(rw[List.take_take,Nat.min_self,List.take_add_one,List.getElem?_map,J];rfl)|(rw[List.take_take,Nat.min_self,List.take_add_one,List.getElem?_map,J];simp[ci, *])⟩
         |trace_state
       ·have ht:¬(i:Int)+1<s.frames.length:=om;have T:rm p ⟨(m:Int),at_,call,locals⟩ (s.frames.drop (i+1))=true:=by rw[List.drop_eq_nil_of_le om];rfl
        rw[T,Bool.and_true] at d e;clear g T Z Q;go_simp;intro b9;refine rX hP ⟨[],true⟩ [82] dk ?_;go_simp;repeat'(first|((first|apply zd C|(refine zi [.l 31] 1 0 L ?_;intro x1));try go_simp)|with_reducible first|apply ai|intro)
        all_goals first
         |exact q (d (by simp[*]))
         |omega
         |exact⟨i+1,u2,⟨om,om,e (by simp[*])⟩,om,_,_,⟨⟨rfl,om,rfl⟩,om⟩,rfl,rfl,rfl,by first|(rw[List.take_take,Nat.min_self,List.take_add_one,List.getElem?_map,J];rfl)|(rw[List.take_take,Nat.min_self,List.take_add_one,List.getElem?_map,J];simp[ci, *])⟩
         |trace_state
      ·have r:(decide (0<=at_/\at_<u9 f)&&!(s.plain&&!(call==0))&&(plU s f ⟨m,at_,call,locals⟩ u).1&&rm p ⟨m,at_,call,locals⟩ (s.frames.drop (i+1)))=false:=by rw[decide_eq_false c2];rfl
       have q:8=vaR p s R:=by rw[<-d r];rfl
       have ha:¬p.funcs.length<=m:=om;have hr:¬(m:Int)<0:=om;have H:¬s.frames.length<=i:=om;rw[<-q];clear d e r q hpl n g K L;generalize u9 f=np at *;by_cases a3:at_<0
       ·go_simp;intro b9;refine rX hP ⟨[],true⟩ [82] dk ?_;go_simp;repeat'(first|(apply zd C;try go_simp)|with_reducible first|apply ai|intro)
       ·have a4:np<=at_:=om;go_simp;intro b9;refine rX hP ⟨[],true⟩ [82] dk ?_;go_simp;repeat'(first|(apply zd C;try go_simp)|with_reducible first|apply ai|intro)
     ·have r:(fmH p s x&&(plU s (yu p x.fn) x u).1&&rm p x (s.frames.drop (i+1)))=false:=by unfold fmH;rw[decide_eq_false c1];rfl
      have q:8=vaR p s R:=by rw[<-d r];rfl
      have H:¬s.frames.length<=i:=om;rw[<-q];clear d e r q n;obtain⟨fn,at_,call,locals⟩:=x;simp only at c1;by_cases a3:fn<0
      ·have a5:¬0<=fn:=om;go_simp;intro b9;refine rX hP ⟨[],true⟩ [82] dk ?_;go_simp
      ·have a4:(p.funcs.length:Int)<=fn:=om;have a5:¬fn<(p.funcs.length:Int):=om;go_simp;intro b9;refine rX hP ⟨[],true⟩ [82] dk ?_;go_simp
    ·obtain rfl:i=s.frames.length:=om;rw[List.drop_length] at S;have hp:R=some u:=S.symm;subst hp;have H:¬s.frames.length<s.frames.length:=om;have hV:=((ax (p:=p) (fs:=s.frames) (mk0 s)).1.1 (by rw[V];rfl)).1;rw[zA] at hV;have D:=λx hx=>Qn.1 (hV x hx);have hT:=We p s hw (λx hx=>⟨(D x hx).fn,(D x hx).len⟩) (λx hx l hl=>by
      obtain⟨k,N,rfl⟩:=List.getElem_of_mem hl;obtain⟨a,hv⟩:=(D x hx).loc k _ _ (zE N) (zE (by rw[<-(D x hx).len];exact N));obtain⟨j,hj,_⟩:=hv.at_;omega) (LD (uA.1 I.out))
     have hQ:=dI s.mon.running (s.frames.map Fm.call) hw.mo.rn;rw[show vV s.mon.running (s.frames.map Fm.call)=vV (s.frames.map Fm.call) s.mon.running from by unfold vV;rw[Bool.eq_iff_iff];simp only[zL];exact eq_comm] at hQ;have h3:=n _ (zM W);have Y:=h3.l0;have ho:=fG p.funcs[0] 0 _ (zE Y);have g:yu p 0=p.funcs[0]:=by unfold yu;rw[Int.toNat_zero,zD,zE W];rfl
     have xr:p.funcs[0]?=some p.funcs[0]:=zE W;have U:uO p s=if s.frames.length=0 then zg (p.funcs[0].locals[0]'Y) else 0:=by
      unfold uO;rw[g,zD,zE Y];rfl
     have h4:vaR p s (some u)=if(!u.any (eqB false)&&qW p s&&(s.plain||vV (s.frames.map Fm.call) s.mon.running)&&decide ((s.result.length:Int)=uO p s))=true then 0 else 8:=by
      have:u.contains false=u.any (eqB false):=by
       rw[Bool.eq_iff_iff,List.contains_iff_mem,List.any_eq_true];constructor
       ·exact λh=>⟨false,h,by simp[eqB]⟩
       ·rintro⟨x,hx,h⟩;simp[eqB] at h;subst h;exact hx
      simp only[vaR,this]
     rw[h4,U];have y3:(s.frames.take s.frames.length).length=s.frames.length:=by simp
     clear D g h4 U n S;generalize M:u.any (eqB false)=c1 at *;replace M:=Hd.mk M;generalize qW p s=c2 at *;generalize vV (s.frames.map Fm.call) s.mon.running=c3 at *;clear h3;generalize hq:p.funcs[0]=f at *;generalize xs:f.locals[0]=t at *;simp only[vCi_,List.map_map] at hQ;have y4:(u.length:Int)<=2147483648:=om;simp only[<-hu];clear hu V hV hi O hw;obtain⟨pl,mo,fr,pr,re⟩:=s;simp only at *;go_simp;refine lN [] (λj=>[(2,.ptr (.l 2) b2 1 0 0),(3,.ptr (.l 3) b3 10 0 0),(5,.sl (.l 31) B 1 u.length u.length),(6,.sl (.l 90) d1 1 fr.length d2),(9,iI j)]) (λj=>[(.l 2,⟨b2,1,1,24,[Pr.c p],false⟩),(.l 3,⟨b3,1,10,35,[Sa.c ⟨pl,mo,fr,pr,re⟩],false⟩),(.l 31,⟨B,u.length,1,4,u.map cb,false⟩),(.l 90,⟨d1,d2,1,3,(fr.map Fm.call).map ci,false⟩)]) (λj=>j<=u.length/\∀k (h:k<j)(N:k<u.length),u[k]=true) (λj=>u.length-j) 0 ?_ (h0:=⟨Nat.zero_le _,λk h=>absurd h om⟩)
     rintro j ⟨hj,F⟩;by_cases h6:j<u.length
     ·have x2:¬u.length<=j:=om;have ye:u[j]?=some u[j]:=zE h6;cases hv:u[j] with
      |false =>
       have:c1=true:=by rw[<-M.out,List.any_eq_true];exact⟨u[j],zM h6,by rw[hv];rfl⟩
       subst this;clear F;go_simp
      |true =>
       have P:∀k (h:k<j+1)(N:k<u.length),u[k]=true:=λk h N=>by
        rcases Nat.lt_or_ge k j with c|c
        ·exact F k c N
        ·obtain rfl:k=j:=om;exact hv
       clear F;go_simp;exact⟨j+1,⟨om,P⟩,om,wrS om⟩
     ·obtain rfl:j=u.length:=om;have:c1=false:=by
       rw[<-M.out];refine zI.2 λx hx=>?_;obtain⟨k,N,rfl⟩:=List.getElem_of_mem hx;rw[F k N N];decide
      subst this;have xa:¬u.length<u.length:=om;clear F;by_cases hz:fr = []
      ·subst hz;go_simp;repeat'(first|((first|apply zd ho|apply zd hT|refine nK [.l 90] hQ ?_);try go_simp)|with_reducible first|apply ai|intro)
       all_goals first|(simp[*];done)|grind|trace_state
      ·have ym:¬fr.length=0:=λh=>hz (List.eq_nil_of_length_eq_zero h);go_simp;repeat'(first|((first|apply zd hT|refine nK [.l 90] hQ ?_);try go_simp)|with_reducible first|apply ai|intro)
       all_goals first|(simp[*];done)|grind|trace_state
   ·have h1:(200:Int)<s.prints.length:=om;have h2:¬(16:Int)<s.frames.length:=om;have A:uP p s=8:=by rw[mV,decide_eq_false w];simp
    rw[A];clear w n A;refine eK [] func79 λX=>?_;go_simp;repeat'(first|(apply zd hM;try go_simp)|with_reducible first|apply ai|intro)
  ·have h1:(16:Int)<s.frames.length:=om;have A:uP p s=8:=by rw[mV,decide_eq_false E];simp
   rw[A];clear E n A;refine eK [] func79 λX=>?_;go_simp;repeat'(first|(apply zd hM;try go_simp)|with_reducible first|apply ai|intro)
 ·have h8:xm s=8:=by unfold xm;rw[if_neg z]
  have A:uP p s=8:=by rw[mV,show tu s=false by simpa using z];simp
  rw[A];rw[h8] at hM;clear z n A h8;refine eK [] func79 λX=>?_;go_simp;repeat'(first|(apply zd hM;try go_simp)|with_reducible first|apply ai|intro)
def Wi (p:Pr)(s:Sa)(g:z9 s)(b:wfP p)(f:rgP p): zK 35 [p.a,s.a] (iI (ckE p s)):=by
 have c:=Wa p b f;unfold ckE;by_cases h:tyE p=0
 ·have d:=Wh p s g b h;rw[if_neg (by simpa using h)];rw[h] at c;refine eK [] func35 λX=>?_;go_simp;repeat'(first|((first|apply zd c|apply zd d);try go_simp)|with_reducible first|apply ai|intro)
 ·have hb:=z4 h;rw[if_pos h];generalize tyE p=e at *;refine eK [] func35 λX=>?_;go_simp;repeat'(first|(apply zd c;try go_simp)|with_reducible first|apply ai|intro)
def IJ{n:Int}(c:WhV s)(d:0<=atA s.mon.mem n)(b:(yZ s.mon.mem n).live=true): (gEd s n).2.2=0:=by
 have a:yV s.mon.mem n=0:=by
  unfold yV;rw[if_neg (by simpa using og.2 c.me),if_neg];rintro(h|h)
  ·omega
  ·exact absurd (show(yZ s.mon.mem n).live=false from h) (by simp[b])
 unfold gEd;cases hp:s.plain with
 |true=>simp only[if_true];exact a
 |false =>
  simp only[Bool.false_eq_true,if_false];split
  ·unfold mEd;rw[if_neg (by simpa using a)];split<;>rfl
  ·rfl
structure LvI (y:Sa)(L:List Po): Prop where
 wh:WhV y
 lv:∀a∈y.mon.mem.allocs,a.live=true
 mem:∀q∈L,∃a∈y.mon.mem.allocs,a.num=q.al
 nod:(L.map Po.al).Nodup
def LvI.err {y:Sa}{q:Po}{L:List Po}(h:LvI y (q::L)): (gEd y q.al).2.2=0:=by
 obtain⟨a,c,hn⟩:=h.mem q List.mem_cons_self;obtain⟨i,hi,b⟩:=nT h.wh.me c;rw[hn] at hi;refine IJ h.wh om ?_;rw[wX hi b.1];exact h.lv a c
def LvI.step {y:Sa}{q:Po}{L:List Po}(h:LvI y (q::L))(l:(sEd y q.al).2=0): LvI (sEd y q.al).1 L:=by
 obtain⟨a,b,c,d,e,f,_⟩:=Pm h.wh h.lv l;have g:=h.nod;rw[List.map_cons,List.nodup_cons] at g;refine⟨a,λz k=>h.lv z ?_,λz k=>?_,g.2⟩
 ·rw[f] at k;exact(List.mem_filter.1 k).1
 ·obtain⟨w,m,j⟩:=h.mem z (List.mem_cons_of_mem _ k);refine⟨w,?_,j⟩;rw[f];refine List.mem_filter.2 ⟨m,?_⟩;have:w.num≠q.al:=λe=>g.1 (by rw[<-e,j];exact List.mem_map_of_mem k)
  simpa using this
def Su(h:SaV p s)(c:s.frames≠[]){y:Sa}(n:WhV y)(hm:y.mon.mem=s.mon.mem): LvI y (zn s).locals:=by
 have m:=nU c;refine⟨n,λa g=>Va h a (by rw[<-hm];exact g),λq l=>?_,?_⟩
 ·obtain⟨k,e,rfl⟩:=List.getElem_of_mem l;have d:=h.fm _ (vd c);obtain⟨b,f⟩:=d.loc k _ _ (zE e) (zE (by rw[<-d.len];exact e));obtain⟨j,r,hb⟩:=f.at_;exact⟨b,by rw[hm];exact zF hb,f.num⟩
 ·have hn:=h.nod;unfold wD at hn;rw[m,List.flatMap_append] at hn;simpa using(List.nodup_append.1 hn).2.1
def grI (l:List It): Bool:=decide (610<l.length)
def Wj (l:List It): zK 100 [vIt_ l] (.bool (grI l)):=by
 unfold grI;by_cases h:610<l.length
 ·have a:(610:Int)<l.length:=om;rw[decide_eq_true h];refine eK [] func100 λX=>?_;go_simp
 ·have a:¬(610:Int)<l.length:=om;rw[decide_eq_false h];refine eK [] func100 λX=>?_;go_simp
def qY (x:Ss): Bool:=(x.cells.take 5).any grI||decide (4<x.cells.length)
def Y3 {T:Type}{l:List T}{p:T->Bool}(hi:i<l.length)(h:(l.take i).any p=false): (l.take (i+1)).any p=p l[i]:=by
 rw[List.take_add_one,zE hi,List.any_append,h];simp
def Y4 {T:Type}{l:List T}{p:T->Bool}{i j:Nat}(a:i<=j)(h:(l.take i).any p=true): (l.take j).any p=true:=by
 rw[List.any_eq_true] at h ⊢;obtain⟨x,hx,hp⟩:=h;refine⟨x,?_,hp⟩;rw[show l.take i=(l.take j).take i by rw[List.take_take,Nat.min_eq_left a]] at hx;exact List.mem_of_mem_take hx
def grA (a:Al): Bool:=decide (5<a.cells.length)
def iN (m:Me): Bool:=(m.allocs.take 411).any grA||decide (410<m.allocs.length)
def mZ (l:List (List It)): Nat:=(l.map List.length).sum
def Y5 (l:List Ss): Nat:=(l.map λx=>mZ x.cells).sum
def iO (m:Mo): Bool:=iN m.mem||decide (410<m.stacks.length)||decide (50<m.running.length)||m.stacks.any qY||decide (3000<Y5 m.stacks)
def Y6 {l:List Nat}(h:i<l.length): (l.take (i+1)).sum=(l.take i).sum+l[i]:=by
 rw[List.take_add_one,zE h,List.sum_append];simp
def Sv {l:List Nat}{b:Nat}(h:∀x∈l,x<=b): l.sum<=l.length*b:=by
 induction l with
 |nil=>simp
 |cons x l ih =>
  have c:=h x List.mem_cons_self;have d:=ih λy a=>h y (List.mem_cons_of_mem _ a);rw[List.sum_cons,List.length_cons,Nat.succ_mul];omega
def Y7 {x:Ss}(h:qY x=false): x.cells.length<=4/\∀l∈x.cells,l.length<=610:=by
 unfold qY at h;simp only[Bool.or_eq_false_iff,zN] at h;have hl:x.cells.length<=4:=om;refine⟨hl,λl hm=>?_⟩;have:=zI.1 h.1 l (by rw[zT om];exact hm)
 unfold grI at this;simp at this;exact this
def Vr {l:List (List It)}(e:l.length<=4)(a:∀x∈l,x.length<=610): ((l.map List.length).take i).sum<=2440:=by
 have h:=Sv (l:=(l.map List.length).take i) (b:=610) λx hx=>by
  have:=List.mem_of_mem_take hx
  rw[List.mem_map] at this;obtain⟨y,d,rfl⟩:=this;exact a y d
 have c:((l.map List.length).take i).length<=4:=by simp;omega
 calc _<=_:=h
  _<=4*610:=Nat.mul_le_mul_right _ c
  _=2440:=rfl
def NC {l:List Ss}(f:l.length<=410)(c:∀x∈l.take i,qY x=false): ((l.map λx=>mZ x.cells).take i).sum<=1000400:=by
 have h:=Sv (l:=(l.map λx=>mZ x.cells).take i) (b:=2440) λx hx=>by
  rw[<-List.map_take,List.mem_map] at hx;obtain⟨y,e,rfl⟩:=hx;obtain⟨a,b⟩:=Y7 (c y e);have:=Vr (i:=y.cells.length) a b
  rw[zT sm] at this;exact this
 have d:((l.map λx=>mZ x.cells).take i).length<=410:=by simp;omega
 calc _<=_:=h
  _<=410*2440:=Nat.mul_le_mul_right _ d
  _=1000400:=rfl
def grF (x:Fm): Bool:=decide (20<x.locals.length)
def dO (s:Sa): Bool:=iO s.mon||decide (20<s.frames.length)||decide (210<s.prints.length)||decide (10<s.result.length)||s.frames.any grF
structure Env (p:Pr)(s:Sa): Prop where
 wp:wfP p
 ty:tyE p=0
 v:SaV p s
 ne:s.frames≠[]
def Env.wf(h:Env p s): z9 s:=⟨h.v.wh.wfm,by have:=h.v.nf;omega,λx hx=>by
  have c:=h.v.fm x hx;obtain⟨m,hm,b⟩:=fQ c.fn;have:=(s8 h.wp (vW h.ty) _ (zF b)).l16
  rw[c.len];omega,by have:=h.v.np;omega,by
  have a:=h.v.res;unfold uO zg at a;split at a
  ·split at a<;>omega
  ·omega⟩
def Env.same{s s':Sa}(h:Env p s)(a:yB s s')(b:SaV p s'): Env p s':=⟨h.wp,h.ty,b,by rw[a.fr];exact h.ne⟩
structure xR (p:Pr)(s:Sa)(n m:Nat)(x:Fm)(f:Fn): Prop where
 top:zn s=x
 n1:n+1=s.frames.length
 nx:s.frames[n]?=some x
 fn:x.fn=m
 ff:p.funcs[m]?=some f
 fs:fnS f
 len:x.locals.length=f.locals.length
 at_:0<=x.at_/\x.at_<u9 f
 ge:yu p x.fn=f
 tyl:tyL p s=f.locals
def Env.top(h:Env p s): ∃n m x f,xR p s n m x f:=by
 obtain⟨n,c,d⟩:=Y1 h.ne;have b:=h.v.fm _ (vd h.ne);obtain⟨m,hm,a⟩:=fQ b.fn;exact⟨n,m,zn s,yu p (zn s).fn,rfl,c,d,hm,a,s8 h.wp (vW h.ty) _ (zF a),b.len,b.at_,rfl,rfl⟩
def aSE (p:Pr)(s:Sa): Int:=if ¬ckE p s=0 then ckE p s else if s.frames = [] then 6 else 0
def Wk (p:Pr)(s:Sa)(g:z9 s)(f:wfP p)(h:rgP p): zK 13 [p.a,s.a] (iI (aSE p s)):=by
 have b:=Wi p s g f h;unfold aSE;by_cases c:ckE p s=0
 ·rw[if_neg (by simpa using c)];rw[c] at b;by_cases d:s.frames = []
  ·rw[if_pos d];clear g;obtain⟨pl,mo,fr,pr,re⟩:=s;simp only at d;subst d;refine eK [] func13 λX=>?_;go_simp;repeat'(first|(apply zd b;try go_simp)|with_reducible first|apply ai|intro)
  ·have j:¬s.frames.length=0:=λe=>d (List.eq_nil_of_length_eq_zero e);rw[if_neg d];refine eK [] func13 λX=>?_;go_simp;repeat'(first|(apply zd b;try go_simp)|with_reducible first|apply ai|intro)
 ·have hb:=z4 c;rw[if_pos c];generalize ckE p s=e at *;refine eK [] func13 λX=>?_;go_simp;repeat'(first|(apply zd b;try go_simp)|with_reducible first|apply ai|intro)
attribute [go_sem] tv
def dP (x:Pl): wH x=0\/wH x=1:=by unfold wH;split<;>simp
def Vs(h:WhV s){q:Po}(b:(sLd s q 1).2.2=0): ∃c,(sLd s q 1).2.1 = [c]/\xg c=true:=by
 obtain⟨k,x,_,_,d,hl⟩:=uD h b;obtain⟨c,a⟩:∃c,(sLd s q 1).2.1 = [c]:=List.length_eq_one_iff.1 om;exact⟨c,a,(d c (by rw[a];simp)).2.2⟩
attribute [go_sem] ce1
structure VlP (p:Pr)(s:Sa)(o:Opd): Prop where
 k:o.kind=1\/o.kind=2\/o.kind=3
 f:0<=o.pl.field/\o.pl.field<256
 t:o.kind≠1->zZ (tyL p s) o.pl=0
def LF(a:¬(vlS p s o).2.2=0): vlS p s o=(s,[],(vlS p s o).2.2):=by
 unfold vlS at a ⊢;split
 ·rename_i c;rw[if_pos c] at a;exact absurd rfl a
 ·rename_i c;rw[if_neg c] at a;split
  ·rfl
  ·rename_i c;rw[if_neg c] at a;split
   ·rfl
   ·rename_i c;rw[if_neg c] at a;split
    ·rfl
    ·rename_i c;rw[if_neg c] at a;split
     ·rename_i c;rw[if_pos c] at a;exact absurd rfl a
     ·rename_i c;rw[if_neg c] at a;split
      ·rfl
      ·rename_i c;rw[if_neg c] at a;exact absurd rfl a
def asS (p:Pr)(s:Sa)(x:Pl)(l:List Ce): Sa×Int :=
 if ¬(fdS p s x).2.2.2=0 then(s,(fdS p s x).2.2.2) else
 if ¬(sSt (fdS p s x).1 (fdS p s x).2.1 l).2=0 then(s,(sSt (fdS p s x).1 (fdS p s x).2.1 l).2) else((sSt (fdS p s x).1 (fdS p s x).2.1 l).1,0)
def rgN (n:Int): Prop:=-9223372036854775808<=n/\n<9223372036854775808
structure RvP (p:Pr)(s:Sa)(r:Rv): Prop where
 k:1<=r.kind/\r.kind<=5
 t:rvE (tyL p s) r=0
 f:0<=r.pl.field/\r.pl.field<256
 bo:0<=r.bo
 fa:0<=r.a.pl.field/\r.a.pl.field<256
 fb:0<=r.b.pl.field/\r.b.pl.field<256
 ka:r.kind<=3->r.a.kind=1\/r.a.kind=2\/r.a.kind=3
 kb:r.kind=2\/r.kind=3->r.b.kind=1\/r.b.kind=2\/r.b.kind=3
 ra:r.kind=2->(vlS p s r.a).2.2=0->rgN (ce0 (vlS p s r.a).2.1).n
 rb:r.kind=2->(vlS p (vlS p s r.a).1 r.b).2.2=0->rgN (ce0 (vlS p (vlS p s r.a).1 r.b).2.1).n
def rC(c:o.kind=1\/o.kind=2\/o.kind=3)(b:0<=o.pl.field/\o.pl.field<256)(d:opE (tyL p s) o=0): VlP p s o:=⟨c,b,λk=>by
 rcases ou d with⟨a,_⟩|⟨_,a,_⟩
 ·exact absurd a k
 ·exact a⟩
def Env.vl(h:Env p s): Env p (vlS p s o).1:=h.same wm (qp h.v)
def atS (s:Sa)(v:Int): Sa:=⟨s.plain,s.mon,s.frames.set (s.frames.length-1) ⟨(zn s).fn,v,(zn s).call,(zn s).locals⟩,s.prints,s.result⟩
end Go.Proofs.YtllodfoldffonaaGreatDoor
