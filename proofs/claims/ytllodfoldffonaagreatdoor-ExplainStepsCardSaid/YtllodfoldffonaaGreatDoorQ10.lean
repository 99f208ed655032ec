/- A part of the proof. -/
import Derived.Test.YtllodfoldffonaaGreatDoorQ09
namespace Go.Proofs.YtllodfoldffonaaGreatDoor
open Tryz AM Go.RowKit
set_option linter.unusedSimpArgs false
set_option linter.unusedVariables false
set_option linter.defProp false
set_option maxRecDepth 100000
set_option maxHeartbeats 16000000
variable {a:Al}{k:Nat}{l:List Ce}{m:Mo}{n:Int}{p:Po}{r:List Int}{s:List It}{size:Int}{u:List It->List It×Int×Int}{w:Bool}{x:Ss}
def MQ {l:List Al}{x:Al}(hx:l[k]?=some x)(R:List AV): (((l.map Al.c).set k R).set k [iI x.num,.bool x.live,vCe_ x.cells]).take l.length=l.map Al.c:=by
 rw[List.set_set,zT sm];obtain⟨h,rfl⟩:=zS.1 hx;exact Up h
def XI (m:Me)(p:Po)(n:Nat)(o:wfA m)(k:Nat)(x:Al)(hx:m.allocs[k]?=some x)(h:yq m=0)(A:¬(p.al<0\/m.next<=p.al\/(n:Int)<1\/2<(n:Int)))(B:atA m p.al=k)(t:¬(p.off<0\/(x.cells.length:Int)-n<p.off))(C:x.live=true)(f g b c1:Nat):
  zG 369 2 (λι=>[.agg [.sl (ι 0) f 3 m.allocs.length g,iI m.next],p.a,iI n])
   (λι=>[⟨f,g,3,170,(m.allocs.map Al.c).set k [iI x.num,.bool true,.sl (ι 1) b 5 x.cells.length c1],false⟩,⟨b,c1,5,175,x.cells.map Ce.c,false⟩])
   (λι q=>.tup [.so (ι 1) b 5 p.off.toNat n (c1-p.off.toNat),iI 0])
   (λι q=>[⟨f,g,3,170,(m.allocs.map Al.c).set k [iI x.num,.bool true,.sl (ι 1) b 5 x.cells.length c1],false⟩,⟨b,c1,5,175,x.cells.map Ce.c,false⟩]):=by
 have y:=vM m o;have i:=rG (cL p m.allocs) o.1;rw[show idx (xO p.al) m.allocs=atA m p.al from rfl,B] at i;have D:x.cells.length<1000000:=o.2 _ (zF hx);obtain⟨j,ze⟩:=Uq hx;replace ze:=ze Al.c;have d:=MQ hx;rw[C] at d;obtain⟨l,next⟩:=m;obtain⟨z,e,H⟩:=p;simp only at A t hx j ze d i ⊢;rw[h] at y;obtain⟨I,J,K,L⟩:¬z<0/\¬next<=z/\¬(n:Int)<1/\¬2<(n:Int):=om
 have G:¬(k:Int)<0:=om;have O:IntKind.i64.wrap ((x.cells.length:Int)-n)=x.cells.length-n:=AM.Tf om;obtain⟨M,N⟩:¬e<0/\¬(x.cells.length:Int)-n<e:=om;have P:IntKind.i64.wrap (e+n)=e+n:=AM.Tf om;clear t;refine eG [6] func369 λX=>?_;go_simp;intro E F;refine Ub [u0,u1] y ?_ rfl ?_
 ·refine SVL.cons (SV.agg (SVL.cons ?_ (SVL.cons (SV.refl _ _ _) SVL.nil))) SVL.nil;refine VJ k 2 (row:=[iI x.num,.bool true,.sl u1 b 5 x.cells.length c1]) (v:=vCe_ x.cells) rfl rfl rfl rfl (ze _) rfl ?_ sm sm (d _);exact SV.own rfl rfl rfl rfl sm sm (zT sm)
 go_simp;refine z5 [.l 4] 4 (SV.ptr rfl rfl rfl rfl sm rfl) ?_;refine aO [] ?_;go_simp;refine Ub [u0,u1] i ?_ rfl ?_
 ·refine SVL.cons ?_ (SVL.cons (SV.refl _ _ _) SVL.nil);refine VJ k 2 (row:=[iI x.num,.bool true,.sl u1 b 5 x.cells.length c1]) (v:=vCe_ x.cells) rfl rfl rfl rfl (ze _) rfl ?_ sm sm (d _);exact SV.own rfl rfl rfl rfl sm sm (zT sm)
 go_simp;repeat'(first|with_reducible first|apply ai|intro)
 all_goals try omega
 refine⟨[u0,u1],dk,⟨OB,OB,trivial⟩,?_⟩;go_simp;omega
def TB {l:List Al}{i:Nat}(h:i<l.length): (l.map Al.c).take (i+1)=(l.map Al.c).take i++[[iI l[i].num,.bool l[i].live,vCe_ l[i].cells]]:=by
 rw[<-List.map_take,<-List.map_take,List.take_add_one,zE h,zV];rfl
def nN (m:Me)(p:Po)(l:List Ce)(hw:wfA m)(hl:l.length<1000000): zK 272 [m.a,p.a,vCe_ l] (.tup [(stM m p l).a,iU (stW m p l),iI (stE m p l)]):=by
 have D:=gU m p l.length hw;have O:∀c∈l,zK 245 [c.a] (iI (wa c)):=λc _=>vL c;by_cases g:fdE m p l.length=0
 ·by_cases ha:l.all xg=true
  ·have h5:∀c∈l,wa c=0:=λc A=>by unfold wa;rw[if_pos (zA.1 ha c A)]
   by_cases Q:fdL m p l.length = []
   ·obtain⟨F,H,I⟩:=WJ g ha Q;rw[F,H,I];rw[g,Q] at D;obtain⟨q,next⟩:=m;obtain⟨T,U,V⟩:=p;refine eK [12,18,21,22] func272 λX=>?_;go_simp;repeat'(first|(apply zd D;try go_simp)|with_reducible first|apply ai|intro)
    rename_i E y z;refine lN [12,18,21,22] (λi=>[(2,vCe_ l),(3,.ptr (.l 3) E 2 0 0),(4,.ptr (.l 4) y 3 0 0),(6,.ptr (.l 6) z 2 0 0),(31,vCe_ l),(32,iI l.length),(33,iI i)]) (λv=>[(.l 3,⟨E,1,2,27,[Me.c ⟨q,next⟩],false⟩),(.l 4,⟨y,1,3,53,[[iI T,iI U,iI V]],false⟩),(.l 6,⟨z,1,2,27,[[.nils,iI 0]],false⟩)]) (λi=>i<=l.length) (λi=>l.length-i) 0 ?_
    rintro i hi;go_simp;refine⟨λb=>⟨_,zE b,λY=>?_⟩,λh7=>?_⟩
    ·have A:=O _ (zM b);rw[h5 _ (zM b)] at A;repeat'(first|(apply zd A;try go_simp)|with_reducible first|apply ai|intro)
     exact⟨i+1,om,om,wrS om⟩
    ·intro C;refine wR (.l 14) (.l 30) 0 3 170 rfl rfl rfl ?_;refine aO [18,21,22] ?_;go_simp;obtain⟨R,t⟩:=hw;simp only at R t;refine lG [18,21,22] (G:=Nat×Nat×Nat) (λv=>[(2,vCe_ l),(4,.ptr (.l 4) y 3 0 0),(6,.ptr (.l 6) z 2 0 0),(14,.ptr (.l 14) C 2 0 0),(48,vAl_ q),(49,iI q.length),(50,iI v.1)]) (λv=>[(.l 4,⟨y,1,3,53,[[iI T,iI U,iI V]],false⟩),(.l 6,⟨z,1,2,27,[[.nils,iI 0]],false⟩),(.l 14,⟨C,1,2,27,[[.sl (.l 30) v.2.1 3 v.1 v.2.2,iI next]],false⟩),(.l 30,⟨v.2.1,v.2.2,3,170,(q.take v.1).map Al.c,false⟩)]) (λv=>v.1<=q.length) (λv=>q.length-v.1) (0,0,0) ?_
     rintro⟨j,c1,c2⟩ hj;simp only at hj;go_simp;refine⟨λb=>⟨_,zE b,λJ=>?_⟩,λh7=>?_⟩
     ·have hk:=xE (yb Ce.one q[j].cells) (by simpa using t _ (zM b));repeat'(first|(apply zd hk;try go_simp)|with_reducible first|apply ai|intro)
      ·omega
      rename_i K L;exact⟨j+1,om,om,wrS om,_,_,⟨rfl,rfl,rfl⟩,rfl,rfl,by rw[List.take_take,Nat.min_self,TB b]⟩
     ·obtain rfl:j=q.length:=om;refine y8 [.l 30] (.l 14) 0 0 (row:=[.sl (.l 30) c1 3 q.length c2,iI next]) (v:=vAl_ q) rfl rfl rfl sm (SV.own rfl rfl rfl rfl sm sm (by rw[List.take_take,Nat.min_self];exact zT sm)) ?_;refine aO [] ?_;go_simp;repeat'(first|(apply zd D;try go_simp)|with_reducible first|apply ai|intro)
   ·rcases fc m p l.length with h|⟨h,d⟩|⟨h,d,f⟩|⟨k,x,h,d,f,hx,M⟩|⟨k,x,h,d,f,hx,M,N⟩|⟨k,x,h,d,f,hx,M,N⟩
    ·rw[(lT h).1] at g;exact absurd g h
    ·rw[(lU h d).1] at g;cases g
    ·exact absurd (jo h d f).2.1 Q
    ·rw[(gT h d f hx M).1] at g;cases g
    ·exact absurd (jp h d f hx M N).2.1 Q
    obtain⟨F,H,I⟩:=Pe h d f hx M N ha;rw[F,H,I];rw[g] at D;have P:=XI m p l.length hw k x hx h d f M N;obtain⟨b,ze⟩:=Uq hx;replace ze:=ze Al.c;have hu:x.cells.length<1000000:=hw.2 _ (zF hx);clear F H I Q;generalize fdL _ _ _=ff at D;obtain⟨q,next⟩:=m;obtain⟨T,U,V⟩:=p;simp only at d M hx b ze P ⊢;obtain⟨o,rfl⟩:∃o:Nat,U=o:=⟨U.toNat,om⟩
    obtain⟨r1,r2⟩:1<=l.length/\o+l.length<=x.cells.length:=om;simp only[Int.toNat_natCast] at P ⊢;refine eK [12,18,21,22] func272 λX=>?_;go_simp;repeat'(first|(apply zd D;try go_simp)|with_reducible first|apply ai|intro)
    rename_i E y z;refine lN [12,18,21,22] (λi=>[(2,vCe_ l),(3,.ptr (.l 3) E 2 0 0),(4,.ptr (.l 4) y 3 0 0),(6,.ptr (.l 6) z 2 0 0),(31,vCe_ l),(32,iI l.length),(33,iI i)]) (λv=>[(.l 3,⟨E,1,2,27,[Me.c ⟨q,next⟩],false⟩),(.l 4,⟨y,1,3,53,[[iI T,iI o,iI V]],false⟩),(.l 6,⟨z,1,2,27,[[.nils,iI 0]],false⟩)]) (λi=>i<=l.length) (λi=>l.length-i) 0 ?_
    rintro i hi;go_simp;refine⟨λb=>⟨_,zE b,λY=>?_⟩,λh7=>?_⟩
    ·have A:=O _ (zM b);rw[h5 _ (zM b)] at A;repeat'(first|(apply zd A;try go_simp)|with_reducible first|apply ai|intro)
     exact⟨i+1,om,om,wrS om⟩
    ·intro C;refine wR (.l 14) (.l 30) 0 3 170 rfl rfl rfl ?_;refine aO [18,21,22] ?_;go_simp;obtain⟨R,t⟩:=hw;simp only at R t;refine zf hP (B:=[18,21,22]) (G:=Nat×(Nat×Nat)×(Nat×Nat)) (λv=>[(2,vCe_ l),(4,.ptr (.l 4) y 3 0 0),(6,.ptr (.l 6) z 2 0 0),(14,.ptr (.l 14) C 2 0 0),(48,vAl_ q),(49,iI q.length),(50,iI v.1)])
      (λv=>[(.l 4,⟨y,1,3,53,[[iI T,iI o,iI V]],false⟩),(.l 6,⟨z,1,2,27,[[.nils,iI 0]],false⟩),(.l 14,⟨C,1,2,27,[[.sl (.l 30) v.2.1.1 3 v.1 v.2.1.2,iI next]],false⟩),(.l 30,⟨v.2.1.1,v.2.1.2,3,170,dq q k v.1 (alO x (.l 56) v.2.2.1 v.2.2.2),false⟩)]++(if v.1<=k then [] else [(.l 56,⟨v.2.2.1,v.2.2.2,5,175,x.cells.map Ce.c,false⟩)]))
      (λv=>v.1<=q.length) (λv=>q.length-v.1) (0,(0,0),(0,0)) dk sm ?_ ?_ ?_
     ·go_simp
     ·go_simp;simp[dq]
     ·rintro⟨j,⟨c1,c2⟩,⟨Z,W⟩⟩ hj;simp only at hj;by_cases b:j<q.length
      ·have hk:=xE (yb Ce.one q[j].cells) (by simpa using t _ (zM b));have S:=TB b;have h8:((q.map Al.c).take j).length=j:=by simp;omega
       have ht:(q.take j).length=j:=by simp;omega
       rcases Nat.lt_trichotomy j k with hn|rfl|hn
       ·have d:j<=k:=om;have f:j+1<=k:=om;simp only[if_pos d,dq];go_simp;intro J;repeat'(first|(apply zd hk;try go_simp)|with_reducible first|apply ai|intro)
        ·omega
        rename_i K L;refine⟨j+1,om,om,wrS om,_,_,⟨rfl,om,rfl⟩,0,0,⟨rfl,rfl,?_⟩,?_⟩
        ·rw[if_pos f,List.take_take,Nat.min_self,S]
        ·rw[if_pos f];go_simp
       ·simp only[if_pos (Nat.le_refl j),dq];obtain rfl:q[j]=x:=by rw[zE b] at hx;injection hx
        have hd:=m8 (yb Ce.one q[j].cells) (by simpa using t _ (zM b));go_simp;intro J;repeat'(first|(refine xu (.l 56) hd ?_;intro h9 hb;try go_simp)|with_reducible first|apply ai|intro)
        ·omega
        rename_i K L;have f:¬j+1<=j:=om;refine⟨j+1,om,om,wrS om,_,_,⟨rfl,om,rfl⟩,h9,hb,⟨rfl,rfl,?_⟩,?_⟩
        ·rw[if_neg f,List.take_take,Nat.min_self,S,List.set_append_right _ _ om,h8,Nat.sub_self];simp[alO,N]
        ·rw[if_neg f];go_simp
       ·have d:¬j<=k:=om;simp only[if_neg d,dq];go_simp;intro J;repeat'(first|(apply zd hk;try go_simp)|with_reducible first|apply ai|intro)
        ·omega
        rename_i K L;have f:¬j+1<=k:=om;refine⟨j+1,om,om,wrS om,_,_,⟨rfl,om,rfl⟩,Z,W,⟨rfl,rfl,?_⟩,?_⟩
        ·rw[if_neg f,S,List.set_append_left _ _ om,zT (by rw[List.length_set];omega)]
        ·rw[if_neg f];go_simp
      ·obtain rfl:j=q.length:=om;have d:¬q.length<=k:=om;simp only[if_neg d,dq];go_simp;refine Xm (.l 56) rfl λh6=>?_;have hr:alO x (.l 56) Z W = [iI x.num,.bool true,.sl (.l 56) Z 5 x.cells.length W]:=by simp[alO,N]
       have hg:o<=W:=by simp at h6;omega
       refine aO [22] ?_;go_simp;refine zi [.l 30,.l 56] 2 0 (P c1 c2 Z W) ?_;intro hv;go_simp;have hq:¬l = []:=λe=>by rw[e] at r1;simp at r1
       refine⟨hq,λ_=>?_⟩;refine aO [22] ?_;go_simp;refine y8 [.l 56] (.l 30) k 2 (row:=[iI x.num,.bool true,.sl (.l 56) Z 5 x.cells.length W]) (v:=vCe_ (wrL x.cells o l l.length)) rfl (ze _) rfl sm (SV.own rfl rfl rfl rfl (by simp;omega) sm (by simp only[wrL,List.take_length,zV,List.map_take,List.map_drop];exact zT (by simp;omega))) ?_;refine aO [] ?_;go_simp;rw[zT sm];simp[lV,wrL,N]
  ·obtain⟨F,H,I⟩:=MP g (by simpa using ha);rw[F,H,I];rw[g] at D;obtain⟨j,hj,hp,ho⟩:=cM (p:=xg) (by simpa using ha);generalize fdL _ _ _=ff at D;obtain⟨q,next⟩:=m;obtain⟨T,U,V⟩:=p;refine eK [12,18,21,22] func272 λX=>?_;go_simp;repeat'(first|(apply zd D;try go_simp)|with_reducible first|apply ai|intro)
   rename_i E y z;refine lN [12,18,21,22] (λi=>[(2,vCe_ l),(3,.ptr (.l 3) E 2 0 0),(4,.ptr (.l 4) y 3 0 0),(6,.ptr (.l 6) z 2 0 0),(31,vCe_ l),(32,iI l.length),(33,iI i)]) (λv=>[(.l 3,⟨E,1,2,27,[Me.c ⟨q,next⟩],false⟩),(.l 4,⟨y,1,3,53,[[iI T,iI U,iI V]],false⟩),(.l 6,⟨z,1,2,27,[[.nils,iI 0]],false⟩)]) (λi=>i<=j) (λi=>l.length-i) 0 ?_
   rintro i hi;have b:i<l.length:=om;go_simp;intro Y;have A:=O _ (zM b);by_cases hm:i=j
   ·subst hm;have:wa l[i]=8:=by unfold wa;rw[ho];rfl
    rw[this] at A;repeat'(first|(apply zd A;try go_simp)|with_reducible first|apply ai|intro)
   ·have:wa l[i]=0:=by unfold wa;rw[if_pos (hp i om)]
    rw[this] at A;repeat'(first|(apply zd A;try go_simp)|with_reducible first|apply ai|intro)
    exact⟨i+1,om,om,wrS om⟩
 ·obtain⟨F,H,I⟩:=Pd g;rw[F,H,I];have Q:fdL m p l.length = []:=by unfold fdL;rw[if_pos (Or.inl g)]
  rw[Q] at D;obtain⟨q,next⟩:=m;refine eK [12,18,21,22] func272 λX=>?_;go_simp;repeat'(first|(apply zd D;try go_simp)|with_reducible first|apply ai|intro)
def moZ:Mo:=⟨⟨[],0⟩,[],[],0,0⟩
def po0:Po:=⟨0,0,0⟩
def tS (nt nc:Int)(live:Bool)(i:It): Bool:=live&&decide (i.tag<nt)&&decide (i.call<nc)
def moS (nt nc:Int)(a:Al)(x:Ss): Bool:=x.num==a.num&&decide (x.cells.length=a.cells.length)&&qM x&&x.cells.all λs=>s.all (tS nt nc a.live)
def sZ (n:Int): Bool:=decide (1<=n/\n<=1000000)
def moH (m:Mo): Bool:=sG m.mem&&decide (m.stacks.length=m.mem.allocs.length)&&sZ m.ntag&&sZ m.ncall&&pW m.running&&decide (xI m.running m.running.length<m.ncall)
def lW (m:Mo): Bool:=moH m&&(m.mem.allocs.zip m.stacks).all λq=>moS m.ntag m.ncall q.1 q.2
def vR (m:Mo): Int:=if lW m then 0 else 8
structure AlV (a:Al)(next:Int): Prop where
 lo:0<=a.num
 hi:a.num<next
 c1:1<=a.cells.length
 c2:a.cells.length<=2
 ce:∀c∈a.cells,uI a.live c=true
structure MeV (m:Me): Prop where
 len:m.allocs.length<=400
 nx:0<=m.next/\m.next<=1000000
 pw:m.allocs.Pairwise (λa b=>a.num<b.num)
 al:∀a∈m.allocs,AlV a m.next
def og {m:Me}: yq m=0↔MeV m:=by
 rw[T6];constructor
 ·rintro⟨f,e,g⟩;have d:∀j (b:j<m.allocs.length),sY (t4 m.allocs j) m.next m.allocs[j]=true:=λj b=>by rw[<-pZ b];exact g j b
  have y:∀j (b:j<m.allocs.length),t4 m.allocs j<m.allocs[j].num/\AlV m.allocs[j] m.next\/False:=λj b=>by
   have:=d j b
   unfold sY at this;simp only[zB,zL,zA] at this;obtain⟨⟨⟨⟨z,o⟩,q⟩,t⟩,v⟩:=this;refine Or.inl ⟨z,?_,o,q,t,v⟩;have:∀i (hi:i<m.allocs.length),0<=m.allocs[i].num:=by
    intro i;induction i with
    |zero=>intro hi;have:=d 0 hi;unfold sY at this;simp only[zB,zL] at this;have:=this.1.1.1.1;unfold t4 at this;simp at this;omega
    |succ i ih=>intro hi;have h:=d (i+1) hi;unfold sY at h;simp only[zB,zL] at h;have:=h.1.1.1.1;rw[tN om] at this;have:=ih om;omega
   exact this j b
  refine⟨f,by unfold inT at e;simpa using e,?_,λa A=>?_⟩
  ·rw[List.pairwise_iff_getElem];intro i j hi b B;induction j with
   |zero=>omega
   |succ j ih =>
    have h:=(y (j+1) b).resolve_right id;rw[tN om] at h;rcases Nat.lt_or_ge i j with c|c
    ·have:=ih om c;omega
    ·obtain rfl:i=j:=om;exact h.1
  ·obtain⟨i,hi,rfl⟩:=List.getElem_of_mem A;exact((y i hi).resolve_right id).2
 ·rintro⟨f,e,g,d⟩;refine⟨f,by unfold inT;simpa using e,λj b=>?_⟩;rw[pZ b];obtain⟨z,o,q,t,v⟩:=d _ (zM b);unfold sY;simp only[zB,zL,zA];refine⟨⟨⟨⟨?_,o⟩,q⟩,t⟩,v⟩;cases j with
  |zero=>unfold t4;simp;omega
  |succ j=>rw[tN om];exact List.pairwise_iff_getElem.1 g _ _ _ _ om
structure MoV (m:Mo): Prop where
 me:MeV m.mem
 len:m.stacks.length=m.mem.allocs.length
 nt:1<=m.ntag/\m.ntag<=1000000
 nc:1<=m.ncall/\m.ncall<=1000000
 rn:y9 m.running=0
 lt:∀c∈m.running,c<m.ncall
 st:∀q∈m.mem.allocs.zip m.stacks,moS m.ntag m.ncall q.1 q.2=true
def dr {l:List Int}(h:y9 l=0)(hn:1<=n): xI l l.length<n↔∀c∈l,c<n:=by
 constructor
 ·intro hp c d;obtain⟨i,hi,rfl⟩:=List.getElem_of_mem d;have e:=rH h (l.length-1) i om om;have b:=uH (l:=l) (i:=l.length-1) om;rw[show l.length-1+1=l.length by omega] at b;omega
 ·intro hp;cases hl:l.length with
  |zero=>unfold xI;rw[if_pos rfl];omega
  |succ k=>rw[uH om];exact hp _ (zM _)
def mD: vR m=0↔MoV m:=by
 have h:vR m=0↔lW m=true:=by unfold vR;split<;>simp_all
 have i:sG m.mem=true↔MeV m.mem:=by rw[<-og];unfold yq;split<;>simp_all
 have j:pW m.running=true↔y9 m.running=0:=by unfold y9;split<;>simp_all
 rw[h];unfold lW moH;simp only[zB,zL,i,j,sZ,zA];constructor
 ·rintro⟨⟨⟨⟨⟨⟨a,b⟩,c⟩,d⟩,e⟩,f⟩,g⟩;exact⟨a,b,c,d,e,(dr e d.1).1 f,g⟩
 ·rintro⟨a,b,c,d,e,f,g⟩;exact⟨⟨⟨⟨⟨⟨a,b⟩,c⟩,d⟩,e⟩,(dr e d.1).2 f⟩,g⟩
structure tT (nt nc:Int)(a:Al)(x:Ss): Prop where
 num:x.num=a.num
 len:x.cells.length=a.cells.length
 ok:xU x=0
 it:∀s∈x.cells,∀i∈s,a.live=true/\i.tag<nt/\i.call<nc
def qk {nt nc:Int}: moS nt nc a x=true↔tT nt nc a x:=by
 have e:qM x=true↔xU x=0:=by unfold xU;split<;>simp_all
 unfold moS tS;simp only[zB,zL,zA,beq_iff_eq,e];constructor
 ·rintro⟨⟨⟨a,b⟩,c⟩,d⟩;exact⟨a,b,c,λs hs i hi=>⟨(d s hs i hi).1.1,(d s hs i hi).1.2,(d s hs i hi).2⟩⟩
 ·rintro⟨a,b,c,d⟩;exact⟨⟨⟨a,b⟩,c⟩,λs hs i hi=>⟨⟨(d s hs i hi).1,(d s hs i hi).2.1⟩,(d s hs i hi).2.2⟩⟩
def MoV.at(h:MoV m)(c:m.mem.allocs[k]?=some a): ∃x,m.stacks[k]?=some x/\tT m.ntag m.ncall a x:=by
 obtain⟨d,rfl⟩:=zS.1 c;have b:k<m.stacks.length:=by rw[h.len];exact d
 refine⟨m.stacks[k],zE b,qk.1 (h.st (m.mem.allocs[k],m.stacks[k]) ?_)⟩;rw[List.mem_iff_getElem];exact⟨k,by simp;omega,sm⟩
def ZE {b c:Type}{l:List b}{r:List c}{q:b×c}(h:q∈l.zip r): ∃k:Nat,l[k]?=some q.1/\r[k]?=some q.2:=by
 obtain⟨k,d,rfl⟩:=List.getElem_of_mem h;simp only[List.length_zip] at d;exact⟨k,sm,sm⟩
def tT.mono {nt nc c b:Int}{a a':Al}(h:tT nt nc a x)(j:nt<=c)(o:nc<=b)(d:a'.num=a.num)(e:a'.live=a.live)(f:a'.cells.length=a.cells.length): tT c b a' x :=
 ⟨h.num.trans d.symm,h.len.trans f.symm,h.ok,λs hs i hi=>by obtain⟨g,q,t⟩:=h.it s hs i hi;exact⟨e.trans g,om,om⟩⟩
def MoV.mk'(h:MoV m){b:Mo}(c:MeV b.mem)(hl:b.mem.allocs.length=m.mem.allocs.length)(hs:b.stacks.length=m.stacks.length)(hn:m.ntag<=b.ntag)(d:b.ntag<=1000000)(f:b.ncall=m.ncall)(i:b.running=m.running)
  (hp:∀(k:Nat)(a:Al) (x:Ss),m.mem.allocs[k]?=some a->m.stacks[k]?=some x->tT m.ntag m.ncall a x->∀a' j,b.mem.allocs[k]?=some a'->b.stacks[k]?=some j->tT b.ntag b.ncall a' j):MoV b:=by
 refine⟨c,by rw[hs,h.len,hl],⟨by have:=h.nt;omega,d⟩,by rw[f];exact h.nc,by rw[i];exact h.rn,by rw[i,f];exact h.lt,λq t=>qk.2 ?_⟩;obtain⟨k,e,o⟩:=ZE t;have g:k<m.mem.allocs.length:=by have:=(zS.1 e).1;omega
 obtain⟨x,hx,v⟩:=h.at (zE g)
 exact hp k _ x (zE g) hx v _ _ e o
def ql {g:Nat->Int}: ∀ {n:Nat},yP g n=0↔∀j,j<n->g j=0
 |0=>by simp[yP]
 |n+1=>by
  have ih:=@ql g n;show(if yP g n=0 then g n else yP g n)=0↔_;by_cases h:yP g n=0
  ·rw[if_pos h];have:=ih.1 h
   constructor
   ·intro hn j d;rcases Nat.lt_or_ge j n with c|c
    ·exact this j c
    ·obtain rfl:j=n:=om;exact hn
   ·exact λb=>b n om
  ·rw[if_neg h];constructor
   ·exact λk=>absurd k h
   ·exact λb=>absurd (ih.2 λj d=>b j om) h
def ZF {cs:List (List It)}{k:Nat}{g:Nat->List It}{s:List It}: ∀ {n:Nat},s∈qN cs k g n->s∈cs\/∃j,j<n/\s=g j
 |0,h=>Or.inl h
 |n+1,h=>by
  rcases List.mem_or_eq_of_mem_set h with h|h
  ·rcases ZF h with h|⟨j,b,h⟩
   ·exact Or.inl h
   ·exact Or.inr ⟨j,om,h⟩
  ·exact Or.inr ⟨n,om,h⟩
def TC {Q:List It->Prop}{k n:Nat}(h:(xq u x k n).2.1=0)(i:(xq u x k n).2.2=0)(t:k+n<=x.cells.length)(o:∀s∈x.cells,Q s)
  (q:∀s∈x.cells,(u s).2.1=0->(u s).2.2=0->Q (u s).1):(xq u x k n).1.num=x.num/\(xq u x k n).1.cells.length=x.cells.length/\∀s∈(xq u x k n).1.cells,Q s:=by
 by_cases b:yP (λj=>(xz u x.cells k j).2.2) n=0
 ·by_cases e:yP (λj=>(xz u x.cells k j).2.1) n=0
  ·have c:xq u x k n=(⟨x.num,qN x.cells k (λj=>(xz u x.cells k j).1) n⟩,0,0):=by
    unfold xq;rw[if_neg (by simpa using b),if_neg (by simpa using e)]
   rw[c];refine⟨rfl,iw n,λs hs=>?_⟩;rcases ZF hs with hs|⟨j,g,rfl⟩
   ·exact o s hs
   ·have d:k+j<x.cells.length:=om;have f:xz u x.cells k j=u x.cells[k+j]:=by unfold xz;rw[zD,zE d];rfl
    rw[f];exact q _ (zM d) (by rw[<-f];exact ql.1 e j g) (by rw[<-f];exact ql.1 b j g)
  ·have c:(xq u x k n).2.1=yP (λj=>(xz u x.cells k j).2.1) n:=by
    unfold xq;rw[if_neg (by simpa using b),if_pos e]
   exact absurd (c▸h) e
 ·have c:(xq u x k n).2.2=yP (λj=>(xz u x.cells k j).2.2) n:=by
   unfold xq;rw[if_pos b]
  exact absurd (c▸i) b
def lX (nt nc:Int)(s:List It): Prop:=∀i∈s,i.tag<nt/\i.call<nc
def WK {i:It}: (wup i).tag=i.tag/\(wup i).call=i.call:=by unfold wup;split<;>exact⟨rfl,rfl⟩
def ZG{tag nt nc:Int}(h:lX nt nc s): lX nt nc (yv s tag w).1:=by
 unfold yv;split
 ·intro i hi;simp at hi
 split
 ·intro i hi;simp at hi
 generalize (uc (xH tag w) s).toNat=n;intro i hi;simp only[t3] at hi;split at hi
 ·rcases zJ.1 hi with hi|hi
  ·exact h i (List.mem_of_mem_take hi)
  ·cases hn:s[n]? with
   |none=>rw[hn] at hi;simp at hi
   |some y =>
    rw[hn] at hi;simp only[Option.map_some,Option.toList_some,zX] at hi;rw[hi,WK.1,WK.2];exact h y (zF hn)
 ·rcases zJ.1 hi with hi|hi
  ·exact h i (List.mem_of_mem_take hi)
  ·exact h i (List.mem_of_mem_drop (List.mem_filter.1 hi).1)
def Pf{u:List It×List It×Int×Int}(c:(xe r u).2.1=0)(d:(xe r u).2.2=0): (xe r u).1=u.1/\u.2.2.1=0/\u.2.2.2=0:=by
 unfold xe at *;by_cases e:y9 r=0
 ·rw[if_neg (by simpa using e)] at *;unfold pu at *;by_cases b:u.2.2.2=0/\u.2.2.1=0
  ·rw[if_pos b] at *;split at c
   ·simp at c
   ·rename_i f;rw[if_neg f];exact⟨rfl,b.2,b.1⟩
  ·rw[if_neg b] at *;exact⟨rfl,c,d⟩
 ·rw[if_pos e] at d;exact absurd d e
def OS {k:Int}(h:grE k=0): uu k=1\/uu k=2\/uu k=3\/uu k=4:=by
 unfold uu;split
 ·simp
 split
 ·simp
 split
 ·simp
 ·simp
def RU{k b:Int}{x:It}(h:yz s=0)(f:(xv s k b x).2.2.1=0)(c:(xv s k b x).2.2.2=0): yz (xv s k b x).1=0:=by
 unfold xv at *;rw[if_neg (by simpa using h)] at *;split at c
 ·simp at c
 rename_i e;rw[if_neg e] at *;split at f
 ·rename_i d;exact absurd f d
 rename_i d;rw[if_neg d] at *;split at c
 ·simp at c
 rename_i g;rw[if_neg g] at *;have j:=jl (tag:=b) (w:=grW k) h;have hl:=sE.1 j.1;have hs:=(sE.1 h).1;refine sE.2 ⟨by simp;omega,λi hi=>?_⟩;rcases zJ.1 hi with hi|hi
 ·exact hl.2 i hi
 ·rw[zX] at hi;subst hi;unfold jh at e;simp only[Bool.or_eq_true,Bool.not_eq_true',beq_eq_false_iff_ne,ne_eq,not_or,Decidable.not_not,Bool.not_eq_false] at e;unfold vK;simp only[zB,Bool.or_eq_true,beq_iff_eq];refine⟨⟨?_,e.1.2⟩,e.2⟩;have:=OS e.1.1.1
  omega
def TD{k c nt nc b:Int}{x:It}(h:lX nt nc s)(hn:nt<=b)(d:x.tag<b)(e:x.call<nc): lX b nc (xv s k c x).1:=by
 unfold xv;split
 ·intro i hi;simp at hi
 split
 ·intro i hi;simp at hi
 split
 ·intro i hi;simp at hi
 split
 ·intro i hi;simp at hi
 intro i hi;rcases zJ.1 hi with hi|hi
 ·have:=ZG (tag:=c) (w:=grW k) h i hi;exact⟨om,this.2⟩
 ·rw[zX] at hi;subst hi;exact⟨d,e⟩
def rI: xU x=0↔(0<=x.num/\x.num<=1000000)/\1<=x.cells.length/\x.cells.length<=2/\∀s∈x.cells,yz s=0:=by
 have e:xU x=0↔qM x=true:=by unfold xU;split<;>simp_all
 rw[e];unfold qM inT;simp only[zB,zL,zA,<-oR];exact⟨fun ⟨⟨⟨a,b⟩,c⟩,d⟩=>⟨a,b,c,d⟩,fun ⟨a,b,c,d⟩=>⟨⟨⟨a,b⟩,c⟩,d⟩⟩
def MR {nt nc:Int}{k n tag:Int}(h:tT nt nc a x)(hl:a.live=true)(g:(rdS x k n tag r w).2.1=0)(b:(rdS x k n tag r w).2.2=0): tT nt nc a (rdS x k n tag r w).1:=by
 by_cases e:uz x k n r=0
 ·obtain⟨E,hx,A,B,rfl,rfl,d⟩:=nM e;have c:rdS x A B tag r w=xq (λs=>xe r (yv s tag w)) x A B:=by unfold rdS;rw[if_neg (by simpa using e)];rfl
  rw[c] at g b ⊢;obtain⟨j,f,o⟩:=TC (Q:=λs=>yz s=0/\lX nt nc s) g b d (λs hs=>⟨(rI.1 hx).2.2.2 s hs,λi hi=>(h.it s hs i hi).2⟩) λs hs k1 t=>by
   obtain⟨q,C,D⟩:=Pf k1 t;show yz (xe r _).1=0/\lX nt nc (xe r _).1;rw[q];exact⟨(jl ((rI.1 hx).2.2.2 s hs)).1,ZG λi hi=>(h.it s hs i hi).2⟩
  obtain⟨v,y,z,F⟩:=rI.1 hx;exact⟨by rw[j];exact h.num,by rw[f];exact h.len,rI.2 ⟨by rw[j];exact v,by rw[f];exact y,by rw[f];exact z,λs hs=>(o s hs).1⟩,λs hs i hi=>⟨hl,(o s hs).2 i hi⟩⟩
 ·have c:(rdS x k n tag r w).2.2=uz x k n r:=by unfold rdS;rw[if_pos e]
  exact absurd (c▸b) e
def Eh {nt nc:Int}{k n kind b call:Int}(h:tT nt nc a x)(hl:a.live=true)(C:call<nc)(o:(rtS x k n kind b ⟨0,nt,call⟩ r).2.1=0)(d:(rtS x k n kind b ⟨0,nt,call⟩ r).2.2=0): tT (nt+1) nc a (rtS x k n kind b ⟨0,nt,call⟩ r).1:=by
 by_cases e:uz x k n r=0
 ·by_cases f:grE kind=0
  ·obtain⟨H,hx,A,B,rfl,rfl,g⟩:=nM e;have c:rtS x A B kind b ⟨0,nt,call⟩ r=xq (λs=>xe r (xv s kind b ⟨0,nt,call⟩)) x A B:=by unfold rtS;rw[if_neg (by simpa using e),if_neg (by simpa using f)];rfl
   rw[c] at o d ⊢;obtain⟨q,j,t⟩:=TC (Q:=λs=>yz s=0/\lX (nt+1) nc s) o d g (λs hs=>⟨(rI.1 hx).2.2.2 s hs,λi hi=>⟨by have:=(h.it s hs i hi).2.1;omega,(h.it s hs i hi).2.2⟩⟩) λs hs k1 D=>by
    obtain⟨v,y,z⟩:=Pf k1 D;show yz (xe r _).1=0/\lX (nt+1) nc (xe r _).1;rw[v];exact⟨RU ((rI.1 hx).2.2.2 s hs) y z,TD (nt:=nt) (λi hi=>(h.it s hs i hi).2) om (by simp only;omega) C⟩
   obtain⟨E,F,G,I⟩:=rI.1 hx;exact⟨by rw[q];exact h.num,by rw[j];exact h.len,rI.2 ⟨by rw[q];exact E,by rw[j];exact F,by rw[j];exact G,λs hs=>(t s hs).1⟩,λs hs i hi=>⟨hl,(t s hs).2 i hi⟩⟩
  ·have c:(rtS x k n kind b ⟨0,nt,call⟩ r).2.2=grE kind:=by unfold rtS;rw[if_neg (by simpa using e),if_pos f]
   exact absurd (c▸d) f
 ·have c:(rtS x k n kind b ⟨0,nt,call⟩ r).2.2=uz x k n r:=by unfold rtS;rw[if_pos e]
  exact absurd (c▸d) e
def lY {b c:Type}{l:List b}{f:b->c}{x y:b}(hx:l[k]?=some x)(h:f y=f x): (l.set k y).map f=l.map f:=by
 apply List.ext_getElem?;intro i;rw[List.getElem?_map,List.getElem?_map,List.getElem?_set];split
 ·subst_vars;rw[hx,if_pos (zS.1 hx).1];simp[h]
 ·rfl
def OT {l l':List Al}(h:l.Pairwise (λa b=>a.num<b.num))(e:l'.map Al.num=l.map Al.num): l'.Pairwise (λa b=>a.num<b.num):=by
 have c:(l.map Al.num).Pairwise (·<·):=List.pairwise_map.2 h;rw[<-e] at c;exact List.pairwise_map.1 c
def ud {m:Me}(h:¬atA m n<0): ∃k:Nat,atA m n=k/\∃x,m.allocs[k]?=some x/\x.num=n:=by
 obtain⟨k,c,b,hp,_⟩:=q9 (by unfold atA at h;omega:0<=idx (xO n) m.allocs)
 exact⟨k,c,_,zE b,by simpa[xO] using hp⟩
def MeV.set {m:Me}(h:MeV m){x y:Al}(hx:m.allocs[k]?=some x)(hn:y.num=x.num)(hl:y.cells.length=x.cells.length)(d:∀c∈y.cells,uI y.live c=true): MeV ⟨m.allocs.set k y,m.next⟩:=by
 refine⟨by simpa using h.len,h.nx,OT h.pw (lY hx hn),λa b=>?_⟩;rcases List.mem_or_eq_of_mem_set b with b|rfl
 ·exact h.al a b
 ·have:=h.al x (zF hx)
  exact⟨by rw[hn];exact this.lo,by rw[hn];exact this.hi,by rw[hl];exact this.c1,by rw[hl];exact this.c2,d⟩
def iz {x:Al}{o:Nat}(h:o+l.length<=x.cells.length): (lV x o l).cells.length=x.cells.length:=by
 unfold lV;simp;omega
def i3 {x:Al}{o:Nat}{c:Ce}(h:c∈(lV x o l).cells): c∈x.cells\/c∈l:=by
 unfold lV at h;simp only[zJ] at h;rcases h with h|h|h
 ·exact Or.inl (List.mem_of_mem_take h)
 ·exact Or.inr h
 ·exact Or.inl (List.mem_of_mem_drop h)
structure StF (m:Me)(p:Po)(l:List Ce)(k:Nat)(x:Al): Prop where
 at_:atA m p.al=k
 hx:m.allocs[k]?=some x
 num:x.num=p.al
 live:x.live=true
 lo:0<=p.off
 hi:p.off.toNat+l.length<=x.cells.length
 n1:1<=l.length/\l.length<=2
 ok:∀c∈l,xg c=true
 eq:stM m p l=⟨m.allocs.set k (lV x p.off.toNat l),m.next⟩
def i4 {m:Me}(f:stE m p l=0)(j:stW m p l=0): ∃k x,StF m p l k x:=by
 have e:fdE m p l.length=0:=zC λc=>by unfold stE at f;rw[if_pos c] at f;exact c f
 have t:l.all xg=true:=zC λc=>by unfold stE at f;rw[if_neg (by simpa using e),if_neg c] at f;simp at f
 have q:fdL m p l.length≠[]:=λc=>by unfold stW at j;rw[if_neg (by simpa using f),if_pos c] at j;simp at j
 rcases fc m p l.length with h|⟨h,d⟩|⟨h,d,b⟩|⟨k,x,h,d,b,hx,i⟩|⟨k,x,h,d,b,hx,i,o⟩|⟨k,x,h,d,b,hx,i,o⟩
 ·rw[(lT h).1] at e;exact absurd e h
 ·rw[(lU h d).1] at e;cases e
 ·exact absurd (jo h d b).2.1 q
 ·rw[(gT h d b hx i).1] at e;cases e
 ·exact absurd (jp h d b hx i o).2.1 q
 ·refine⟨k,x,b,hx,?_,o,om,om,om,λc v=>zA.1 t c v,?_⟩
  ·obtain⟨k',y,z,g,hn⟩:=ud (m:=m) (n:=p.al) om;obtain rfl:k=k':=om;rw[hx] at g;injection g with e;rw[e];exact hn
  ·unfold stM;rw[if_pos ⟨f,j⟩,sP b hx,b];rfl
def Pg {m:Me}(d:MeV m)(e:stE m p l=0)(g:stW m p l=0): MeV (stM m p l):=by
 obtain⟨k,x,f⟩:=i4 e g;rw[f.eq];refine d.set f.hx rfl (iz f.hi) λc b=>?_;show uI x.live c=true;rw[f.live];rcases i3 b with b|b
 ·have:=(d.al x (zF f.hx)).ce c b;rw[f.live] at this;exact this
 ·unfold uI;rw[f.ok c b];rfl
structure LdF (m:Me)(p:Po)(n:Int)(k:Nat)(x:Al): Prop where
 at_:atA m p.al=k
 hx:m.allocs[k]?=some x
 num:x.num=p.al
 live:x.live=true
 lo:0<=p.off
 hi:p.off+n<=x.cells.length
 n1:1<=n/\n<=2
 eq:fdL m p n=(x.cells.drop p.off.toNat).take n.toNat
def i5 {m:Me}(e:fdE m p n=0)(i:fdL m p n≠[]): ∃k x,LdF m p n k x:=by
 rcases fc m p n with h|⟨h,b⟩|⟨h,b,c⟩|⟨k,x,h,b,c,hx,d⟩|⟨k,x,h,b,c,hx,d,g⟩|⟨k,x,h,b,c,hx,d,g⟩
 ·rw[(lT h).1] at e;exact absurd e h
 ·rw[(lU h b).1] at e;cases e
 ·exact absurd (jo h b c).2.1 i
 ·rw[(gT h b c hx d).1] at e;cases e
 ·exact absurd (jp h b c hx d g).2.1 i
 ·refine⟨k,x,c,hx,?_,g,om,om,om,(Ut h b c hx d g).2.1⟩;obtain⟨k',j,o,f,hn⟩:=ud (m:=m) (n:=p.al) om;obtain rfl:k=k':=om;rw[hx] at f;injection f with e;rw[e];exact hn
def vS (m:Mo)(p:Po): Ss:=m.stacks.getD (atA m.mem p.al).toNat ⟨0,[]⟩
def sH (m:Mo)(p:Po)(x:Ss): Mo:=⟨m.mem,m.stacks.set (atA m.mem p.al).toNat x,m.running,m.ntag,m.ncall⟩
def rdR (m:Mo)(p:Po)(n:Int)(w:Bool): Ss×Int×Int:=rdS (vS m p) p.off n p.tag m.running w
def mLd (m:Mo)(p:Po)(n:Int): Mo×List Ce×Int×Int :=
 if ¬fdE m.mem p n=0 then(moZ,[],0,fdE m.mem p n) else if fdL m.mem p n = [] then(moZ,[],3,0) else
 if ¬(rdR m p n false).2.1=0 then(moZ,[],(rdR m p n false).2.1,0) else if ¬ldW m.mem p n=0 then(moZ,[],ldW m.mem p n,0) else(sH m p (rdR m p n false).1,fdL m.mem p n,0,0)
def mSt (m:Mo)(p:Po)(l:List Ce): Mo×Int×Int :=
 if ¬stE m.mem p l=0 then(moZ,0,stE m.mem p l) else if ¬stW m.mem p l=0 then(moZ,stW m.mem p l,0) else
 if ¬(rdR m p l.length true).2.1=0 then(moZ,(rdR m p l.length true).2.1,0) else(⟨stM m.mem p l,(sH m p (rdR m p l.length true).1).stacks,m.running,m.ntag,m.ncall⟩,0,0)
def rtR (m:Mo)(p:Po)(n kind call:Int): Ss×Int×Int:=rtS (vS m p) p.off n kind p.tag ⟨0,m.ntag,call⟩ m.running
def mRt (m:Mo)(p:Po)(n kind call:Int): Mo×Po×Int×Int :=
 if ¬grE kind=0\/(¬call=0/\call∉m.running) then(moZ,po0,0,2) else
 if ¬fdE m.mem p n=0 then(moZ,po0,0,fdE m.mem p n) else if m.ntag=1000000 then(moZ,po0,0,18) else if fdL m.mem p n = [] then(moZ,po0,3,0) else
 if ¬(rtR m p n kind call).2.2=0\/¬(rtR m p n kind call).2.1=0 then(moZ,po0,(rtR m p n kind call).2.1,(rtR m p n kind call).2.2) else
 (⟨m.mem,(sH m p (rtR m p n kind call).1).stacks,m.running,m.ntag+1,m.ncall⟩,⟨p.al,p.off,m.ntag⟩,0,0)
def qQ (n size tag:Int): Ss:=⟨n,List.replicate size.toNat [⟨1,tag,0⟩]⟩
def mAl (m:Mo)(size:Int): Mo×Po×Int :=
 if ¬wy m.mem size=0 then(moZ,po0,wy m.mem size) else if m.ntag=1000000 then(moZ,po0,18) else
 (⟨wz m.mem size,m.stacks++[qQ m.mem.next size m.ntag],m.running,m.ntag+1,m.ncall⟩,⟨m.mem.next,0,m.ntag⟩,0)
def mEn (m:Mo): Mo×Int×Int:=if m.running.length=32\/m.ncall=1000000 then(moZ,0,18) else(⟨m.mem,m.stacks,m.running++[m.ncall],m.ntag,m.ncall+1⟩,m.ncall,0)
def mLv (m:Mo): Mo×Int:=if m.running = [] then(moZ,6) else(⟨m.mem,m.stacks,m.running.take (m.running.length-1),m.ntag,m.ncall⟩,0)
def mEd (m:Mo)(n:Int): Mo×Int×Int :=
 if ¬yV m.mem n=0 then(moZ,0,yV m.mem n) else if xF (m.stacks.getD (atA m.mem n).toNat ⟨0,[]⟩) m.running=false then(moZ,2,0) else
 (⟨xP m.mem n,m.stacks.set (atA m.mem n).toNat ⟨(m.stacks.getD (atA m.mem n).toNat ⟨0,[]⟩).num,List.replicate (m.stacks.getD (atA m.mem n).toNat ⟨0,[]⟩).cells.length []⟩,m.running,m.ntag,m.ncall⟩,0,0)
def mFg (m:Mo): Mo:=⟨fgM m.mem,((m.mem.allocs.zip m.stacks).filter λq=>q.1.live).map (·.2),m.running,m.ntag,m.ncall⟩
def oh(h:MoV m)(b:atA m.mem p.al=k)(c:m.mem.allocs[k]?=some a): m.stacks[k]?=some (vS m p)/\tT m.ntag m.ncall a (vS m p):=by
 obtain⟨x,hx,d⟩:=h.at c;have:vS m p=x:=by unfold vS;rw[b,Int.toNat_natCast,zD,hx];rfl
 rw[this];exact⟨hx,d⟩
def lZ {d:Type}{l:List d}{k j:Nat}{x y z:d}(f:l[j]?=some y)(b:(l.set k x)[j]?=some z): (j=k/\z=x)\/(j≠k/\z=y):=by
 rw[List.getElem?_set] at b;split at b
 ·rename_i e;split at b
  ·injection b with b;exact Or.inl ⟨e.symm,b.symm⟩
  ·simp at b
 ·rename_i e;rw[f] at b;injection b with b;exact Or.inr ⟨λc=>e c.symm,b.symm⟩
def MS(h:MoV m)(b:atA m.mem p.al=k)(c:m.mem.allocs[k]?=some a)(d:0<=p.off)(e:p.off+n<=a.cells.length)(f:1<=n): uz (vS m p) p.off n m.running=0:=by
 have hs:=(oh h b c).2;unfold uz;rw[if_neg (by simpa using h.rn),if_neg (by simpa using hs.ok),if_neg];rw[hs.len];omega
def TE{k n:Nat}(f:k+n<=x.cells.length)(h:∀s∈x.cells,(u s).2.2=0): (xq u x k n).2.2=0:=by
 have e:yP (λj=>(xz u x.cells k j).2.2) n=0:=ql.2 λj d=>by
  have b:k+j<x.cells.length:=om;have c:xz u x.cells k j=u x.cells[k+j]:=by unfold xz;rw[zD,zE b];rfl
  rw[c];exact h _ (zM b)
 unfold xq;rw[if_neg (by simpa using e)];split<;>rfl
def RW{tag:Int}(h:yz s=0): (yv s tag w).2.2.2=0:=by
 unfold yv;rw[if_neg (by simpa using h)];split<;>rfl
def jq(h:MoV m)(c:atA m.mem p.al=k)(d:m.mem.allocs[k]?=some a)(f:0<=p.off)(g:p.off+n<=a.cells.length)(i:1<=n): (rdR m p n w).2.2=0:=by
 have e:=MS h c d f g i;obtain⟨q,hx,A,B,j,o,b⟩:=nM e;unfold rdR rdS;rw[if_neg (by simpa using e)];rw[j,o,Int.toNat_natCast,Int.toNat_natCast];refine TE b λs hs=>?_;have t:=RW (tag:=p.tag) (w:=w) ((rI.1 hx).2.2.2 s hs);unfold xe;rw[if_neg (by simpa using q)];unfold pu;split
 ·split<;>rfl
 ·exact t
def ZH(h:MoV m){y:Ss}{me':Me}{nt:Int}(t:atA m.mem p.al=k)(v:m.mem.allocs[k]?=some a)(f:MeV me')(hl:me'.allocs.length=m.mem.allocs.length)(hn:m.ntag<=nt)(g:nt<=1000000)
  (z:∀(j:Nat) b d,m.mem.allocs[j]?=some b->me'.allocs[j]?=some d->d.num=b.num/\d.live=b.live/\d.cells.length=b.cells.length) (B:tT nt m.ncall a y):MoV ⟨me',(sH m p y).stacks,m.running,nt,m.ncall⟩:=by
 refine h.mk' f hl (by unfold sH;simp) hn g rfl rfl λj b x hb hx A d C e c=>?_;obtain⟨i,o,q⟩:=z j b d hb e;unfold sH at c;rw[t,Int.toNat_natCast] at c;rcases lZ hx c with⟨rfl,rfl⟩|⟨_,rfl⟩
 ·rw[v] at hb;injection hb with hb;subst hb;exact B.mono (Int.le_refl _) (Int.le_refl _) i o q
 ·exact A.mono hn (Int.le_refl _) i o q
def Ij(h:MoV m)(c:(mLd m p n).2.2.1=0)(q:(mLd m p n).2.2.2=0): MoV (mLd m p n).1/\(mLd m p n).1.mem=m.mem/\(mLd m p n).1.ntag=m.ntag/\(mLd m p n).1.ncall=m.ncall/\(mLd m p n).1.running=m.running:=by
 unfold mLd at *;by_cases e:fdE m.mem p n=0
 ·rw[if_neg (by simpa using e)] at *;by_cases i:fdL m.mem p n = []
  ·rw[if_pos i] at c;simp at c
  ·rw[if_neg i] at *;by_cases g:(rdR m p n false).2.1=0
   ·rw[if_neg (by simpa using g)] at *;by_cases o:ldW m.mem p n=0
    ·rw[if_neg (by simpa using o)];obtain⟨k,x,f⟩:=i5 e i;have hs:=(oh h f.at_ f.hx).2;have t:=jq h (w:=false) f.at_ f.hx f.lo f.hi f.n1.1;refine⟨?_,rfl,rfl,rfl,rfl⟩;exact ZH h (p:=p) (me':=m.mem) f.at_ f.hx h.me rfl (Int.le_refl _) h.nt.2 (λj b v hb d=>by rw[hb] at d;injection d with e;subst e;exact⟨rfl,rfl,rfl⟩) (MR hs f.live g t)
    ·rw[if_pos o] at c;exact absurd c o
   ·rw[if_pos g] at c;exact absurd c g
 ·rw[if_pos e] at q;exact absurd q e
def OU {m:Me}(e:stE m p l=0)(g:stW m p l=0)(j:Nat)(b d:Al)(hb:m.allocs[j]?=some b)(c:(stM m p l).allocs[j]?=some d): d.num=b.num/\d.live=b.live/\d.cells.length=b.cells.length:=by
 obtain⟨k,x,f⟩:=i4 e g;rw[f.eq] at c;rcases lZ hb c with⟨rfl,rfl⟩|⟨_,rfl⟩
 ·rw[f.hx] at hb;injection hb with hb;subst hb;exact⟨rfl,rfl,iz f.hi⟩
 ·exact⟨rfl,rfl,rfl⟩
def Ik(h:MoV m)(d:(mSt m p l).2.1=0)(g:(mSt m p l).2.2=0): stE m.mem p l=0/\stW m.mem p l=0/\MoV (mSt m p l).1/\(mSt m p l).1.mem=stM m.mem p l/\(mSt m p l).1.ntag=m.ntag/\(mSt m p l).1.ncall=m.ncall/\(mSt m p l).1.running=m.running:=by
 unfold mSt at *;by_cases e:stE m.mem p l=0
 ·rw[if_neg (by simpa using e)] at *;by_cases b:stW m.mem p l=0
  ·rw[if_neg (by simpa using b)] at *;by_cases c:(rdR m p l.length true).2.1=0
   ·rw[if_neg (by simpa using c)] at *;obtain⟨k,x,f⟩:=i4 e b;have hs:=(oh h f.at_ f.hx).2;have i:=jq h (w:=true) (n:=l.length) f.at_ f.hx f.lo (by have:=f.hi;have:=f.lo;omega) (by have:=f.n1;omega);refine⟨e,b,?_,rfl,rfl,rfl,rfl⟩;exact ZH h (p:=p) f.at_ f.hx (Pg h.me e b) (by rw[f.eq];simp) (Int.le_refl _) h.nt.2 (OU e b) (MR hs f.live c i)
   ·rw[if_pos c] at d;exact absurd d c
  ·rw[if_pos b] at d;exact absurd d b
 ·rw[if_pos e] at g;exact absurd g e
def Il(h:MoV m){n kind call:Int}(o:(mRt m p n kind call).2.2.1=0)(d:(mRt m p n kind call).2.2.2=0): MoV (mRt m p n kind call).1/\(mRt m p n kind call).1.mem=m.mem/\(mRt m p n kind call).1.ntag=m.ntag+1/\(mRt m p n kind call).1.ncall=m.ncall/\(mRt m p n kind call).1.running=m.running/\(mRt m p n kind call).2.1=⟨p.al,p.off,m.ntag⟩:=by
 unfold mRt at *;by_cases q:¬grE kind=0\/(¬call=0/\call∉m.running)
 ·rw[if_pos q] at d;simp at d
 rw[if_neg q] at *;by_cases e:fdE m.mem p n=0
 ·rw[if_neg (by simpa using e)] at *;by_cases v:m.ntag=1000000
  ·rw[if_pos v] at d;simp at d
  rw[if_neg v] at *;by_cases t:fdL m.mem p n = []
  ·rw[if_pos t] at o;simp at o
  ·rw[if_neg t] at *;by_cases i:¬(rtR m p n kind call).2.2=0\/¬(rtR m p n kind call).2.1=0
   ·rw[if_pos i] at o d;simp only at o d;omega
   ·rw[if_neg i] at *;obtain⟨k,x,f⟩:=i5 e t;have hs:=(oh h f.at_ f.hx).2;have z:call<m.ncall:=by
     by_cases y:call=0
     ·have:=h.nc;omega
     ·exact h.lt call (zC λc=>q (Or.inr ⟨y,c⟩))
    refine⟨?_,rfl,rfl,rfl,rfl,rfl⟩;exact ZH h (p:=p) f.at_ f.hx h.me rfl om (by have:=h.nt;omega) (λj b A hb g=>by rw[hb] at g;injection g with e;subst e;exact⟨rfl,rfl,rfl⟩) (Eh hs f.live z (Decidable.not_not.1 λc=>i (Or.inr c)) (Decidable.not_not.1 λc=>i (Or.inl c)))
 ·rw[if_pos e] at d;exact absurd d e
def i6 {l:List Al}(h:l.Pairwise (λa b=>a.num<b.num)){x:Al}(hx:l[k]?=some x): idx (xO x.num) l=k:=by
 obtain⟨c,rfl⟩:=zS.1 hx;refine wB c (by simp[xO]) λy d=>?_;obtain⟨i,hi,rfl⟩:=List.getElem_of_mem d;simp only[List.length_take] at hi;have:=List.pairwise_iff_getElem.1 h i k om c om
 simp only[List.getElem_take,xO,beq_eq_false_iff_ne,ne_eq];omega
def ZI {m:Me}(h:wy m size=0): yq m=0/\1<=size/\size<=2/\¬m.allocs.length=400/\¬m.next=1000000:=by
 unfold wy at h;by_cases e:yq m=0
 ·rw[if_neg (by simpa using e)] at h;by_cases d:size<1\/2<size
  ·rw[if_pos d] at h;simp at h
  ·rw[if_neg d] at h;by_cases b:m.allocs.length=400\/m.next=1000000
   ·rw[if_pos b] at h;simp at h
   ·exact⟨e,om,om,λc=>b (Or.inl c),λc=>b (Or.inr c)⟩
 ·rw[if_pos e] at h;exact absurd h e
def TG {m:Me}(h:wy m size=0): MeV (wz m size)/\wz m size=⟨m.allocs++[⟨m.next,true,List.replicate size.toNat ceZ⟩],m.next+1⟩:=by
 obtain⟨g,j,o,q,t⟩:=ZI h;have f:=og.1 g;have e:wz m size=⟨m.allocs++[⟨m.next,true,List.replicate size.toNat ceZ⟩],m.next+1⟩:=by unfold wz;rw[if_pos h]
 refine⟨?_,e⟩;rw[e];refine⟨by have:=f.len;simp;omega,by have:=f.nx;simp only;omega,?_,λa d=>?_⟩
 ·rw[List.pairwise_append];refine⟨f.pw,sm,λa d b hb=>?_⟩;rw[zX] at hb;subst hb;exact(f.al a d).hi
 ·rcases zJ.1 d with d|d
  ·have:=f.al a d
   exact⟨this.lo,by have:=this.hi;simp only;omega,this.c1,this.c2,this.ce⟩
  ·rw[zX] at d;subst d;refine⟨f.nx.1,by simp only;omega,by simp;omega,by simp;omega,λc i=>?_⟩;rw[List.eq_of_mem_replicate i];rfl
def Im(h:MoV m)(c:(mAl m size).2.2=0): MoV (mAl m size).1/\wy m.mem size=0/\mAl m size=(⟨wz m.mem size,m.stacks++[qQ m.mem.next size m.ntag],m.running,m.ntag+1,m.ncall⟩,⟨m.mem.next,0,m.ntag⟩,0):=by
 unfold mAl at *;by_cases e:wy m.mem size=0
 ·rw[if_neg (by simpa using e)] at *;by_cases f:m.ntag=1000000
  ·rw[if_pos f] at c;simp at c
  rw[if_neg f] at *;refine⟨?_,e,rfl⟩;obtain⟨o,g⟩:=TG e;obtain⟨_,v,y,_,_⟩:=ZI e;have j:=h.nt;refine⟨o,by rw[g];simp[h.len],by simp only;omega,h.nc,h.rn,h.lt,λq b=>?_⟩;rw[g] at b;simp only at b;rw[List.zip_append (by rw[h.len])] at b;rcases zJ.1 b with b|b
  ·exact qk.2 ((qk.1 (h.st q b)).mono (by simp only;omega) (Int.le_refl _) rfl rfl rfl)
  ·simp only[List.zip_cons_cons,List.zip_nil_left,zX] at b;subst b;have t:=h.nc;have d:=h.me.nx;refine qk.2 ⟨rfl,by simp[qQ],rI.2 ⟨d,by simp[qQ];omega,by simp[qQ];omega,λs hs=>?_⟩,λs hs i hi=>?_⟩
   ·unfold qQ at hs;rw[List.eq_of_mem_replicate hs];refine sE.2 ⟨sm,λi hi=>?_⟩;rw[zX] at hi;subst hi;unfold vK inT;simp;omega
   ·unfold qQ at hs;rw[List.eq_of_mem_replicate hs,zX] at hi;subst hi;exact⟨rfl,by simp only;omega,by simp only;omega⟩
 ·rw[if_pos e] at c;exact absurd c e
def MT {l:List Int}(h:y9 l=0)(f:l.length<32)(e:∀c∈l,c<n)(g:1<=n/\n<=1000000): y9 (l++[n])=0:=by
 refine uV.2 ⟨by simp;omega,λj d=>?_⟩;have b:j<(l++[n]).length:=d;rw[sF b];simp only[List.length_append,List.length_singleton] at d;rcases Nat.lt_or_ge j l.length with c|c
 ·have:=(uV.1 h).2 j c
  rw[sF c] at this;have hp:xI (l++[n]) j=xI l j:=by
   unfold xI;split
   ·rfl
   ·simp only[zD];rw[List.getElem?_append_left om]
  rw[hp,List.getElem_append_left c];exact this
 ·obtain rfl:j=l.length:=om;have hp:xI (l++[n]) l.length=xI l l.length:=by
   unfold xI;split
   ·rfl
   ·simp only[zD];rw[List.getElem?_append_left om]
  have:=(dr (n:=n) h om).2 e
  simp only[hp,List.getElem_concat_length,zB,zL];omega
def OV {l:List Int}(h:y9 l=0): y9 (l.take k)=0:=by
 refine uV.2 ⟨by have:=(uV.1 h).1;simp;omega,λj c=>?_⟩;have b:j<(l.take k).length:=c;rw[sF b];simp only[List.length_take] at c;have:=(uV.1 h).2 j om
 rw[sF om] at this;have hp:xI (l.take k) j=xI l j:=by
  unfold xI;split
  ·rfl
  ·simp only[zD];rw[List.getElem?_take_of_lt om]
 rw[hp,List.getElem_take];exact this
def In(h:MoV m)(d:(mEn m).2.2=0): MoV (mEn m).1/\mEn m=(⟨m.mem,m.stacks,m.running++[m.ncall],m.ntag,m.ncall+1⟩,m.ncall,0):=by
 unfold mEn at *;by_cases e:m.running.length=32\/m.ncall=1000000
 ·rw[if_pos e] at d;simp at d
 ·rw[if_neg e] at *;have g:=(uV.1 h.rn).1;have i:=h.nc;refine⟨⟨h.me,h.len,h.nt,by simp only;omega,MT h.rn om h.lt h.nc,λc b=>?_,λq f=>qk.2 ((qk.1 (h.st q f)).mono (Int.le_refl _) (by simp only;omega) rfl rfl rfl)⟩,rfl⟩;rcases zJ.1 b with b|b
  ·have:=h.lt c b;simp only;omega
  ·rw[zX] at b;subst b;simp only;omega
def Io(h:MoV m)(b:(mLv m).2=0): MoV (mLv m).1/\mLv m=(⟨m.mem,m.stacks,m.running.take (m.running.length-1),m.ntag,m.ncall⟩,0):=by
 unfold mLv at *;by_cases e:m.running = []
 ·rw[if_pos e] at b;simp at b
 ·rw[if_neg e] at *;exact⟨⟨h.me,h.len,h.nt,h.nc,OV h.rn,λc d=>h.lt c (List.mem_of_mem_take d),h.st⟩,rfl⟩
def kc {m:Me}(h:yV m n=0): yq m=0/\∃(k:Nat)(x:Al),atA m n=k/\m.allocs[k]?=some x/\x.num=n/\x.live=true/\xP m n=dn m k x:=by
 rcases cK m n with⟨c,b,d⟩|⟨c,i,b,d⟩|⟨k,x,c,f,hx,hn,g⟩
 ·rw[b] at h;exact absurd h c
 ·rw[b] at h;simp at h
 ·rcases g with⟨e,b,d⟩|⟨e,b,d⟩
  ·rw[b] at h;simp at h
  ·exact⟨c,k,x,f,hx,hn,e,d⟩
def ke {m:Me}(h:yV m n=0): MeV (xP m n):=by
 obtain⟨b,k,x,f,hx,hn,hl,e⟩:=kc h;rw[e];refine(og.1 b).set hx rfl sm λc d=>?_;rw[List.eq_of_mem_replicate d];rfl
def am(h:MoV m)(v:(mEd m n).2.1=0)(A:(mEd m n).2.2=0): MoV (mEd m n).1/\yV m.mem n=0/\(mEd m n).1.mem=xP m.mem n/\(mEd m n).1.ntag=m.ntag/\(mEd m n).1.ncall=m.ncall/\(mEd m n).1.running=m.running:=by
 unfold mEd at *;by_cases e:yV m.mem n=0
 ·rw[if_neg (by simpa using e)] at *;by_cases g:xF (m.stacks.getD (atA m.mem n).toNat ⟨0,[]⟩) m.running=false
  ·rw[if_pos g] at v;simp at v
  rw[if_neg g] at *;refine⟨?_,e,rfl,rfl,rfl,rfl⟩;obtain⟨H,k,x,C,hx,hn,hl,B⟩:=kc e;obtain⟨y,F,q⟩:=h.at hx;have E:m.stacks.getD (atA m.mem n).toNat ⟨0,[]⟩=y:=by rw[C,Int.toNat_natCast,zD,F];rfl
  rw[E,B,C,Int.toNat_natCast];refine h.mk' (by rw[<-B];exact ke e) (by simp[dn]) sm (Int.le_refl _) h.nt.2 rfl rfl λj b z hb D t G I f d=>?_;simp only[dn] at f d;rcases lZ hb f with⟨rfl,rfl⟩|⟨g,rfl⟩
  ·rcases lZ D d with⟨_,rfl⟩|⟨o,rfl⟩
   ·have hs:=rI.1 q.ok;refine⟨q.num,by simp[q.len],rI.2 ⟨hs.1,by simpa using hs.2.1,by simpa using hs.2.2.1,λs c=>?_⟩,λs c i hi=>?_⟩
    ·rw[List.eq_of_mem_replicate c];decide
    ·rw[List.eq_of_mem_replicate c] at hi;simp at hi
   ·exact absurd rfl o
  ·rcases lZ D d with⟨o,rfl⟩|⟨o,rfl⟩
   ·exact absurd o g
   ·exact t
 ·rw[if_pos e] at A;exact absurd A e
def ap {m:Me}(h:MeV m): MeV (fgM m)/\fgM m=⟨m.allocs.filter Al.live,m.next⟩:=by
 have e:fgM m=⟨m.allocs.filter Al.live,m.next⟩:=by unfold fgM;rw[if_pos (og.2 h)]
 refine⟨?_,e⟩;rw[e];refine⟨?_,h.nx,h.pw.filter _,λa b=>h.al a (List.mem_filter.1 b).1⟩;have:=List.length_filter_le Al.live m.allocs
 have:=h.len
 simp only;omega
def gV {c d:Type}(p:c->Bool): ∀(l:List c)(r:List d),r.length=l.length->(l.filter p).zip (((l.zip r).filter λq=>p q.1).map (·.2))=(l.zip r).filter λq=>p q.1
 |[],[],_=>rfl
 |a::l,b::r,h=>by
  have ih:=gV p l r (by simpa using h);simp only[List.zip_cons_cons,List.filter_cons];cases p a<;>simp[ih]
def nO {c d:Type}(p:c->Bool): ∀(l:List c)(r:List d),r.length=l.length->(((l.zip r).filter λq=>p q.1).map (·.2)).length=(l.filter p).length
 |[],[],_=>rfl
 |a::l,b::r,h=>by
  have ih:=nO p l r (by simpa using h);simp only[List.zip_cons_cons,List.filter_cons];cases p a<;>simp at ih ⊢<;>exact ih
def Ph(h:MoV m): MoV (mFg m)/\(mFg m).mem=⟨m.mem.allocs.filter Al.live,m.mem.next⟩:=by
 obtain⟨d,c⟩:=ap h.me;refine⟨?_,c⟩;unfold mFg;refine⟨d,?_,h.nt,h.nc,h.rn,h.lt,λq b=>?_⟩
 ·rw[c];exact nO Al.live _ _ h.len
 ·rw[c] at b;simp only at b;rw[gV Al.live _ _ h.len] at b;exact h.st q (List.mem_filter.1 b).1
def WL {c d:Type}{l:List c}{r:List d}{a:c}{b:d}(e:l[k]?=some a)(f:r[k]?=some b): (a,b)∈l.zip r:=by
 obtain⟨k1,rfl⟩:=zS.1 e;obtain⟨g,rfl⟩:=zS.1 f;rw[List.mem_iff_getElem];exact⟨k,by simp;omega,sm⟩
def dt {e f:Type}{l:List e}{r:List f}{P:e->f->Prop}: (∀q∈l.zip r,P q.1 q.2)↔∀(k:Nat) a b,l[k]?=some a->r[k]?=some b->P a b:=by
 constructor
 ·intro h k a b c d;exact h (a,b) (WL c d)
 ·intro h q g;obtain⟨k,c,d⟩:=ZE g;exact h k _ _ c d
def du {m:Me}(h:MeV m){k i:Nat}{x a:Al}(hx:m.allocs[k]?=some x)(d:m.allocs[i]?=some a)(hi:i≠k): a.num≠x.num:=by
 obtain⟨k1,rfl⟩:=zS.1 hx;obtain⟨b,rfl⟩:=zS.1 d;rcases Nat.lt_or_ge i k with c|c
 ·have:=List.pairwise_iff_getElem.1 h.pw i k b k1 c;omega
 ·have:=List.pairwise_iff_getElem.1 h.pw k i k1 b om;omega
def TH (n:Nat)(h:n<10000000): zO 374 [.nils,iI n] 3 179 (List.replicate n [iU 0,iI 0,iI 0]) (λi b c=>.sl i b 3 0 c):=by
 by_cases d:n=0
 ·subst d;refine KO.nils ?_;refine eK [] func374 λX=>?_;go_simp;decide
 ·have hn:¬(n:Int)<0:=om;have e:IntKind.i64.wrap 0=0:=by decide
  have g:IntKind.i64.wrap ((n:Int)-0)=n:=(AM.Tf om).trans om;have hp:(0:Int)<n:=om;have f:IntKind.i64.wrap n=n:=AM.Tf om;refine eO [] func374 λX=>?_;go_simp;exact λ_=>⟨om,λb c=>⟨_,_,_,⟨rfl,rfl,rfl⟩,rfl,rfl,rfl⟩⟩
def tq (cs:List (List It))(i:Nat): List It:=(cs.take i).flatten
def XJ (cs:List (List It))(hl:cs.length<=2)(hs:∀s∈cs,s.length<1000000): zK 293 [vSk_ cs] (vIt_ cs.flatten):=by
 have d:∀i,(tq cs i).length<3000000:=λi=>by
  unfold tq;match cs,hl,hs with
  |[],_,_=>simp
  |[a],_,hs=>have:=hs a sm;cases i<;>simp<;>omega
  |[a,b],_,hs =>
   have:=hs a sm;have:=hs b sm
   match i with
   |0=>simp
   |1=>simp;omega
   |i+2=>simp;omega
 have t:∀(i:Nat)(h:i<cs.length),tq cs (i+1)=tq cs i++cs[i]:=λi h=>by
  unfold tq;rw[List.take_add_one,zE h,Option.toList_some,List.flatten_append,List.flatten_singleton]
 refine eK [] func293 λX=>?_;go_simp;refine lN [9] (λi=>[(0,vSk_ cs),(3,iI (tq cs i).length),(9,vSk_ cs),(10,iI cs.length),(11,iI i)]) (λi=>[]) (λi=>i<=cs.length) (λi=>cs.length-i) 0 ?_
 rintro i hi;have o:=d i;by_cases e:i<cs.length
 ·have q:=hs _ (zM e);have C:IntKind.i64.wrap (((tq cs i).length:Int)+cs[i].length)=((tq cs i).length:Int)+cs[i].length:=AM.Tf om;have A:¬((tq cs i).length:Int)+cs[i].length<0:=om;have f:((tq cs (i+1)).length:Int)=((tq cs i).length:Int)+cs[i].length:=by rw[t i e];simp
  go_simp;intro _;exact⟨i+1,om,om,f.symm,wrS om⟩
 ·obtain rfl:i=cs.length:=om;have z:=d cs.length;have y:=TH (tq cs cs.length).length om;go_simp;repeat'(first|(refine xu (.l 40) y ?_;intro g j;try go_simp)|with_reducible first|apply ai|intro)
  refine zf hP (B:=[]) (G:=Nat×Nat×Nat×List (List AV)) (λv=>[(6,.sl (.l 40) v.2.1 3 (tq cs v.1).length v.2.2.1),(25,vSk_ cs),(26,iI cs.length),(27,iI v.1)])
   (λv=>[(.l 40,⟨v.2.1,v.2.2.1,3,179,(tq cs v.1).map It.c++v.2.2.2,false⟩)]) (λv=>v.1<=cs.length) (λv=>cs.length-v.1) (0,g,j,List.replicate (tq cs cs.length).length [iU 0,iI 0,iI 0]) dk sm ?_ ?_ ?_
  ·go_simp;simp[tq]
  ·go_simp;simp[tq]
  ·rintro⟨i,c1,c2,E⟩ hi;simp only at hi;have o:=d i;by_cases e:i<cs.length
   ·have q:=hs _ (zM e);have f:=t i e;go_simp;refine⟨om,λb c=>⟨i+1,om,om,_,_,⟨⟨rfl,by rw[f];simp,rfl⟩,wrS om⟩,rfl,rfl,[],by rw[f];simp⟩⟩
   ·obtain rfl:i=cs.length:=om;go_simp;unfold tq;rw[List.take_length,List.map_flatten]
structure wfM (m:Mo): Prop where
 me:wfA m.mem
 sl:m.stacks.length<1000000
 st:∀x∈m.stacks,wfS x
 rn:m.running.length<1000000
def oS (n:Int): zK 290 [iI n] (.bool (sZ n)):=by
 refine eK [] func290 λX=>?_;go_simp;all_goals grind [sZ]
def TI {m:Mo}(h:moH m=false): vR m=8:=by unfold vR lW;rw[h];rfl
def Pi {m:Mo}{k:Nat}{a:Al}{x:Ss}(b:m.mem.allocs[k]?=some a)(c:m.stacks[k]?=some x)(h:moS m.ntag m.ncall a x=false): vR m=8:=by
 have:(m.mem.allocs.zip m.stacks).all (λq=>moS m.ntag m.ncall q.1 q.2)=false:=by
  rw[List.all_eq_false];exact⟨_,WL b c,by simp[h]⟩
 unfold vR lW;rw[this,Bool.and_false];rfl
def TJ {m:Mo}(h:moH m=true)(k:∀(j:Nat) a x,m.mem.allocs[j]?=some a->m.stacks[j]?=some x->moS m.ntag m.ncall a x=true): vR m=0:=by
 have:(m.mem.allocs.zip m.stacks).all (λq=>moS m.ntag m.ncall q.1 q.2)=true:=by
  rw[zA];exact dt.2 k
 unfold vR lW;rw[this,h];rfl
def RX {cs:List (List It)}(hl:cs.length<=2)(hs:∀s∈cs,s.length<1000000): cs.flatten.length<3000000:=by
 match cs,hl,hs with
 |[],_,_=>simp
 |[a],_,hs=>have:=hs a sm;simp;omega
 |[a,b],_,hs=>have:=hs a sm;have:=hs b sm;simp;omega
def wb (m:Mo)(S:wfM m): zK 184 [m.a] (iI (vR m)):=by
 have hA:=vM m.mem S.me;have hT:=oS m.ntag;have hC:=oS m.ncall;have hR:=vC m.running S.rn;have hH:moH m=(decide (yq m.mem=0)&&decide (m.stacks.length=m.mem.allocs.length)&&sZ m.ntag&&sZ m.ncall&&decide (y9 m.running=0)&&decide (xI m.running m.running.length<m.ncall)):=by
  unfold moH yq y9;cases sG m.mem<;>cases pW m.running<;>simp
 have O:=@TI m;have Q:=@TJ m;have N:=@Pi m;generalize vR m=er at *;generalize moH m=mh at *;obtain⟨⟨l,next⟩,st,rn,nt,nc⟩:=m;obtain⟨⟨hl,hs⟩,hb,h4,h9⟩:=S;simp only at *;refine eK [3056] func184 λX=>?_;go_simp;repeat'(first|((first|apply zd hA|apply zd hT|apply zd hC|apply zd hR);try go_simp)|with_reducible first|apply ai|intro)
 all_goals try(refine(O ?_).symm;rw[hH];grind)
 rename_i b e1 e2 e3 e4 e5;refine mq hP [] (B:=[]) (G:=Unit) (λ_=>[(1,.ptr (.l 1) b 6 0 0)]) (λ_=>[(.l 1,⟨b,1,6,31,[Mo.c ⟨⟨l,next⟩,st,rn,nt,nc⟩],false⟩)]) (λ_=>mh=true) dk ?_ λ_ hm=>?_
 ·rcases Nat.eq_zero_or_pos rn.length with h0|h0
  ·have hp:xI rn rn.length=0:=by unfold xI;rw[if_pos h0]
   have hr:¬(0:Int)<rn.length:=om;go_simp;refine⟨om,?_⟩;unfold xI;simp;unfold sZ at e4;simp at e4;omega
  ·have S:IntKind.i64.wrap ((rn.length:Int)-1)=((rn.length-1:Nat):Int):=(AM.Tf om).trans om;have hp:xI rn rn.length=rn[rn.length-1]:=by
    have:=uH (l:=rn) (i:=rn.length-1) om
    rwa[show rn.length-1+1=rn.length by omega] at this
   have hg:rn[rn.length-1]?=some rn[rn.length-1]:=zE _;generalize rn[rn.length-1]=z at *;have hr:(0:Int)<rn.length:=om;go_simp;exact⟨λh=>(O (by rw[hH,hp,decide_eq_false (by omega:¬z<nc),Bool.and_false])).symm,λh=>⟨om,h⟩⟩
 ·go_simp;have h5:st.length=l.length:=om;refine lN [3089] (λi=>[(1,.ptr (.l 1) b 6 0 0),(59,vAl_ l),(60,iI l.length),(61,iI i)]) (λi=>[(.l 1,⟨b,1,6,31,[Mo.c ⟨⟨l,next⟩,st,rn,nt,nc⟩],false⟩)]) (λi=>i<=l.length/\∀(j:Nat) a x,l[j]?=some a->st[j]?=some x->j<i->moS nt nc a x=true) (λi=>l.length-i) 0 ?_
  rintro i ⟨hi,Z⟩;by_cases U:i<l.length
  ·have ha:=zE U;have hx:=zE (show i<st.length by omega);have I:=h4 _ (zM (show i<st.length by omega));have q:¬tT nt nc l[i] (st[i]'om)->er=8:=λh=>N ha hx (by cases c:moS nt nc l[i] (st[i]'om) with|false=>rfl|true=>exact absurd (qk.1 c) h);have K:tT nt nc l[i] (st[i]'om)->∀(j:Nat) a x,l[j]?=some a->st[j]?=some x->j<i+1->moS nt nc a x=true:=λh j a x t A h3=>by
    rcases Nat.lt_or_ge j i with c|c
    ·exact Z j a x t A c
    ·obtain rfl:j=i:=om;rw[ha] at t;rw[hx] at A;injection t with t;injection A with A;subst t A;exact qk.2 h
   clear N Z;have hS:=pX _ I;generalize h6:l[i]=a at *;generalize h7:st[i]=x at *;go_simp;intro R b6;obtain⟨C,e,f⟩:=a;obtain⟨g,d⟩:=x;refine mq hP [] (B:=[3114]) (G:=Unit) (λ_=>[(1,.ptr (.l 1) b 6 0 0),(5,.ptr (.l 5) R 3 0 0),(6,.ptr (.l 6) b6 2 0 0),(59,vAl_ l),(60,iI l.length),(61,iI i)])
    (λ_=>[(.l 1,⟨b,1,6,31,[Mo.c ⟨⟨l,next⟩,st,rn,nt,nc⟩],false⟩),(.l 5,⟨R,1,3,170,[Al.c ⟨C,e,f⟩],false⟩),(.l 6,⟨b6,1,2,124,[Ss.c ⟨g,d⟩],false⟩)]) (λ_=>g=C/\d.length=f.length/\xU ⟨g,d⟩=0) dk ?_ λ_ V=>?_
   ·go_simp;repeat'(first|(apply zd hS;try go_simp)|with_reducible first|apply ai|intro)
    all_goals first
     |omega
     |assumption
     |exact(q λv=>by have t:=v.num;have A:=v.len;have h3:=v.ok;simp only at t A h3;grind).symm
   ·obtain⟨rfl,m2,m3⟩:=V;have J:=XJ d (gR m3).1 I.2;have h8:=RX (gR m3).1 I.2;have P:∀it∈d.flatten,¬(e=true/\it.tag<nt/\it.call<nc)->er=8:=λit T k=>q λv=>by
     obtain⟨s,F,H⟩:=List.mem_flatten.1 T;exact k (v.it s F it H)
    have E:(∀it∈d.flatten,tS nt nc e it=true)->tT nt nc ⟨g,e,f⟩ ⟨g,d⟩:=λh=>⟨rfl,m2,m3,λs F it H=>by
     have:=h it (List.mem_flatten.2 ⟨s,F,H⟩)
     unfold tS at this;simp at this;exact⟨this.1.1,this.1.2,this.2⟩⟩
    clear q;generalize d.flatten=D at *;go_simp;repeat'(first|(apply zd J;try go_simp)|with_reducible first|apply ai|intro)
    refine lN [] (λk=>[(1,.ptr (.l 1) b 6 0 0),(5,.ptr (.l 5) R 3 0 0),(59,vAl_ l),(60,iI l.length),(61,iI i),(92,vIt_ D),(93,iI D.length),(94,iI k)]) (λ_=>[(.l 1,⟨b,1,6,31,[Mo.c ⟨⟨l,next⟩,st,rn,nt,nc⟩],false⟩),(.l 5,⟨R,1,3,170,[Al.c ⟨g,e,f⟩],false⟩)]) (λk=>k<=D.length/\∀it∈D.take k,tS nt nc e it=true) (λk=>D.length-k) 0 ?_
    rintro k ⟨hk,M⟩;go_simp;refine⟨λo=>⟨_,zE o,?_⟩,λL=>?_⟩
    ·have hm:=zM o;have W:=P _ hm;have Y:tS nt nc e D[k]=true->∀it∈D.take (k+1),tS nt nc e it=true:=λh=>zr M o h;generalize D[k]=y at *;repeat'(first|with_reducible first|apply ai|intro)
     all_goals first
      |exact(W (by grind)).symm
      |exact⟨k+1,⟨om,Y (by unfold tS;simp[*])⟩,om,wrS om⟩
    ·exact⟨i+1,⟨om,K (E (zx M L))⟩,om,wrS om⟩
  ·obtain rfl:i=l.length:=om;go_simp;exact(Q hm λj a x t A=>Z j a x t A (zS.1 t).1).symm
end Go.Proofs.YtllodfoldffonaaGreatDoor
