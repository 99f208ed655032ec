/- A part of the proof. -/
import Derived.Test.YtllodfoldffonaaGreatDoorQ15
namespace Go.Proofs.YtllodfoldffonaaGreatDoor
open Tryz AM Go.RowKit
set_option linter.unusedSimpArgs false
set_option linter.unusedVariables false
set_option linter.defProp false
set_option maxRecDepth 100000
set_option maxHeartbeats 16000000
variable {P:Program}{k:AV->Hp->Prop}{kind:Int}{l:List Ce}{o:Opd}{p:Pr}{q:Po}{r:Rv}{s:Sa}{t:Ty}{to:Int}{ts:List Ty}{x:Pl}
def tyL (p:Pr)(s:Sa): List Ty:=(yu p (zn s).fn).locals
def wH (x:Pl): Int:=if x.field=2 then 1 else 0
def tv (q:Po)(n:Int): Po:=⟨q.al,q.off+n,q.tag⟩
def xB (s:Sa)(x:Pl): Po:=(zn s).locals.getD x.loc.toNat po0
def fdS (p:Pr)(s:Sa)(x:Pl): Sa×Po×Int×Int :=
 if x.deref=false then(s,tv (xB s x) (wH x),zg (zu (tyL p s) x),0) else
 if ¬(sLd s (xB s x) 1).2.2=0 then(s,po0,0,(sLd s (xB s x) 1).2.2) else
 if ¬((sLd s (xB s x) 1).2.1.getD 0 ceZ).kind=2 then(s,po0,0,8) else
 ((sLd s (xB s x) 1).1,tv ((sLd s (xB s x) 1).2.1.getD 0 ceZ).p (wH x),zg (zu (tyL p s) x),0)
def uQ (t:Ty): Int:=if t.kind<3 then 1 else 2
def um (t:Ty)(l:List Ce): Bool:=decide ((l.length:Int)=zg t)&&l.all λc=>c.kind==uQ t
def ce1 (n:Int): Ce:=⟨1,n,⟨0,0,0⟩⟩
def vlS (p:Pr)(s:Sa)(o:Opd): Sa×List Ce×Int :=
 if o.kind=1 then(s,[ce1 o.n],0) else
 if ¬(fdS p s o.pl).2.2.2=0 then(s,[],(fdS p s o.pl).2.2.2) else
 if ¬(sLd (fdS p s o.pl).1 (fdS p s o.pl).2.1 (fdS p s o.pl).2.2.1).2.2=0 then(s,[],(sLd (fdS p s o.pl).1 (fdS p s o.pl).2.1 (fdS p s o.pl).2.2.1).2.2) else
 if um (zu (tyL p s) o.pl) (sLd (fdS p s o.pl).1 (fdS p s o.pl).2.1 (fdS p s o.pl).2.2.1).2.1=false then(s,[],8) else
 if ¬o.kind=3 then((sLd (fdS p s o.pl).1 (fdS p s o.pl).2.1 (fdS p s o.pl).2.2.1).1,(sLd (fdS p s o.pl).1 (fdS p s o.pl).2.1 (fdS p s o.pl).2.2.1).2.1,0) else
 if ¬(sSt (sLd (fdS p s o.pl).1 (fdS p s o.pl).2.1 (fdS p s o.pl).2.2.1).1 (fdS p s o.pl).2.1 [ceZ]).2=0 then(s,[],(sSt (sLd (fdS p s o.pl).1 (fdS p s o.pl).2.1 (fdS p s o.pl).2.2.1).1 (fdS p s o.pl).2.1 [ceZ]).2) else
 ((sSt (sLd (fdS p s o.pl).1 (fdS p s o.pl).2.1 (fdS p s o.pl).2.2.1).1 (fdS p s o.pl).2.1 [ceZ]).1,(sLd (fdS p s o.pl).1 (fdS p s o.pl).2.1 (fdS p s o.pl).2.2.1).2.1,0)
def uv(h:SaV p s): SaV p (fdS p s x).1:=by
 unfold fdS;split
 ·exact h
 split
 ·exact h
 split
 ·exact h
 ·exact fy h
def p7(h:WhV s): WhV (fdS p s x).1:=by
 unfold fdS;split
 ·exact h
 split
 ·exact h
 split
 ·exact h
 ·exact qn h
def Iz: ceT p s t ceZ=true:=rfl
def qp(h:SaV p s): SaV p (vlS p s o).1:=by
 unfold vlS;split
 ·exact h
 split
 ·exact h
 split
 ·exact h
 split
 ·exact h
 split
 ·exact fy (uv h)
 split
 ·exact h
 ·refine Iw (fy (uv h)) λx _ k lo t _ _ _ c a=>?_;rw[zX] at a;subst a;exact Iz
structure yB (s s':Sa): Prop where
 pl:s'.plain=s.plain
 fr:s'.frames=s.frames
 pr:s'.prints=s.prints
 re:s'.result=s.result
def yB.rfl': yB s s:=⟨rfl,rfl,rfl,rfl⟩
def yB.tr {s t u:Sa}(h:yB s t)(k:yB t u): yB s u:=⟨k.pl.trans h.pl,k.fr.trans h.fr,k.pr.trans h.pr,k.re.trans h.re⟩
def sy {s:Sa}{q:Po}{n:Int}: yB s (sLd s q n).1:=by unfold sLd;split<;>exact⟨rfl,rfl,rfl,rfl⟩
def oW {s:Sa}{q:Po}{l:List Ce}: yB s (sSt s q l).1:=by unfold sSt;split<;>exact⟨rfl,rfl,rfl,rfl⟩
def jz {s:Sa}{q:Po}{n kind call:Int}: yB s (sRt s q n kind call).1:=by unfold sRt;split<;>exact⟨rfl,rfl,rfl,rfl⟩
def vA {p:Pr}{s:Sa}{x:Pl}: yB s (fdS p s x).1:=by
 unfold fdS;split
 ·exact .rfl'
 split
 ·exact .rfl'
 split
 ·exact .rfl'
 ·exact sy
def wm {p:Pr}{s:Sa}{o:Opd}: yB s (vlS p s o).1:=by
 unfold vlS;split
 ·exact .rfl'
 split
 ·exact .rfl'
 split
 ·exact .rfl'
 split
 ·exact .rfl'
 split
 ·exact vA.tr sy
 split
 ·exact .rfl'
 ·exact(vA.tr sy).tr oW
def f9 {s s':Sa}(h:yB s s'): zn s'=zn s:=by unfold zn;rw[h.fr]
def wn{s s':Sa}(h:yB s s'): tyL p s'=tyL p s:=by unfold tyL;rw[f9 h]
def vd(h:s.frames≠[]): zn s∈s.frames:=by
 have:=nU h
 rw[this];simp
def uD(h:WhV s){n:Int}(v:(sLd s q n).2.2=0): ∃k x,LdF s.mon.mem q n k x/\(sLd s q n).2.1=(x.cells.drop q.off.toNat).take n.toNat/\(∀c∈(sLd s q n).2.1,c∈x.cells/\c.kind≠0/\xg c=true)/\((sLd s q n).2.1.length:Int)=n:=by
 unfold sLd at *;by_cases e:yw (gLd s q n).2.2.1 (gLd s q n).2.2.2=0
 ·rw[if_pos e] at *;obtain⟨y,z⟩:=yX.1 e;obtain⟨_,_,_,_,_,j,g,m⟩:=jy h y z;have u:fdL s.mon.mem q n≠[]:=λc=>by unfold ldW at g;rw[if_neg (by simpa using j),if_pos c] at g;simp at g
  obtain⟨k,x,f⟩:=i5 j u;have A:(fdL s.mon.mem q n).any (eqC ceZ)=false:=by
   unfold ldW at g;rw[if_neg (by simpa using j),if_neg u] at g;cases c:(fdL s.mon.mem q n).any (eqC ceZ) with
   |false=>rfl
   |true=>rw[c] at g;simp at g
  refine⟨k,x,f,by rw[m];exact f.eq,λc B=>?_,?_⟩
  ·have i:c∈fdL s.mon.mem q n:=by rw[<-m];exact B
   have hx:c∈x.cells:=by rw[f.eq] at i;exact List.mem_of_mem_drop (List.mem_of_mem_take i)
   have hi:=(h.me.al x (zF f.hx)).ce c hx;unfold uI at hi;rw[zB] at hi;refine⟨hx,λw=>?_,hi.1⟩;have C:c=ceZ:=by
    have:=hi.1
    unfold xg poZ at this;obtain⟨D,E,⟨a,b,d⟩⟩:=c;simp only at w;subst w;simp at this;obtain⟨rfl,⟨rfl,rfl⟩,rfl⟩:=this;rfl
   have:=zI.1 A c i
   rw[C] at this;simp[eqC] at this
  ·rw[m,f.eq];have:=f.lo;have:=f.hi;have:=f.n1
   simp;omega
 ·rw[if_neg e] at v;exact absurd v e
def TZ:∀(fs:List Fm),(fs.flatMap λx=>x.locals.map Po.al).Nodup->∀x∈fs,∀b∈fs,∀(k k':Nat)(l l':Po),x.locals[k]?=some l->b.locals[k']?=some l'->l.al=l'.al->x=b/\k=k'
 |[],_,x,hx,_,_,_,_,_,_,_,_,_=>by simp at hx
 |y::fs,h,x,hx,b,hx',k,k',l,l',hl,hl',e=>by
  rw[List.flatMap_cons,List.nodup_append] at h;obtain⟨v,w,m⟩:=h;have n:∀z∈fs,∀(j:Nat) q,z.locals[j]?=some q->q.al∈fs.flatMap λx=>x.locals.map Po.al:=λz A j q d=>List.mem_flatMap.2 ⟨z,A,List.mem_map.2 ⟨q,zF d,rfl⟩⟩;have u:∀(j:Nat) q,y.locals[j]?=some q->q.al∈y.locals.map Po.al:=λj q d=>List.mem_map.2 ⟨q,zF d,rfl⟩;rcases List.mem_cons.1 hx with rfl|i<;>rcases List.mem_cons.1 hx' with rfl|a
  ·refine⟨rfl,?_⟩;have p:=List.pairwise_iff_getElem.1 v;obtain⟨f,rfl⟩:=zS.1 hl;obtain⟨g,rfl⟩:=zS.1 hl';rcases Nat.lt_trichotomy k k' with c|c|c
   ·exact absurd (by rw[zR,zR];exact e) (p k k' (by simpa using f) (by simpa using g) c)
   ·exact c
   ·exact absurd (by rw[zR,zR];exact e.symm) (p k' k (by simpa using g) (by simpa using f) c)
  ·exact absurd e (m _ (u k l hl) _ (n b a k' l' hl'))
  ·exact absurd e.symm (m _ (u k' l' hl') _ (n x i k l hl))
  ·exact TZ fs w x i b a k k' l l' hl hl' e
def SaV.uniq(h:SaV p s){x a:Fm}{k k':Nat}{l l':Po}(hx:x∈s.frames)(c:a∈s.frames)(hl:x.locals[k]?=some l)(b:a.locals[k']?=some l')(e:l.al=l'.al): x=a/\k=k' :=
 TZ s.frames h.nod x hx a c k k' l l' hl b e
def kp {p:Pr}{q:Po}{to:Int}: ∀ {fs:List Fm},wW p q to fs=true->(∃x∈fs,q.al∈x.locals.map Po.al)->∃y∈fs,∃(j:Nat)(l:Po),y.locals[j]?=some l/\l.al=q.al/\sI ((yu p y.fn).locals.getD j ⟨0,0⟩).kind to q.off=true
 |[],_,⟨x,hx,_⟩=>by simp at hx
 |y::fs,h,⟨x,hx,hm⟩=>by
  unfold wW at h;by_cases c:idx (xy q.al) y.locals<0
  ·rw[if_pos c] at h;rcases List.mem_cons.1 hx with rfl|hx
   ·exfalso;obtain⟨l,hl,e⟩:=List.mem_map.1 hm;have:x.locals.any (xy q.al)=true:=List.any_eq_true.2 ⟨l,hl,by simp[xy,e]⟩
    have b:=@vZ _ (xy q.al) x.locals;rw[this] at b;simp at b;omega
   ·obtain⟨z,f,r⟩:=kp h ⟨x,hx,hm⟩;exact⟨z,List.mem_cons_of_mem _ f,r⟩
  ·rw[if_neg c] at h;obtain⟨j,d,a,hp,_⟩:=q9 (by omega:0<=idx (xy q.al) y.locals)
   rw[d,Int.toNat_natCast] at h;exact⟨y,List.mem_cons_self,j,_,zE a,by simpa[xy] using hp,h⟩
def Qr {k to off:Int}(h:sI k to off=true)(a:to=1\/to=2): k=1\/k=2:=by
 unfold sI at h;simp only[Bool.or_eq_true,zB,beq_iff_eq,zL] at h;omega
def Nw{n:Int}(h:n∈wD s): ∃x∈s.frames,n∈x.locals.map Po.al:=by
 unfold wD at h;exact List.mem_flatMap.1 h
def Qs(h:SaV p s)(g:to=1\/to=2)(b:we p s q to=true){x:Fm}(hx:x∈s.frames){k:Nat}{l:Po}(hl:x.locals[k]?=some l)(c:(yu p x.fn).locals[k]?=some t)(e:l.al=q.al): t.kind=1\/t.kind=2:=by
 unfold we at b;rw[zB] at b;obtain⟨y,i,j,l',a,f,d⟩:=kp b.2 ⟨x,hx,List.mem_map.2 ⟨l,zF hl,e⟩⟩;obtain⟨rfl,rfl⟩:=h.uniq hx i hl a (by rw[e,f]);rw[zD,c,zH] at d;exact Qr d g
def kq(h:SaV p s)(j:s.frames≠[])(f:zZ (tyL p s) x=0): ∃(k:Nat)(l:Po) (t:Ty),x.loc=k/\(zn s).locals[k]?=some l/\(yu p (zn s).fn).locals[k]?=some t/\xB s x=l/\vc (tyL p s) x=t/\yE t=true/\(xV t x).isSome=true/\zu (tyL p s) x=(xV t x).getD ⟨0,0⟩:=by
 unfold zZ at f;have d:yD (tyL p s) x=0:=zC λc=>by rw[if_neg c] at f;exact c f
 rw[if_pos d] at f;have i:=d;unfold yD at d;split at d
 ·rename_i e;split at d
  ·rename_i hp;split at d
   ·simp at d
   ·rename_i m;have n:0<=x.loc:=by unfold xT at hp;split at hp<;>simp at hp;omega
    obtain⟨k,g⟩:∃k:Nat,x.loc=k:=⟨x.loc.toNat,om⟩
    have a:k<(tyL p s).length:=om;have b:k<(zn s).locals.length:=by rw[(h.fm _ (vd j)).len];exact a
    refine⟨k,(zn s).locals[k],(tyL p s)[k],g,zE b,zE a,?_,?_,?_,?_,?_⟩
    ·unfold xB;rw[g,Int.toNat_natCast,zD,zE b];rfl
    ·unfold vc;rw[g,Int.toNat_natCast,zD,zE a];rfl
    ·unfold xK at e;simp only[zB,zA] at e;exact e.2 _ (zM a)
    ·have:vc (tyL p s) x=(tyL p s)[k]:=by unfold vc;rw[g,Int.toNat_natCast,zD,zE a];rfl
     rw[this] at f;cases c:xV (tyL p s)[k] x with
     |none=>rw[c] at f;simp at f
     |some y=>rfl
    ·unfold zu;rw[if_pos i];have:vc (tyL p s) x=(tyL p s)[k]:=by unfold vc;rw[g,Int.toNat_natCast,zD,zE a];rfl
     rw[this]
  ·simp at d
 ·simp at d
def n6(e:yE t=true)(h:(xV t x).isSome=true): (x.deref=false/\x.field=0/\xV t x=some t)\/(x.deref=false/\x.field≠0/\t.kind=2/\xV t x=some ⟨1,0⟩) \/
  (x.deref=true/\3<=t.kind/\(t.to=1\/t.to=2)/\x.field=0/\xV t x=some ⟨t.to,0⟩)\/(x.deref=true/\3<=t.kind/\t.to=2/\x.field≠0/\xV t x=some ⟨1,0⟩):=by
 obtain⟨loc,d,f⟩:=x;obtain⟨k,to⟩:=t;unfold xV drf at *;unfold yE at e;simp only at *;cases d with
 |false =>
  simp only[Bool.false_eq_true,if_false,Option.bind_some] at *;by_cases a:f=0
  ·simp[a]
  ·simp only[if_neg a] at *;by_cases b:k=2
   ·simp[b,a]
   ·simp[b] at h
 |true =>
  simp only[if_true] at *;by_cases c:3<=k
  ·simp only[if_pos c,Option.bind_some] at *;simp at e;by_cases a:f=0
   ·simp[a,c];omega
   ·simp only[if_neg a] at *;by_cases b:to=2
    ·simp[b,a,c]
    ·simp[b] at h
  ·simp[c] at h
structure FdF (p:Pr)(s:Sa)(x:Pl): Prop where
 sz:(fdS p s x).2.2.1=zg (zu (tyL p s) x)
 mem:(fdS p s x).1.mon.mem=s.mon.mem
 ntag:(fdS p s x).1.mon.ntag=s.mon.ntag
 /-- the types of the locals that lie there -/
 at_:∀y∈s.frames,∀(k:Nat) l t,y.locals[k]?=some l->(yu p y.fn).locals[k]?=some t->l.al=(fdS p s x).2.1.al->(t=zu (tyL p s) x)\/((t.kind=1\/t.kind=2)/\((zu (tyL p s) x).kind=1\/(zu (tyL p s) x).kind=2))
def rj(h:SaV p s)(C:s.frames≠[])(R:zZ (tyL p s) x=0)(z:(fdS p s x).2.2.2=0): FdF p s x:=by
 obtain⟨k,l,t,U,hl,A,w,_,H,G,b⟩:=kq h C R;have m:=vd C;rcases n6 H G with⟨d,f,e⟩|⟨d,f,g,e⟩|⟨d,g,N,f,e⟩|⟨d,g,N,f,e⟩
 ·rw[e] at b;simp only[zH] at b;have i:fdS p s x=(s,tv (xB s x) (wH x),zg (zu (tyL p s) x),0):=by unfold fdS;rw[if_pos d]
  refine⟨by rw[i],by rw[i],by rw[i],λy E k' l' J j a u=>?_⟩;rw[i,w] at u;obtain⟨rfl,rfl⟩:=h.uniq E m j hl u;rw[A] at a;injection a with a;exact Or.inl (by rw[b,a])
 ·rw[e] at b;simp only[zH] at b;have i:fdS p s x=(s,tv (xB s x) (wH x),zg (zu (tyL p s) x),0):=by unfold fdS;rw[if_pos d]
  refine⟨by rw[i],by rw[i],by rw[i],λy E k' l' J j a u=>?_⟩;rw[i,w] at u;obtain⟨rfl,rfl⟩:=h.uniq E m j hl u;rw[A] at a;injection a with a;exact Or.inr ⟨Or.inr (by rw[<-a];exact g),Or.inl (by rw[b])⟩
 all_goals
  rw[e] at b;simp only[zH] at b;have D:t.to=1\/t.to=2:=om;unfold fdS at z;rw[if_neg (by rw[d];simp)] at z;have F:(sLd s (xB s x) 1).2.2=0:=zC λc=>by rw[if_pos c] at z;exact c z
  rw[if_neg (by simpa using F)] at z;have L:((sLd s (xB s x) 1).2.1.getD 0 ceZ).kind=2:=zC λc=>by rw[if_pos c] at z;simp at z
  have i:fdS p s x=((sLd s (xB s x) 1).1,tv ((sLd s (xB s x) 1).2.1.getD 0 ceZ).p (wH x),zg (zu (tyL p s) x),0):=by
   unfold fdS;rw[if_neg (by rw[d];simp),if_neg (by simpa using F),if_neg (by simpa using L)]
  obtain⟨K,X,I,_,M,f4⟩:=uD h.wh F;obtain⟨S,T,_⟩:=pz h.wh (q:=xB s x) (n:=1);have Q:(sLd s (xB s x) 1).2.1.getD 0 ceZ∈(sLd s (xB s x) 1).2.1:=by
   rw[zD,zE om,zH];exact zM _
  generalize (sLd s (xB s x) 1).2.1.getD 0 ceZ=c at *;have O:yZ s.mon.mem l.al=X:=by have:=I.at_;rw[w] at this;exact wX this I.hx
  have v:=h.typ _ m k l t hl A c (by rw[O];exact(M c Q).1);have B:we p s c.p t.to=true:=by
   unfold ceT at v;simp only[Bool.or_eq_true,zB,beq_iff_eq,zL] at v;rcases v with v|⟨_,v|v⟩
   ·omega
   ·omega
   ·exact v
  refine⟨by rw[i],by rw[i];exact S,by rw[i];exact T,λy E k' l' J j a u=>?_⟩;rw[i] at u;refine Or.inr ⟨Qs h D B E j a u,?_⟩;rw[b];first|exact D|exact Or.inl rfl
def SaV.own(h:SaV p s){a:Al}(d:a∈s.mon.mem.allocs): ∃y∈s.frames,∃(k:Nat)(l:Po) (t:Ty),y.locals[k]?=some l/\(yu p y.fn).locals[k]?=some t/\l.al=a.num:=by
 obtain⟨y,c,hm⟩:=Nw (h.cov a d);obtain⟨l,hl,e⟩:=List.mem_map.1 hm;obtain⟨k,b,rfl⟩:=List.getElem_of_mem hl;exact⟨y,c,k,_,_,zE b,zE (by rw[<-(h.fm y c).len];exact b),e⟩
def EE(h:SaV p s)(d:s.frames≠[])(B:zZ (tyL p s) x=0)(A:(fdS p s x).2.2.2=0)(hl:(sLd (fdS p s x).1 (fdS p s x).2.1 (fdS p s x).2.2.1).2.2=0): um (zu (tyL p s) x) (sLd (fdS p s x).1 (fdS p s x).2.1 (fdS p s x).2.2.1).2.1=true:=by
 have F:=rj h d B A;obtain⟨K,X,b,_,u,f4⟩:=uD (p7 h.wh) hl;unfold um;rw[zB,zL,zA];refine⟨by rw[f4,F.sz],λc z=>?_⟩;obtain⟨c1,c2,e⟩:=u c z;have hx:=b.hx;have f:=b.at_;rw[F.mem] at hx f;obtain⟨y,i,k,l,t,j,m,C⟩:=h.own (zF hx);have n:l.al=(fdS p s x).2.1.al:=by rw[C,b.num]
 have w:yZ s.mon.mem l.al=X:=by rw[n];exact wX f hx
 have a:=h.typ y i k l t j m c (by rw[w];exact c1);have G:c.kind=1\/c.kind=2:=by
  unfold xg at e;simp only[Bool.or_eq_true,zB,beq_iff_eq] at e;omega
 have v:(3<=t.kind↔c.kind=2):=by
  unfold ceT at a;simp only[Bool.or_eq_true,zB,beq_iff_eq] at a;rcases a with a|⟨a,_⟩
  ·exact absurd a c2
  ·constructor
   ·intro g;rw[decide_eq_true g] at a;exact beq_iff_eq.1 a.symm
   ·intro g;have:(c.kind==2)=true:=beq_iff_eq.2 g
    rw[this] at a;exact of_decide_eq_true a
 unfold uQ;rw[beq_iff_eq];rcases F.at_ y i k l t j m n with g|⟨D,E⟩
 ·rw[<-g];split<;>omega
 ·split<;>omega
def xh (p:Pr)(s:Sa)(t:Ty)(l:List Ce): Bool:=um t l&&l.all λc=>xg c&&(decide (t.kind<3)||we p s c.p t.to)
def nV {p:Pr}{q:Po}{to:Int}: ∀ {fs:List Fm},(∀y∈fs,∀(j:Nat) l,y.locals[j]?=some l->l.al=q.al->sI ((yu p y.fn).locals.getD j ⟨0,0⟩).kind to q.off=true)->wW p q to fs=true
 |[],_=>rfl
 |y::fs,h=>by
  unfold wW;by_cases c:idx (xy q.al) y.locals<0
  ·rw[if_pos c];exact nV λz d=>h z (List.mem_cons_of_mem _ d)
  ·rw[if_neg c];obtain⟨j,b,a,hp,_⟩:=q9 (by omega:0<=idx (xy q.al) y.locals)
   rw[b,Int.toNat_natCast];exact h y List.mem_cons_self j _ (zE a) (by simpa[xy] using hp)
def Sb(h:SaV p s)(d:wW p q to s.frames=true){x:Fm}(hx:x∈s.frames){k:Nat}{l:Po}(hl:x.locals[k]?=some l)(e:l.al=q.al): sI ((yu p x.fn).locals.getD k ⟨0,0⟩).kind to q.off=true:=by
 obtain⟨y,f,j,l',a,b,c⟩:=kp d ⟨x,hx,List.mem_map.2 ⟨l,zF hl,e⟩⟩;obtain⟨rfl,rfl⟩:=h.uniq hx f hl a (by rw[e,b]);exact c
def Lm(h:SaV p s)(E:s.frames≠[])(U:zZ (tyL p s) x=0)(v:(fdS p s x).2.2.2=0): wW p (fdS p s x).2.1 (zu (tyL p s) x).kind s.frames=true:=by
 obtain⟨k,l,t,Y,hl,B,A,_,J,I,i⟩:=kq h E U;have m:=vd E;have w:l.off=0:=by obtain⟨a,S⟩:=(h.fm _ m).loc k l t hl B;exact S.off
 have M:((yu p (zn s).fn).locals.getD k ⟨0,0⟩)=t:=by rw[zD,B];rfl
 rcases n6 J I with⟨d,f,e⟩|⟨d,f,g,e⟩|⟨d,g,Q,f,e⟩|⟨d,g,Q,f,e⟩
 ·rw[e] at i;simp only[zH] at i;have C:fdS p s x=(s,tv (xB s x) (wH x),zg (zu (tyL p s) x),0):=by unfold fdS;rw[if_pos d]
  rw[C,A];refine nV λy F j l' u D=>?_;obtain⟨rfl,rfl⟩:=h.uniq F m u hl D;rw[M,i];unfold sI tv wH;rw[w,f];simp
 ·rw[e] at i;simp only[zH] at i;have C:fdS p s x=(s,tv (xB s x) (wH x),zg (zu (tyL p s) x),0):=by unfold fdS;rw[if_pos d]
  rw[C,A];refine nV λy F j l' u D=>?_;obtain⟨rfl,rfl⟩:=h.uniq F m u hl D;rw[M,i];unfold sI tv wH;rw[w,g];simp;split<;>omega
 all_goals
  rw[e] at i;simp only[zH] at i;have V:t.to=1\/t.to=2:=om;unfold fdS at v;rw[if_neg (by rw[d];simp)] at v;have G:(sLd s (xB s x) 1).2.2=0:=zC λc=>by rw[if_pos c] at v;exact c v
  rw[if_neg (by simpa using G)] at v;have N:((sLd s (xB s x) 1).2.1.getD 0 ceZ).kind=2:=zC λc=>by rw[if_pos c] at v;simp at v
  have C:fdS p s x=((sLd s (xB s x) 1).1,tv ((sLd s (xB s x) 1).2.1.getD 0 ceZ).p (wH x),zg (zu (tyL p s) x),0):=by
   unfold fdS;rw[if_neg (by rw[d];simp),if_neg (by simpa using G),if_neg (by simpa using N)]
  obtain⟨K,X,L,_,O,f4⟩:=uD h.wh G;have T:(sLd s (xB s x) 1).2.1.getD 0 ceZ∈(sLd s (xB s x) 1).2.1:=by
   rw[zD,zE om,zH];exact zM _
  generalize (sLd s (xB s x) 1).2.1.getD 0 ceZ=c at *;have R:yZ s.mon.mem l.al=X:=by have:=L.at_;rw[A] at this;exact wX this L.hx
  have z:=h.typ _ m k l t hl B c (by rw[R];exact(O c T).1);have n:we p s c.p t.to=true:=by
   unfold ceT at z;simp only[Bool.or_eq_true,zB,beq_iff_eq,zL] at z;rcases z with z|⟨_,z|z⟩
   ·omega
   ·omega
   ·exact z
  unfold we at n;rw[zB] at n;rw[C];refine nV λy F j l' u D=>?_;have H:=Sb h n.2 F u D;rw[i];unfold sI tv wH at *;simp only[Bool.or_eq_true,zB,beq_iff_eq,zL] at H ⊢;generalize ((yu p y.fn).locals.getD j ⟨0,0⟩).kind=W at H ⊢;clear C v;rcases H with⟨a,b⟩|⟨⟨a,b⟩,d⟩;all_goals split
  all_goals first
   |omega
   |exact Or.inl ⟨a,om⟩
   |exact Or.inr ⟨⟨om,om⟩,om⟩
   |exact Or.inr ⟨⟨trivial,om⟩,om⟩
def Ln(h:WhV s){t:Int}(a:x5 s t=true): inT t=true:=by
 unfold x5 at a;unfold inT;rw[zL];cases hp:s.plain with
 |true=>rw[hp] at a;simp at a;omega
 |false=>rw[hp] at a;simp at a;have:=(h.mo hp).nt;omega
def brS (p:Pr)(s:Sa)(x:Pl)(kind:Int): Sa×List Ce×Int :=
 if ¬(fdS p s x).2.2.2=0 then(s,[],(fdS p s x).2.2.2) else
 if ¬(sRt (fdS p s x).1 (fdS p s x).2.1 (fdS p s x).2.2.1 kind 0).2.2=0 then(s,[],(sRt (fdS p s x).1 (fdS p s x).2.1 (fdS p s x).2.2.1 kind 0).2.2) else
 ((sRt (fdS p s x).1 (fdS p s x).2.1 (fdS p s x).2.2.1 kind 0).1,[⟨2,0,(sRt (fdS p s x).1 (fdS p s x).2.1 (fdS p s x).2.2.1 kind 0).2.1⟩],0)
def Pn(h:SaV p s): SaV p (brS p s x kind).1:=by
 unfold brS;split
 ·exact h
 split
 ·exact h
 ·exact Ix (uv h)
def Pp: yB s (brS p s x kind).1:=by
 unfold brS;split
 ·exact .rfl'
 split
 ·exact .rfl'
 ·exact vA.tr jz
def Sd(h:SaV p s)(u:s.frames≠[])(J:zZ (tyL p s) x=0)(v:(brS p s x kind).2.2=0){k:Int}(hk:3<=k): xh p (brS p s x kind).1 ⟨k,(zu (tyL p s) x).kind⟩ (brS p s x kind).2.1=true:=by
 unfold brS at *;have C:(fdS p s x).2.2.2=0:=zC λc=>by rw[if_pos c] at v;exact c v
 rw[if_neg (by simpa using C)] at v ⊢;have z:(sRt (fdS p s x).1 (fdS p s x).2.1 (fdS p s x).2.2.1 kind 0).2.2=0:=zC λc=>by rw[if_pos c] at v;exact c v
 rw[if_neg (by simpa using z)];have F:=rj h u J C;have S:=@vA p s x;have A:=Lm h u J C;have E:=p7 h.wh (p:=p) (x:=x);generalize hf:fdS p s x=f at *;obtain⟨i,q,n,o⟩:=f;simp only at *;unfold sRt at z ⊢;have G:yw (gRt i q n kind 0).2.2.1 (gRt i q n kind 0).2.2.2=0:=zC λc=>by rw[if_neg c] at z;exact c z
 rw[if_pos G];obtain⟨L,M⟩:=yX.1 G;obtain⟨a,b,c,d,_,B,H,I,O,Q⟩:=f6 E L M;obtain⟨K,X,g⟩:=i5 O Q;have e:=E.me.al X (zF g.hx);have T:=E.me.nx;have R:=g.num;have m:we p (yh i (gRt i q n kind 0).1) (gRt i q n kind 0).2.1 (zu (tyL p s) x).kind=true:=by
  unfold we;simp only[zB,zL];refine⟨⟨I,?_,?_⟩,?_⟩
  ·rw[B,<-g.num];exact e.lo
  ·show _<(gRt i q n kind 0).1.mem.next;rw[B,b,<-g.num];exact e.hi
  ·show wW p _ _ i.frames=true;rw[S.fr];refine nV λy U j l hl N=>?_;have:=Sb h A U hl (by rw[N,B])
   rw[H];exact this
 have D:=Ln a I;unfold xh um;simp only[List.all_cons,List.all_nil,Bool.and_true,zB,zL,Bool.or_eq_true,beq_iff_eq,List.length_singleton];refine⟨⟨?_,?_⟩,?_,Or.inr m⟩
 ·unfold zg;rw[if_neg (by simp only;omega)];rfl
 ·unfold uQ;rw[if_neg (by simp only;omega)]
 ·unfold xg;have V:=e.lo;have W:=e.hi;have Y:=g.lo;have Z:=g.hi;have h5:=g.n1;have h6:=e.c2;have w:inT q.al=true:=by unfold inT;rw[zL];omega
  simp only[D,w,Bool.or_eq_true,zB,beq_iff_eq,zL,B,H];exact Or.inr ⟨⟨⟨⟨trivial,trivial⟩,trivial⟩,trivial⟩,om⟩
def Pq(h:WhV s): (sSt s q l).1.mon.mem.next=s.mon.mem.next/\(sSt s q l).1.mon.ntag=s.mon.ntag/\(sSt s q l).1.mon.running=s.mon.running:=by
 unfold sSt;by_cases e:yw (gSt s q l).2.1 (gSt s q l).2.2=0
 ·rw[if_pos e];obtain⟨f,g⟩:=yX.1 e;obtain⟨a,b,c,d,_,i,j⟩:=mQ h f g;refine⟨?_,c,d⟩;show(gSt s q l).1.mem.next=_;rw[b];exact(iH i j).nx
 ·rw[if_neg e];exact⟨rfl,rfl,rfl⟩
def Nx{s s':Sa}(a:yB s s')(hn:s.mon.ntag<=s'.mon.ntag)(hx:s'.mon.mem.next=s.mon.mem.next)(h:we p s q to=true): we p s' q to=true :=
 cV a.pl hn (by rw[hx];exact Int.le_refl _) a.fr h
def dD{s s':Sa}(b:yB s s')(hn:s.mon.ntag<=s'.mon.ntag)(hx:s'.mon.mem.next=s.mon.mem.next)(h:xh p s t l=true): xh p s' t l=true:=by
 unfold xh at *;simp only[zB,zA,Bool.or_eq_true] at *;refine⟨h.1,λc a=>⟨(h.2 c a).1,?_⟩⟩;rcases(h.2 c a).2 with g|g
 ·exact Or.inl g
 ·exact Or.inr (Nx b hn hx g)
def Se(h:SaV p s)(b:s.frames≠[])(i:zZ (tyL p s) x=0)(f:(fdS p s x).2.2.2=0)(hl:(sLd (fdS p s x).1 (fdS p s x).2.1 (fdS p s x).2.2.1).2.2=0): xh p s (zu (tyL p s) x) (sLd (fdS p s x).1 (fdS p s x).2.1 (fdS p s x).2.2.1).2.1=true:=by
 have K:=EE h b i f hl;have F:=rj h b i f;obtain⟨E,X,d,_,w,f4⟩:=uD (p7 h.wh) hl;unfold xh;rw[zB,zA];refine⟨K,λc A=>?_⟩;obtain⟨c1,c2,v⟩:=w c A;have hx:=d.hx;have e:=d.at_;rw[F.mem] at hx e;obtain⟨y,j,k,l,t,m,n,B⟩:=h.own (zF hx);have u:l.al=(fdS p s x).2.1.al:=by rw[B,d.num]
 have z:yZ s.mon.mem l.al=X:=by rw[u];exact wX e hx
 have a:=h.typ y j k l t m n c (by rw[z];exact c1);rw[zB,Bool.or_eq_true];refine⟨v,?_⟩;unfold ceT at a;simp only[Bool.or_eq_true,zB,beq_iff_eq] at a;rcases F.at_ y j k l t m n u with g|⟨C,D⟩
 ·rw[<-g];rcases a with a|⟨_,a⟩
  ·exact absurd a c2
  ·exact a
 ·exact Or.inl (decide_eq_true om)
def ou(h:opE ts o=0): (o.kind=1/\opT ts o=⟨1,0⟩)\/(o.kind≠1/\zZ ts o.pl=0/\opT ts o=zu ts o.pl/\(o.kind=3↔(zu ts o.pl).kind=4)):=by
 have a:=h;unfold opE at h;by_cases c:o.kind=1
 ·exact Or.inl ⟨c,by unfold opT;rw[if_pos c]⟩
 ·rw[if_neg c] at h;have c1:zZ ts o.pl=0:=zC λd=>by rw[if_pos d] at h;exact d h
  rw[if_neg (by simpa using c1)] at h;have c2:(o.kind=3↔(zu ts o.pl).kind=4):=zC λd=>by rw[if_neg d] at h;simp at h
  exact Or.inr ⟨c,c1,by unfold opT;rw[if_neg c,if_pos a],c2⟩
def nW(h:SaV p s)(b:s.frames≠[])(B:opE (tyL p s) o=0)(a:(vlS p s o).2.2=0): xh p (vlS p s o).1 (opT (tyL p s) o) (vlS p s o).2.1=true:=by
 rcases ou B with⟨c,e⟩|⟨c,c1,e,c2⟩
 ·have A:vlS p s o=(s,[ce1 o.n],0):=by unfold vlS;rw[if_pos c]
  rw[A,e];unfold xh um xg uQ ce1 poZ zg;simp
 ·rw[e];unfold vlS at *;rw[if_neg c] at a ⊢;have i:(fdS p s o.pl).2.2.2=0:=zC λd=>by rw[if_pos d] at a;exact d a
  rw[if_neg (by simpa using i)] at a ⊢;have j:(sLd (fdS p s o.pl).1 (fdS p s o.pl).2.1 (fdS p s o.pl).2.2.1).2.2=0:=zC λd=>by rw[if_pos d] at a;exact d a
  rw[if_neg (by simpa using j)] at a ⊢;have y:=EE h b c1 i j;rw[if_neg (by rw[y];simp)] at a ⊢;have F:=rj h b c1 i;have v:=p7 h.wh (p:=p) (x:=o.pl);obtain⟨C,D,G⟩:=pz v (q:=(fdS p s o.pl).2.1) (n:=(fdS p s o.pl).2.2.1);have m:=Se h b c1 i j;have u:yB s (sLd (fdS p s o.pl).1 (fdS p s o.pl).2.1 (fdS p s o.pl).2.2.1).1:=vA.tr sy;have f:s.mon.ntag<=(sLd (fdS p s o.pl).1 (fdS p s o.pl).2.1 (fdS p s o.pl).2.2.1).1.mon.ntag:=by rw[D,F.ntag];exact Int.le_refl _
  have g:(sLd (fdS p s o.pl).1 (fdS p s o.pl).2.1 (fdS p s o.pl).2.2.1).1.mon.mem.next=s.mon.mem.next:=by rw[C,F.mem]
  by_cases w:o.kind=3
  ·rw[if_neg (by simpa using w)] at a ⊢;have z:(sSt (sLd (fdS p s o.pl).1 (fdS p s o.pl).2.1 (fdS p s o.pl).2.2.1).1 (fdS p s o.pl).2.1 [ceZ]).2=0:=zC λd=>by rw[if_pos d] at a;exact d a
   rw[if_neg (by simpa using z)];obtain⟨n1,E,H⟩:=Pq (qn v (q:=(fdS p s o.pl).2.1) (n:=(fdS p s o.pl).2.2.1)) (q:=(fdS p s o.pl).2.1) (l:=[ceZ]);exact dD (u.tr oW) (by rw[E];exact f) (by rw[n1];exact g) m
  ·rw[if_pos w];exact dD u f g m
def dE (n:Int): Int:=(n+9223372036854775808)%18446744073709551616-9223372036854775808
def doV (op a b:Int): Int×Int :=
 if op=1 then(dE (a+b),0) else if op=2 then(dE (a-b),0) else if op=3 then(dE (a*b),0) else
 if op=4 then(if b=0 then(0,6) else(dE (a.tdiv b),0)) else if op=5 then(if a<b then 1 else 0,0) else if op=6 then(if a=b then 1 else 0,0) else(0,2)
def ce0 (l:List Ce): Ce:=l.getD 0 ceZ
def rvS (p:Pr)(s:Sa)(r:Rv): Sa×List Ce×Int :=
 if r.kind=1 then vlS p s r.a else if r.kind=4 then brS p s r.pl r.bo else if r.kind=5 then brS p s r.pl 4 else
 if ¬(vlS p s r.a).2.2=0 then(s,[],(vlS p s r.a).2.2) else if ¬(vlS p (vlS p s r.a).1 r.b).2.2=0 then(s,[],(vlS p (vlS p s r.a).1 r.b).2.2) else
 if r.kind=3 then((vlS p (vlS p s r.a).1 r.b).1,[ce0 (vlS p s r.a).2.1,ce0 (vlS p (vlS p s r.a).1 r.b).2.1],0) else
 if ¬(doV r.op (ce0 (vlS p s r.a).2.1).n (ce0 (vlS p (vlS p s r.a).1 r.b).2.1).n).2=0 then(s,[],4) else
 ((vlS p (vlS p s r.a).1 r.b).1,[ce1 (doV r.op (ce0 (vlS p s r.a).2.1).n (ce0 (vlS p (vlS p s r.a).1 r.b).2.1).n).1],0)
def I0(h:SaV p s): SaV p (rvS p s r).1:=by
 unfold rvS;split
 ·exact qp h
 split
 ·exact Pn h
 split
 ·exact Pn h
 split
 ·exact h
 split
 ·exact h
 split
 ·exact qp (qp h)
 split
 ·exact h
 ·exact qp (qp h)
def oX: yB s (rvS p s r).1:=by
 unfold rvS;split
 ·exact wm
 split
 ·exact Pp
 split
 ·exact Pp
 split
 ·exact .rfl'
 split
 ·exact .rfl'
 split
 ·exact wm.tr wm
 split
 ·exact .rfl'
 ·exact wm.tr wm
def fA(h:km ts r=0): zZ ts r.pl=0/\((zu ts r.pl).kind=1\/(zu ts r.pl).kind=2)/\iD ts r=⟨if r.kind=5 then 5 else if r.bo=1 then 3 else 4,(zu ts r.pl).kind⟩:=by
 have a:=h;unfold km at h;have c1:zZ ts r.pl=0:=zC λd=>by rw[if_pos d] at h;exact d h
 rw[if_neg (by simpa using c1)] at h;have c2:¬(¬(zu ts r.pl).kind=1/\¬(zu ts r.pl).kind=2):=λd=>by rw[if_pos d] at h;simp at h
 exact⟨c1,om,by unfold iD;rw[if_pos a]⟩
def fB{l:List Opd}(h:v8 ts l=0): ∀o∈l,opE ts o=0/\opT ts o=⟨1,0⟩:=by
 unfold v8 at h;have c1:x9 ts l=0:=zC λd=>by rw[if_pos d] at h;exact d h
 rw[if_neg (by simpa using c1)] at h;have c2:l.all (isI ts)=true:=zC λd=>by rw[if_neg d] at h;simp at h
 have g:∀l:List Opd,x9 ts l=0->∀o∈l,opE ts o=0:=λl=>by
  induction l with
  |nil=>intro _ o c;simp at c
  |cons a l ih =>
   intro f o c;unfold x9 at f;have e:opE ts a=0:=zC λd=>by rw[if_pos d] at f;exact d f
   rw[if_neg (by simpa using e)] at f;rcases List.mem_cons.1 c with rfl|c
   ·exact e
   ·exact ih f o c
 intro o c;have:=zA.1 c2 o c
 unfold isI at this;simp only[zB,beq_iff_eq] at this;refine⟨g l c1 o c,?_⟩;generalize opT ts o=t at this ⊢;obtain⟨a,b⟩:=t;simp only at this;obtain⟨rfl,rfl⟩:=this;rfl
def dF(h:xh p s ⟨1,0⟩ l=true): ∃n,l = [ce1 n]:=by
 unfold xh um at h;simp only[zB,zL,zA,beq_iff_eq] at h;obtain⟨⟨e,f⟩,g⟩:=h;have hl:l.length=1:=by unfold zg at e;simp at e;omega
 match l,hl with
 |[c],_ =>
  have k:=f c sm;have o:=(g c sm).1;obtain⟨k',n,⟨a,b,d⟩⟩:=c;refine⟨n,?_⟩;unfold uQ at k;simp at k;subst k;unfold xg poZ at o;simp at o;obtain⟨⟨rfl,rfl⟩,rfl⟩:=o;rfl
def fC(h:SaV p s)(e:s.frames≠[])(I:1<=r.kind/\r.kind<=5)(f:rvE (tyL p s) r=0)(c:(rvS p s r).2.2=0): xh p (rvS p s r).1 (rvT (tyL p s) r) (rvS p s r).2.1=true:=by
 unfold rvS rvE rvT at *;by_cases k1:r.kind=1
 ·rw[if_pos k1] at c f ⊢;rw[if_pos k1];exact nW h e f c
 rw[if_neg k1] at c f ⊢;rw[if_neg k1];by_cases A:r.kind=4
 ·have g:¬(r.kind=2\/r.kind=3):=om;rw[if_neg g] at f ⊢;rw[if_pos A] at c ⊢;obtain⟨i,j,m⟩:=fA f;rw[m];exact Sd h e i c (by
    repeat' split
    all_goals omega)
 rw[if_neg A] at c ⊢;by_cases B:r.kind=5
 ·have g:¬(r.kind=2\/r.kind=3):=om;rw[if_neg g] at f ⊢;rw[if_pos B] at c ⊢;obtain⟨i,j,m⟩:=fA f;rw[m];exact Sd h e i c (by
    repeat' split
    all_goals omega)
 rw[if_neg B] at c ⊢;have n:r.kind=2\/r.kind=3:=om;rw[if_pos n] at f ⊢;rw[if_pos f];have hi:=fB f;obtain⟨C,D⟩:=hi r.a sm;obtain⟨i,j⟩:=hi r.b sm;have v:(vlS p s r.a).2.2=0:=zC λd=>by rw[if_pos d] at c;exact d c
 rw[if_neg (by simpa using v)] at c ⊢;have w:(vlS p (vlS p s r.a).1 r.b).2.2=0:=zC λd=>by rw[if_pos d] at c;exact d c
 rw[if_neg (by simpa using w)] at c ⊢;have y:=nW h e C v;rw[D] at y;have S:=@wm p s r.a;have z:=nW (qp h (o:=r.a)) (by rw[S.fr];exact e) (o:=r.b) (by rw[wn S];exact i) w;rw[wn S,j] at z;obtain⟨n1,F⟩:=dF y;obtain⟨J,G⟩:=dF z;rw[F,G] at c ⊢;by_cases u:r.kind=3
 ·rw[if_pos u] at c ⊢;rw[u];unfold xh um xg uQ zg ce0 ce1 poZ;simp
 ·rw[if_neg u] at c ⊢;have H:r.kind=2:=om;split at c
  ·simp at c
  rename_i E;rw[if_neg E,H];unfold xh um xg uQ zg ce0 ce1 poZ;simp
def iJ (b:Bool): zK 239 [.bool b] (iI (if b=true then 1 else 0)):=by
 refine eK [] func239 λX=>?_;go_simp
def fD (n:Int): zK 42 [iI n] (.bool (n != 0)):=by
 refine eK [] func42 λX=>?_;go_simp
def j0 (n:Int): IntKind.i64.wrap n=dE n:=by
 unfold dE;simp only[IntKind.wrap,IntKind.bits,IntKind.signed];simp;omega
def Vb (op a b:Int): zK 156 [iU op,iI a,iI b] (.tup [iI (doV op a b).1,iI (doV op a b).2]):=by
 have c:=j0 (a+b);have d:=j0 (a-b);have e:=j0 (a*b);have f:=j0 (a.tdiv b);refine eK [] func156 λX=>?_;go_simp;repeat'(first|((first|apply zd (iJ (decide (a<b)))|apply zd (iJ (decide (a=b)))|apply zd (iJ (a==b)));try go_simp)|with_reducible first|apply ai|intro)
 all_goals first|assumption|(unfold doV;simp[*];done)
def Ej (a b:Int): Int:=IntKind.u64.wrap ((BitVec.ofInt 64 a &&& BitVec.ofInt 64 b).toNat:Int)
def orU (a b:Int): Int:=IntKind.u64.wrap ((BitVec.ofInt 64 a ||| BitVec.ofInt 64 b).toNat:Int)
def Lo (P:Program)(t:TypeId)(x y:AV): Eff:=tQ P t .and x y
def orE (P:Program)(t:TypeId)(x y:AV): Eff:=tQ P t .or x y
theorem Lp{t:TypeId}{a b:Int}: Lo P t (.int .u64 a) (.int .u64 b) = .val (.int .u64 (Ej a b)):=(rfl)
theorem I1{t:TypeId}{a b:Int}: orE P t (.int .u64 a) (.int .u64 b) = .val (.int .u64 (orU a b)):=(rfl)
theorem Ny {m:Bool}{d:Nat}{t u:TypeId}{x y:Operand}{f:Fr}{H:Hp}: AO m P d (.binOp .and t x y u) f H k=(Lo P t (ev f x) (ev f y)).g P m H k:=(rfl)
theorem Lq {m:Bool}{d:Nat}{t u:TypeId}{x y:Operand}{f:Fr}{H:Hp}: AO m P d (.binOp .or t x y u) f H k=(orE P t (ev f x) (ev f y)).g P m H k:=(rfl)
attribute [go_sem] Lp I1
attribute [go_sem high] Ny Lq
end Go.Proofs.YtllodfoldffonaaGreatDoor
