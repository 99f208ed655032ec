/- A part of the proof. -/
import Derived.WalkKit
import Derived.Deep.Upon
import Derived.ScopeJumps
import Derived.Lib.AppendZeros
namespace Go.Proofs.YtllodfoldffonaaGreatDoor.AM
open Go.RowKit
set_option linter.unusedSimpArgs false
set_option linter.unusedVariables false
set_option maxRecDepth 100000
set_option maxHeartbeats 16000000
variable {F:Nat->Prop}{P:Program}{X:Nat->Prop}{c:Array Value}{cs:List Value}{l:Nat}{run:Result Next}{s:Nat}{t:TypeId}{u:Value}{v:Value}{w:World}
inductive Id where
 |l (n:Nat)
 |u (i:Id)
 |s (n:Nat) (i:Id)
 deriving DecidableEq
inductive AV where
 |int (k:IntKind) (n:Int)
 |bool (b:Bool)
 |str (s:ByteArray)
 |agg (l:List AV)
 |tup (l:List AV)
 |nilp
 |nilf
 |nils
 |vec (sz:Nat) (l:List (List AV))
 |nv (sz:Nat) (l:List (List AV))
 |sl (i:Id) (b sz n cap:Nat)
 |so (i:Id) (b sz r n cap:Nat)
 |ptr (i:Id) (b sz r j:Nat)
 |rp (l:List AV)
 |fn (f:Nat) (l:List AV)
 |bm (f:Nat) (l:List AV)
 |any
def yL (w:World)(b o:Nat)(cs:List Value): Prop:=∀j (a:j<cs.length),w.cell? ⟨b,o+j,none⟩=some cs[j]
mutual
def RV (X:Nat->Prop)(w:World): AV->Value->Prop
 |.int k n,v=>v = .int k n
 |.bool b,v=>v = .bool b
 |.str s,v=>v = .string s
 |.agg l,v=>∃cs:List Value,v = .agg cs.toArray/\RL X w l cs
 |.tup l,v=>∃cs:List Value,v = .tuple cs.toArray/\RL X w l cs
 |.nilp,v=>v = .pointer none
 |.nilf,v=>v = .nilFunc
 |.nils,v=>v = .slice none 0 0
 |.vec sz l,v=>∃a cap,v = .slice a l.length cap/\l.length<=cap/\(cap:Int)<=9223372036854775807/\(a=none->cap=0)/\∀p,a=some p->l≠[]->∃b off,p=⟨b,off,none⟩/\b<w.heap.size/\¬X b/\RR X w b off sz l
 |.nv sz l,v=>∃p cap,v = .slice (some p) l.length cap/\l.length<=cap/\(cap:Int)<=9223372036854775807/\(l≠[]->∃b off,p=⟨b,off,none⟩/\b<w.heap.size/\¬X b/\RR X w b off sz l)
 |.sl _ b _ n cap,v=>n<=cap/\(cap:Int)<=9223372036854775807/\∃a,v = .slice a n cap/\(a=some ⟨b,0,none⟩\/cap=0)
 |.so _ b sz r n cap,v=>n<=cap/\(cap:Int)<=9223372036854775807/\∃a,v = .slice a n cap/\(a=some ⟨b,r*sz,none⟩\/cap=0)
 |.ptr _ b sz r j,v=>v = .pointer (some ⟨b,r*sz+j,none⟩)
 |.rp l,v=>∃b o cs,v = .pointer (some ⟨b,o,none⟩)/\b<w.heap.size/\¬X b/\RL X w l cs/\yL w b o cs
 |.fn f l,v=>∃cs:List Value,v = .func (.func f) #[] cs.toArray/\RL X w l cs
 |.bm f l,v=>∃cs:List Value,v = .func (.func f) cs.toArray #[]/\RL X w l cs
 |.any,_=>True
def RL (X:Nat->Prop)(w:World): List AV->List Value->Prop
 |[],cs=>cs = []
 |a::l,cs=>∃c r,cs=c::r/\RV X w a c/\RL X w l r
def RR (X:Nat->Prop)(w:World)(b off sz:Nat): List (List AV)->Prop
 |[]=>True
 |r::l=>r.length=sz/\(∃cs,RL X w r cs/\yL w b off cs)/\RR X w b (off+sz) sz l
end
structure Ev (X:Nat->Prop)(w:World)(X':Nat->Prop)(w':World): Prop where
 os:w'.os=w.os
 tape:w'.tape=w.tape
 output:w'.output=w.output
 size:w.heap.size<=w'.heap.size
 block:∀b,b<w.heap.size->¬X b->¬X' b/\w'.heap[b]?=w.heap[b]?
theorem Ev.cells {X a:Nat->Prop}{w w':World}(h:Ev X w a w'){b o:Nat}(hb:b<w.heap.size)(hx:¬X b)(d:yL w b o cs): yL w' b o cs:=λj e=>by
 rw[<-d j e];simp only[World.cell?];rw[(h.block b hb hx).2]
mutual
theorem RV.mono {X x:Nat->Prop}{w w':World}(h:Ev X w x w'): ∀(a:AV)(v:Value),RV X w a v->RV x w' a v
 |.int k n,v,q=>by simpa only[RV] using q
 |.bool b,v,q=>by simpa only[RV] using q
 |.str s,v,q=>by simpa only[RV] using q
 |.agg l,v,q=>by simp only[RV] at *;obtain⟨cs,e,k⟩:=q;exact⟨cs,e,RL.mono h l cs k⟩
 |.tup l,v,q=>by simp only[RV] at *;obtain⟨cs,e,k⟩:=q;exact⟨cs,e,RL.mono h l cs k⟩
 |.nilp,v,q=>by simpa only[RV] using q
 |.nilf,v,q=>by simpa only[RV] using q
 |.nils,v,q=>by simpa only[RV] using q
 |.vec sz l,v,q=>by
  simp only[RV] at *;obtain⟨a,cap,i,j,m,y,r⟩:=q;refine⟨a,cap,i,j,m,y,λp hp hn=>?_⟩;obtain⟨b,off,rfl,k1,d,g⟩:=r p hp hn;exact⟨b,off,rfl,Nat.lt_of_lt_of_le k1 h.size,(h.block b k1 d).1,RR.mono h b off sz (λo cs=>h.cells k1 d) l g⟩
 |.nv sz l,v,q=>by
  simp only[RV] at *;obtain⟨p,cap,i,j,m,r⟩:=q;refine⟨p,cap,i,j,m,λhn=>?_⟩;obtain⟨b,off,rfl,k1,d,g⟩:=r hn;exact⟨b,off,rfl,Nat.lt_of_lt_of_le k1 h.size,(h.block b k1 d).1,RR.mono h b off sz (λo cs=>h.cells k1 d) l g⟩
 |.sl _ b _ n cap,v,q=>by simpa only[RV] using q
 |.so _ b _ _ n cap,v,q=>by simpa only[RV] using q
 |.ptr _ b _ _ _,v,q=>by simpa only[RV] using q
 |.rp l,v,q=>by
  simp only[RV] at *;obtain⟨b,o,cs,e,k1,d,g,z⟩:=q;exact⟨b,o,cs,e,Nat.lt_of_lt_of_le k1 h.size,(h.block b k1 d).1,RL.mono h l cs g,h.cells k1 d z⟩
 |.fn f l,v,q=>by simp only[RV] at *;obtain⟨cs,e,k⟩:=q;exact⟨cs,e,RL.mono h l cs k⟩
 |.bm f l,v,q=>by simp only[RV] at *;obtain⟨cs,e,k⟩:=q;exact⟨cs,e,RL.mono h l cs k⟩
 |.any,_,_=>by simp only[RV]
theorem RL.mono {X b:Nat->Prop}{w w':World}(h:Ev X w b w'): ∀(l:List AV)(cs:List Value),RL X w l cs->RL b w' l cs
 |[],cs,q=>by simpa only[RL] using q
 |a::l,cs,q=>by simp only[RL] at *;obtain⟨c,r,e,k1,d⟩:=q;exact⟨c,r,e,RV.mono h a c k1,RL.mono h l r d⟩
theorem RR.mono {X a:Nat->Prop}{w w':World}(h:Ev X w a w')(b off sz:Nat)(d:∀o cs,yL w b o cs->yL w' b o cs): ∀(l:List (List AV)),RR X w b off sz l->RR a w' b off sz l
 |[],q=>by simp only[RR]
 |r::l,q=>by simp only[RR] at *;obtain⟨k1,⟨cs,e,g⟩,i⟩:=q;exact⟨k1,⟨cs,RL.mono h r cs e,d _ _ g⟩,RR.mono h b (off+sz) sz d l i⟩
end
theorem Ev.refl (X:Nat->Prop)(w:World): Ev X w X w:=⟨rfl,rfl,rfl,Nat.le_refl _,λ_ _ h=>⟨h,rfl⟩⟩
theorem Ev.trans {X Y Z:Nat->Prop}{a b c:World}(h:Ev X a Y b)(k:Ev Y b Z c): Ev X a Z c :=
 ⟨k.os.trans h.os,k.tape.trans h.tape,k.output.trans h.output,Nat.le_trans h.size k.size,λi hi hx=>by
  obtain⟨d,e⟩:=h.block i hi hx;obtain⟨k1,g⟩:=k.block i (Nat.lt_of_lt_of_le hi h.size) d;exact⟨k1,by rw[g,e]⟩⟩
structure Ob where
 b:Nat
 cap:Nat
 sz:Nat
 ty:TypeId
 rows:List (List AV)
 fz:Bool:=false
abbrev Fr:=Nat->AV
abbrev Hp:=Id->Option Ob
def xb (f:Fr)(d:Nat)(v:AV): Fr:=λt=>if t=d then v else f t
def ze (H:Hp)(i:Id)(o:Ob): Hp:=λj=>if j=i then some o else H j
def zl (f:Fr)(d:Option Nat)(v:AV): Fr:=match d with|some d=>xb f d v|none=>f
def own (H:Hp)(b:Nat): Prop:=∃i o,H i=some o/\o.cap≠0/\o.fz=false/\o.b=b
def zp (X:Nat->Prop)(H:Hp)(b:Nat): Prop:=X b\/own H b
theorem Ev.fb{H H':Hp}{w w':World}(h:Ev (own H) w (own H') w'): Ev (zp X H) w (zp X H') w' :=
 ⟨h.os,h.tape,h.output,h.size,λb hb hx=>⟨λk=>hx (Or.inl (k.resolve_right (h.block b hb λq=>hx (Or.inr q)).1)),(h.block b hb λq=>hx (Or.inr q)).2⟩⟩
def Rk (F:Nat->Prop)(w:World)(o:Ob): Prop :=
 (o.cap=0->o.rows = [])/\(o.cap≠0->∃c,w.heap[o.b]?=some (.cells c o.ty (0,0))/\c.size=o.cap*o.sz/\o.rows.length<=o.cap/\RR F w o.b 0 o.sz o.rows)
def kU:Nat:=0
def gv (k:Nat): AV:=if k=kU then .rp [.int .u8 0,.int .u8 4,.int .u8 1,.int .u8 2,.int .u8 3] else .any
def GL (F:Nat->Prop)(w:World): Prop:=∀k,RV F w (gv k) (.pointer (some ⟨k,0,none⟩))
theorem GL.mono {F F':Nat->Prop}{w w':World}(h:GL F w)(e:Ev F w F' w'): GL F' w':=λk=>RV.mono e _ _ (h k)
theorem GL.wide {F F':Nat->Prop}(h:GL F w)(e:∀b,F' b->F b): GL F' w:=h.mono ⟨rfl,rfl,rfl,Nat.le_refl _,λb _ q=>⟨λz=>q (e b z),rfl⟩⟩
def XOk (F:Nat->Prop)(w:World): Prop:=(∀b,F b->b<w.heap.size)/\GL F w
structure HOk (X:Nat->Prop)(H:Hp)(w:World): Prop where
 ob:∀i o,H i=some o->Rk (zp X H) w o
 nx:∀i o,H i=some o->o.cap≠0->¬X o.b
 inj:∀i j o p,H i=some o->H j=some p->o.cap≠0->p.cap≠0->o.b=p.b->i=j
 xs:∀b,X b->b<w.heap.size
 gl:GL (zp X H) w
structure Rel (X:Nat->Prop)(N:Nat)(f:Fr)(H:Hp)(a:Act)(w:World): Prop where
 tm:∀t,RV (zp X H) w (f t) (a.tmps.getD t undef)
 hp:HOk X H w
 df:a.defers = []
 sz:a.tmps.size=N
abbrev AQ:=Exit->Fr->Hp->Prop
def aJ (X:Nat->Prop)(N:Nat)(F:Nat->Prop)(w:World)(Q:AQ): Exit->Act->World->Prop :=
 λe a' w'=>∃a H',Q e a H'/\Rel X N a H' a' w'/\Ev F w (own H') w'
def AW (P:Program)(X:Nat->Prop)(N:Nat)(c:Code)(Q:AQ)(f:Fr)(H:Hp): Prop :=
 ∀a w,Rel X N f H a w->c.wp P (aJ X N (own H) w Q) a w
section
variable {P:Program} {X:Nat -> Prop} {N:Nat} {Q:AQ} {f:Fr} {H:Hp}
theorem AW.mono {c:Code}{b:AQ}(h:AW P X N c Q f H)(k:∀e f H,Q e f H->b e f H): AW P X N c b f H:=λa w r =>
 wp_mono (h a w r) λe a' w' ⟨d,H',q,g,v⟩=>⟨d,H',k _ _ _ q,g,v⟩
theorem AW.skip (h:Q .normal f H): AW P X N .skip Q f H:=λa w r=>wp_skip ⟨f,H,h,r,Ev.refl _ _⟩
theorem AW.label(h:Q .normal f H): AW P X N (.label l) Q f H:=λa w r=>wp_label ⟨f,H,h,r,Ev.refl _ _⟩
theorem AW.exit(h:Q (.exit l) f H): AW P X N (.exit l) Q f H:=λa w r=>wp_exit ⟨f,H,h,r,Ev.refl _ _⟩
theorem AW.goto(h:Q (.goto l) f H): AW P X N (.goto l) Q f H:=λa w r=>wp_goto ⟨f,H,h,r,Ev.refl _ _⟩
theorem AW.ret (h:Q .ret f H): AW P X N .ret Q f H:=λa w r=>wp_ret ⟨f,H,h,r,Ev.refl _ _⟩
def rY (K:Fr->Hp->Prop)(Q:AQ): AQ
 |.normal,f,H=>K f H
 |e,f,H=>Q e f H
theorem Ta{y:Code}{K:Fr->Hp->Prop}(d:∀f H,K f H->AW P X N y Q f H): ∀e a' w',aJ X N F w (rY K Q) e a' w'->Exit.then (y.wp P (aJ X N F w Q)) (aJ X N F w Q) e a' w':=by
 intro e a' w' ⟨f',H',q,r',v⟩;cases e
 case normal=>exact wp_mono (d _ _ q a' w' r') λe j k ⟨b,a,g,h,i⟩=>⟨b,a,g,h,v.trans i⟩
 all_goals exact⟨f',H',q,r',v⟩
theorem AW.seq {x y:Code}(h:∀K:Fr->Hp->Prop,(∀f H,AW P X N y Q f H->K f H)->AW P X N x (rY K Q) f H): AW P X N (.seq x y) Q f H:=λa w r =>
 wp_seq (wp_mono (h (AW P X N y Q) (λ_ _ k=>k) a w r) (Ta λ_ _ k=>k))
def uF (l:Nat)(Q:AQ): AQ
 |.exit l',f,H=>if l'=l then Q .normal f H else Q (.exit l') f H
 |e,f,H=>Q e f H
theorem AW.block{c:Code}(h:AW P X N c (uF l Q) f H): AW P X N (.block l c) Q f H:=λa w r =>
 wp_block (wp_mono (h a w r) λe a' w' ⟨b,H',q,d,v⟩=>by
  cases e
  case exit l' =>
   simp only[uF,Exit.inBlock] at *;split<;>rename_i hl
   ·rw[if_pos hl] at q;exact⟨b,H',q,d,v⟩
   ·rw[if_neg hl] at q;exact⟨b,H',q,d,v⟩
  all_goals exact⟨b,H',q,d,v⟩)
end
theorem tW {w w':World}{b o:Nat}(h:w'.heap[b]?=w.heap[b]?)(a:yL w b o cs): yL w' b o cs:=λj d=>by
 rw[<-a j d];simp only[World.cell?];rw[h]
theorem HOk.lt{H:Hp}(h:HOk X H w){i:Id}{o:Ob}(hi:H i=some o)(a:o.cap≠0): o.b<w.heap.size:=by
 obtain⟨c,a,_⟩:=(h.ob i o hi).2 a;exact(Array.getElem?_eq_some_iff.1 a).1
theorem eR{H:Hp}(h:HOk X H w){b:Nat}(hb:zp X H b): b<w.heap.size:=by
 rcases hb with hb|⟨i,o,hi,a,_,rfl⟩
 ·exact h.xs b hb
 ·exact h.lt hi a
theorem HOk.put{H:Hp}{w w':World}{i:Id}{o:Ob}(h:HOk X H w)(M:w'.os=w.os)(E:w'.tape=w.tape)(I:w'.output=w.output)(x:w.heap.size<=w'.heap.size)
  (S:o.fz=false)
  (A:∀b,b<w.heap.size->(∀p,H i=some p->p.cap≠0->p.fz=false/\p.b≠b)->(o.cap≠0->o.b≠b)->w'.heap[b]?=w.heap[b]?)
  (d:o.cap≠0->(w.heap.size<=o.b\/∃p,H i=some p/\p.cap≠0/\p.fz=false/\p.b=o.b))
  (hfz:∀p,H i=some p->p.cap≠0->p.fz=false)
  (L:Ev (zp X H) w (zp X (ze H i o)) w'->Rk (zp X (ze H i o)) w' o) :
  HOk X (ze H i o) w'/\Ev (own H) w (own (ze H i o)) w':=by
 have y:Ev (own H) w (own (ze H i o)) w':=by
  refine⟨M,E,I,x,λb hb hx=>?_⟩;have z:o.cap≠0->o.b≠b:=λg e=>by
   rcases d g with k|⟨p,k1,m,G,n⟩
   ·omega
   ·exact hx ⟨i,p,k1,m,G,by rw[n,e]⟩
  refine⟨?_,A b hb (λp hp g=>⟨hfz p hp g,λe=>hx ⟨i,p,hp,g,hfz p hp g,e⟩⟩) z⟩;rintro⟨j,p,k1,m,G,n⟩;unfold ze at k1;split at k1
  ·injection k1 with k1;subst k1;exact z m n
  ·exact hx ⟨j,p,k1,m,G,n⟩
 have C:∀j p,j≠i->H j=some p->p.cap≠0->w'.heap[p.b]?=w.heap[p.b]?:=λj p a hp g=>by
  refine A p.b (h.lt hp g) (λq D J=>⟨hfz q D J,λe=>a (h.inj j i p q hp D g J e.symm)⟩) (λK e=>?_);rcases d K with k|⟨q,k1,m,G,n⟩
  ·have:=h.lt hp g;omega
  ·exact a (h.inj j i p q hp k1 g m (by rw[n,e]))
 refine⟨⟨λj p a=>?_,λj p a g=>?_,λj k p q a B hp D e=>?_,λb hb=>Nat.lt_of_lt_of_le (h.xs b hb) x,h.gl.mono y.fb⟩,y⟩
 ·unfold ze at a;split at a
  ·injection a with a;subst a;exact L y.fb
  ·rename_i z;obtain⟨k1,m⟩:=h.ob j p a;refine⟨k1,λg=>?_⟩;obtain⟨c,T,U,V,W⟩:=m g;have hb:=C j p z a g;exact⟨c,by rw[hb,T],U,V,RR.mono y.fb _ _ _ (λo cs=>tW hb) _ W⟩
 ·unfold ze at a;split at a
  ·injection a with a;subst a;rcases d g with k|⟨p,k1,m,G,n⟩
   ·intro hx;have:=h.xs _ hx;omega
   ·rw[<-n];exact h.nx i p k1 m
  ·exact h.nx j p a g
 ·unfold ze at a B;split at a<;>split at B
  ·simp_all
  ·rename_i O R;injection a with a;subst a;rcases d hp with k'|⟨r,k1,m,G,n⟩
   ·have:=h.lt B D;omega
   ·rw[O];exact h.inj i k r q k1 B m D (by rw[n,e])
  ·rename_i O R;injection B with B;subst B;rcases d D with k'|⟨r,k1,m,G,n⟩
   ·have:=h.lt a hp;omega
   ·rw[R];exact h.inj j i p r a k1 hp m (by rw[n,<-e])
  ·exact h.inj j k p q a B hp D e
theorem RL.length {X:Nat->Prop}{w:World}: ∀ {l:List AV} {cs:List Value},RL X w l cs->l.length=cs.length
 |[],cs,h=>by simp only[RL] at h;subst h;rfl
 |a::l,cs,h=>by simp only[RL] at h;obtain⟨c,r,rfl,_,k⟩:=h;simp[RL.length k]
theorem RL.get: ∀ {l:List AV} {cs:List Value},RL X w l cs->∀ {i:Nat} {a:AV},l[i]?=some a->∃c,cs[i]?=some c/\RV X w a c
 |[],cs,h,i,a,hi=>by simp at hi
 |b::l,cs,h,i,a,hi=>by
  simp only[RL] at h;obtain⟨c,r,rfl,k1,d⟩:=h;cases i with
  |zero=>simp at hi;subst hi;exact⟨c,rfl,k1⟩
  |succ i=>simpa using d.get (by simpa using hi)
theorem RL.drop: ∀ {l:List AV} {cs:List Value},RL X w l cs->∀n:Nat,RL X w (l.drop n) (cs.drop n)
 |l,cs,h,0=>by simpa using h
 |[],cs,h,n+1=>by simp only[RL] at h;subst h;simp[RL]
 |b::l,cs,h,n+1=>by simp only[RL] at h;obtain⟨c,r,rfl,k1,a⟩:=h;simpa using a.drop n
theorem RL.take: ∀ {l:List AV} {cs:List Value},RL X w l cs->∀n:Nat,RL X w (l.take n) (cs.take n)
 |l,cs,h,0=>by simp[RL]
 |[],cs,h,n+1=>by simp only[RL] at h;subst h;simp[RL]
 |b::l,cs,h,n+1=>by
  simp only[RL] at h;obtain⟨c,r,rfl,k1,a⟩:=h;simp only[List.take_succ_cons,RL];exact⟨c,_,rfl,k1,a.take n⟩
theorem RL.append: ∀ {l:List AV} {cs:List Value} {l':List AV} {cs':List Value},RL X w l cs->RL X w l' cs'->RL X w (l++l') (cs++cs')
 |[],cs,l',cs',h,h'=>by simp only[RL] at h;subst h;simpa using h'
 |b::l,cs,l',cs',h,h'=>by
  simp only[RL] at h;obtain⟨c,r,rfl,k1,a⟩:=h;simp only[List.cons_append,RL];exact⟨c,_,rfl,k1,a.append h'⟩
theorem RL.one{a:AV}(h:RV X w a v): RL X w [a] [v]:=by simp only[RL];exact⟨v,[],rfl,h,rfl⟩
theorem yL.take{b o:Nat}(h:yL w b o cs)(n:Nat): yL w b o (cs.take n):=λj d=>by
 have a:j<cs.length:=by simp at d;omega
 rw[h j a];simp
theorem yL.drop{b o:Nat}(h:yL w b o cs)(n:Nat): yL w b (o+n) (cs.drop n):=λj d=>by
 have a:n+j<cs.length:=by simp at d;omega
 rw[Nat.add_assoc,h (n+j) a];simp
theorem RR.get{b sz:Nat}: ∀ {l:List (List AV)} {off:Nat},RR X w b off sz l->∀ {i:Nat} {r:List AV},l[i]?=some r->r.length=sz/\∃cs,RL X w r cs/\yL w b (off+i*sz) cs
 |[],off,h,i,r,hi=>by simp at hi
 |q::l,off,h,i,r,hi=>by
  simp only[RR] at h;obtain⟨k1,a,d⟩:=h;cases i with
  |zero=>simp at hi;subst hi;simpa using⟨k1,a⟩
  |succ i =>
   have:=d.get (i:=i) (by simpa using hi)
   rw[Nat.succ_mul,Nat.add_comm (i*sz) sz,<-Nat.add_assoc];exact this
theorem RR.take{b sz:Nat}: ∀ {l:List (List AV)} {off:Nat},RR X w b off sz l->∀n:Nat,RR X w b off sz (l.take n)
 |l,off,h,0=>by simp[RR]
 |[],off,h,n+1=>by simp[RR]
 |q::l,off,h,n+1=>by simp only[RR,List.take_succ_cons] at *;exact⟨h.1,h.2.1,h.2.2.take n⟩
theorem RR.append{b sz:Nat}: ∀ {l:List (List AV)} {off:Nat} {l':List (List AV)},RR X w b off sz l->RR X w b (off+l.length*sz) sz l'->RR X w b off sz (l++l')
 |[],off,l',h,h'=>by simpa using h'
 |q::l,off,l',h,h'=>by
  simp only[RR,List.cons_append,List.length_cons] at *;refine⟨h.1,h.2.1,h.2.2.append ?_⟩;rw[Nat.add_assoc];rw[Nat.succ_mul,Nat.add_comm (l.length*sz) sz] at h';exact h'
theorem RR.drop{b sz:Nat}: ∀ {l:List (List AV)} {off:Nat},RR X w b off sz l->∀n:Nat,n<=l.length->RR X w b (off+n*sz) sz (l.drop n)
 |l,off,h,0,_=>by simpa using h
 |[],off,h,n+1,hn=>by simp at hn
 |q::l,off,h,n+1,hn=>by
  simp only[RR,List.drop_succ_cons] at *;have:=h.2.2.drop n (by simpa using hn)
  rw[Nat.succ_mul,Nat.add_comm (n*sz) sz,<-Nat.add_assoc];exact this
theorem pC (P:Program)(w:World): Sem.run P program w = .ok P w:=rfl
def okN {b:Type}: Result b->Option b
 |.ok a _=>some a
 |.halt _ _=>none
def xN (P:Program)(t:TypeId): Option Nat:=if(P.types[t]?).isSome=true then okN ((sizeOf t).run P default) else none
def rZ (P:Program)(t:TypeId): Option Bool:=okN ((isAgg t).run P default)
def vq (P:Program)(t:TypeId): Option Value:=okN ((zeroValue t).run P default)
theorem yC{n:Nat}(h:xN P t=some n)(w:World): (sizeOf t).run P w = .ok n w:=by
 unfold xN at h;split at h
 case isFalse=>cases h
 simp only[sizeOf,typeInfo,Sem.run_bind,pC,Result.andThen] at h ⊢;cases hi:P.info? t with
 |none=>rw[hi] at h;simp[okN,stuck,Sem.run] at h
 |some i=>rw[hi] at h;simp[okN] at h;simp[h]
theorem qx{n:Bool}(h:rZ P t=some n)(w:World): (isAgg t).run P w = .ok n w:=by
 unfold rZ at h;simp only[isAgg,underlying,Sem.run_bind,pC,Result.andThen] at h ⊢;cases hi:P.underlying t with
 |none=>rw[hi] at h;simp[okN,stuck,Sem.run] at h
 |some i=>rw[hi] at h;cases i<;>simp[okN] at h<;>simp[h]
theorem vx{n:Value}(h:vq P t=some n)(w:World): (zeroValue t).run P w = .ok n w:=by
 unfold vq at h;simp only[zeroValue,typeInfo,Sem.run_bind,pC,Result.andThen] at h ⊢;cases hi:P.info? t with
 |none=>rw[hi] at h;simp[okN,stuck,Sem.run] at h
 |some i =>
  rw[hi] at h;cases a:i.zero with
  |none=>simp[a,okN,unsupported,Sem.run] at h
  |some z=>simp[a,okN] at h;simp[a,h]
def av1:Value->AV
 |.int k n=>.int k n
 |.bool b=>.bool b
 |.string s=>.str s
 |.pointer none=>.nilp
 |.slice none 0 0=>.nils
 |.nilFunc=>.nilf
 |_=>.any
def nh:Value->AV
 |.agg cs=>.agg (cs.toList.map av1)
 |v=>av1 v
theorem RV.av1 (X:Nat->Prop)(w:World)(v:Value): RV X w (av1 v) v:=by
 unfold AM.av1;split<;>simp only[RV]
theorem RL.av1 (X:Nat->Prop)(w:World): ∀l:List Value,RL X w (l.map AM.av1) l
 |[]=>by simp[RL]
 |v::l=>by simp only[List.map_cons,RL];exact⟨v,l,rfl,RV.av1 X w v,RL.av1 X w l⟩
theorem RV.avOf (X:Nat->Prop)(w:World)(v:Value): RV X w (nh v) v:=by
 unfold AM.nh;split
 ·simp only[RV];exact⟨_,rfl,RL.av1 X w _⟩
 ·exact RV.av1 X w v
def ev (f:Fr): Operand->AV
 |.tmp t=>f t
 |.const v=>nh v
 |.func g=>.fn g []
 |.global k=>gv k
theorem Rel.ev{N:Nat}{f:Fr}{H:Hp}{a:Act}(h:Rel X N f H a w)(x:Operand): RV (zp X H) w (ev f x) (a.eval x):=by
 cases x with
 |tmp t=>exact h.tm t
 |const v=>exact RV.avOf _ _ v
 |func g=>simp only[AM.ev,RV,Act.eval];exact⟨[],rfl,by simp[RL]⟩
 |global g=>exact h.hp.gl g
def xW:AV->Bool
 |.agg _|.tup _|.any=>false
 |_=>true
def yo:AV->Option (List AV)
 |.agg l=>if l.all xW then some l else none
 |v=>if xW v then some [v] else none
theorem RV.oneCell{a:AV}(h:RV X w a v)(d:xW a=true): v.oneCell'=true/\v.cells = #[v]:=by
 cases a<;>simp only[RV] at h<;>simp[xW] at d;all_goals first
  |(subst h;exact⟨rfl,rfl⟩)
  |(obtain⟨a,cap,rfl,_⟩:=h;exact⟨rfl,rfl⟩)
  |(obtain⟨a,rfl,_⟩:=h;exact⟨rfl,rfl⟩)
  |(obtain⟨_,_,a,rfl,_⟩:=h;exact⟨rfl,rfl⟩)
  |(obtain⟨b,o,cs,rfl,_⟩:=h;exact⟨rfl,rfl⟩)
theorem RL.one_all: ∀ {l:List AV} {cs:List Value},RL X w l cs->l.all xW=true->∀v∈cs,v.oneCell'=true
 |[],cs,h,_,v,b=>by simp only[RL] at h;subst h;cases b
 |a::l,cs,h,ho,v,b=>by
  simp only[RL] at h;obtain⟨c,r,rfl,k1,d⟩:=h;simp only[List.all_cons,Bool.and_eq_true] at ho;rcases List.mem_cons.1 b with rfl|b
  ·exact(k1.oneCell ho.1).1
  ·exact d.one_all ho.2 v b
theorem RV.cells{a:AV}{l:List AV}(h:RV X w a v)(b:yo a=some l): RL X w l v.cells.toList/\∀u∈v.cells.toList,u.oneCell'=true:=by
 have d:xW a=true->l = [a]->RL X w l v.cells.toList/\∀u∈v.cells.toList,u.oneCell'=true:=λg e=>by
  obtain⟨i,j⟩:=h.oneCell g;rw[j,e];exact⟨RL.one h,by simp[i]⟩
 cases a
 case agg q =>
  simp only[yo] at b;split at b
  ·injection b with b;subst b;simp only[RV] at h;obtain⟨cs,rfl,k⟩:=h;rename_i g;exact⟨by simpa[Value.cells] using k,by simpa[Value.cells] using k.one_all g⟩
  ·cases b
 all_goals first
  |(simp[yo,xW] at b;done)
  |(simp[yo,xW] at b;exact d (by simp[xW]) b.symm)
inductive Eff where
 |no
 |req (c:Prop) (e:Eff)
 |val (v:AV)
 |row (l:List (List AV)) (i:Nat) (v:List AV->AV)
 |wr (i:Id) (o:Ob) (v:AV)
 |mk (i:Id) (o:Nat->Nat->Ob) (v:Nat->Nat->AV)
 |call (f:Nat) (l:List AV)
def Eff.Ok (P:Program)(X:Nat->Prop)(H:Hp)(w:World)(run:Result Next): Eff->Prop
 |.no=>True
 |.req c e=>c->e.Ok P X H w run
 |.val v=>∃a,run = .ok (.value a) w/\RV (zp X H) w v a
 |.row l i k=>∀r,l[i]?=some r->∃a,run = .ok (.value a) w/\RV (zp X H) w (k r) a
 |.wr i o v=>∃a w',(run = .ok (.value a) w'\/run = .ok .skip w'/\a=undef)/\HOk X (ze H i o) w'/\Ev (own H) w (own (ze H i o)) w'/\RV (zp X (ze H i o)) w' v a
 |.mk i o v=>∃b c a w',run = .ok (.value a) w'/\HOk X (ze H i (o b c)) w'/\Ev (own H) w (own (ze H i (o b c))) w'/\RV (zp X (ze H i (o b c))) w' (v b c) a
 |.call f l=>∃cl:List Value,run = .ok (.enter f cl.toArray) w/\RL (zp X H) w l cl
def tj (P:Program)(t:TypeId)(l:List AV): Eff:=match rZ P t with
 |some true=>(match xN P t with|some n=>.req (n<=l.length) (.val (.agg (l.take n)))|none=>.no)
 |some false=>(match l with|v::_=>.val v|[]=>.no)
 |none=>.no
theorem aK{H:Hp}{b o:Nat}{l:List AV}(hl:RL (zp X H) w l cs)(h:yL w b o cs)
  (d:run=(do let v <-loadVar t ⟨b,o,none⟩;pure (Next.value v):Sem Next).run P w):(tj P t l).Ok P X H w run:=by
 unfold tj;cases g:rZ P t with
 |none=>simp[Eff.Ok]
 |some k =>
  cases k with
  |false =>
   cases l with
   |nil=>simp[Eff.Ok]
   |cons a l =>
    simp only[RL] at hl;obtain⟨c,r,rfl,k1,q⟩:=hl;refine⟨c,?_,k1⟩;have e:=h 0 (by simp);simp only[Nat.add_zero,List.getElem_cons_zero] at e;rw[d];simp[loadVar,qx g,load,Sem.run,e]
  |true =>
   cases hs:xN P t with
   |none=>simp[Eff.Ok]
   |some n =>
    intro hn;have i:=hl.length;refine⟨.agg (cs.take n).toArray,?_,by simp only[RV];exact⟨_,rfl,hl.take n⟩⟩;have:=run_loadCells_list (P:=P) w ⟨b,o,none⟩ (cs.take n) (λj v p=>by
     obtain⟨m,rfl⟩:=List.getElem?_eq_some_iff.1 p;rw[Addr.add_lit];exact(h.take n) j m)
    rw[List.length_take,Nat.min_eq_left (by omega)] at this;rw[d];simp[loadVar,qx g,yC hs,this]
def eS (P:Program)(g:TypeId->List AV->List AV->Option Bool): List Field->List AV->List AV->Option Bool
 |[],_,_=>some true
 | f :: fs,x,y=>if f.name = "_" then eS P g fs x y else match xN P f.type with
  |some n=>if f.offset+n<=x.length/\f.offset+n<=y.length then(match g f.type ((x.drop f.offset).take n) ((y.drop f.offset).take n),eS P g fs x y with
   |some a,some b=>some (a&&b)
   |_,_=>none) else none
  |none=>none
def eqT (P:Program): Nat->TypeId->List AV->List AV->Option Bool
 |0,_,_,_=>none
 |d+1,t,x,y=>match P.underlying t with
  |some (.struct fs)=>if P.stoodInHeld t then none else eS P (eqT P d) fs.toList x y
  |some (.int _)=>(match x,y with|[.int k a],[.int k' b]=>if k=k' then some (a==b) else none|_,_=>none)
  |some .bool=>(match x,y with|[.bool a],[.bool b]=>some (a==b)|_,_=>none)
  |some .string=>(match x,y with|[.str a],[.str b]=>some (a==b)|_,_=>none)
  |_=>none
def pv:Bool->List Value->Value
 |true,c=>.agg c.toArray
 |false,c=>c.headD undef
theorem mr{d:TypeDesc}(h:P.underlying t=some d)(w:World): (isAgg t).run P w = .ok (match d with|.array _ _=>true|.struct _=>true|_=>false) w:=by
 simp only[isAgg,Sem.run_bind,run_underlying h,Result.andThen_ok];cases d<;>rfl
theorem Tb {P:Program}: ∀(d:Nat) {X:Nat->Prop} {w:World} {t:TypeId} {x y:List AV} {r:Bool} {cx cy:List Value},eqT P d t x y=some r->RL X w x cx->RL X w y cy ->
  ∃g,(∀w,(isAgg t).run P w = .ok g w)/\(g=false->x.length=1/\y.length=1)/\∀k,(Op.equalIn (d+k) t (pv g cx) (pv g cy)).run P w = .ok r w
 |0,X,w,t,x,y,r,cx,cy,h,_,_=>by simp[eqT] at h
 |d+1,X,w,t,x,y,r,cx,cy,h,hx,hy=>by
  have ek:∀k,d+1+k=(d+k)+1:=λk=>by omega
  simp only[eqT] at h;split at h
  ·rename_i fs hu;split at h
   ·cases h
   rename_i hsi;have hf:P.fieldsOf t=fs:=by simp[Program.fieldsOf,hu]
   refine⟨true,mr hu,by simp,λk=>?_⟩;rw[ek,pv,pv,run_equalIn_struct w (d+k) t _ _ (by rw[hf];exact hu) (by simpa using hsi),hf];generalize fs.toList=l at h;clear hu hf;induction l generalizing r with
   |nil=>simp only[eS] at h;injection h with h;subst h;rfl
   |cons f l ih =>
    simp only [eS] at h;by_cases hn:f.name = "_"
    ·rw[if_pos hn] at h;rw[Op.eqFields,if_neg (by simpa using hn)];exact ih _ h
    ·rw[if_neg hn] at h;split at h
     ·rename_i n hs;split at h
      ·rename_i hle;split at h
       ·rename_i a b h1 h2;injection h with h;subst h;obtain⟨g,g1,g2,g3⟩:=Tb d h1 ((hx.drop f.offset).take n) ((hy.drop f.offset).take n);have hlx:=hx.length;have hly:=hy.length;have part:∀ {z:List AV} {cz:List Value},cz.length=z.length->f.offset+n<=z.length->(g=false->((z.drop f.offset).take n).length=1)->(part f.type cz.toArray f.offset).run P w = .ok (pv g ((cz.drop f.offset).take n)) w:=fun {z cz} hl hz ho=>by
         unfold Go.part;simp only[Sem.run_bind,g1 w,Result.andThen_ok];cases g with
         |true =>
          have e:cz.toArray.extract f.offset (f.offset+n)=((cz.drop f.offset).take n).toArray:=by
           rw[List.extract_toArray,List.extract_eq_take_drop];congr 2;omega
          simp only[if_true,Sem.run_bind,yC hs,Result.andThen_ok,Sem.run_pure,e,pv]
         |false =>
          have h1:=ho rfl;simp only[List.length_take,List.length_drop] at h1;have hlt:f.offset<cz.length:=(by omega)
          have e:(cz.drop f.offset).take n=cz[f.offset]::((cz.drop (f.offset+1)).take (n-1)):=by
           rw[List.drop_eq_getElem_cons hlt];cases n with
           |zero=>omega
           |succ n=>rw[List.take_succ_cons];simp only[Nat.add_sub_cancel]
          simp only[Bool.false_eq_true,if_false,List.getElem?_toArray,List.getElem?_eq_getElem hlt,Sem.run_pure,pv,e,List.headD_cons]
        rw[Op.eqFields,if_pos hn];simp only[Sem.run_bind,part hlx.symm hle.1 (λq=>(g2 q).1),part hly.symm hle.2 (λq=>(g2 q).2),Result.andThen_ok,g3 k];cases a
        ·rfl
        ·simpa using ih _ h2
       ·cases h
      ·cases h
     ·cases h
  ·rename_i hu;split at h
   ·rename_i k a k' b;split at h
    ·rename_i hk;subst hk;injection h with h;subst h;simp only[RL,RV] at hx hy;obtain⟨_,_,rfl,rfl,rfl⟩:=hx;obtain⟨_,_,rfl,rfl,rfl⟩:=hy;exact⟨false,mr hu,by simp,λj=>by rw[ek];exact run_equalIn_int w (d+j) t _ _ a b hu⟩
    ·cases h
   ·cases h
  ·rename_i hu;split at h
   ·rename_i a b;injection h with h;subst h;simp only[RL,RV] at hx hy;obtain⟨_,_,rfl,rfl,rfl⟩:=hx;obtain⟨_,_,rfl,rfl,rfl⟩:=hy;exact⟨false,mr hu,by simp,λj=>by rw[ek];exact run_equalIn_bool w (d+j) t a b hu⟩
   ·cases h
  ·rename_i hu;split at h
   ·rename_i a b;injection h with h;subst h;simp only[RL,RV] at hx hy;obtain⟨_,_,rfl,rfl,rfl⟩:=hx;obtain⟨_,_,rfl,rfl,rfl⟩:=hy;exact⟨false,mr hu,by simp,λj=>by rw[ek,beq_toListBytes];exact run_equalIn_string w (d+j) t a b hu⟩
   ·cases h
  ·cases h
def qb (k:IntKind)(r:BitVec k.bits): Eff:=.val (.int k (k.wrap r.toNat))
def tQ (P:Program)(t:TypeId)(op:BinOp): AV->AV->Eff
 |.int k a,.int k' b=>match op with
  |.shl=>.req (0<=b) (.val (.int k (k.wrap (a*2 ^ (min b.toNat k.bits)))))
  |.shr=>.req (0<=b) (.val (.int k (a.fdiv (2 ^ (min b.toNat k.bits)))))
  |op=>if k=k' then(match op with
   |.add=>.val (.int k (k.wrap (a+b)))
   |.sub=>.val (.int k (k.wrap (a-b)))
   |.mul=>.val (.int k (k.wrap (a*b)))
   |.quo=>.req (b≠0) (.val (.int k (k.wrap (a.tdiv b))))
   |.rem=>.req (b≠0) (.val (.int k (a.tmod b)))
   |.and=>qb k (BitVec.ofInt k.bits a &&& BitVec.ofInt k.bits b)
   |.or=>qb k (BitVec.ofInt k.bits a ||| BitVec.ofInt k.bits b)
   |.xor=>qb k (BitVec.ofInt k.bits a ^^^ BitVec.ofInt k.bits b)
   |.andNot=>qb k (BitVec.ofInt k.bits a &&& ~~~BitVec.ofInt k.bits b)
   |.eql=>.val (.bool (a==b))
   |.neq=>.val (.bool (a != b))
   |.lss=>.val (.bool (decide (a<b)))
   |.leq=>.val (.bool (decide (a<=b)))
   |.gtr=>.val (.bool (decide (a>b)))
   |.geq=>.val (.bool (decide (a ≥ b)))
   |_=>.no) else .no
 |.bool a,.bool b=>match P.underlying t with
  |some .bool=>(match op with
   |.eql=>.val (.bool (a==b))
   |.neq=>.val (.bool (a != b))
   |_=>.no)
  |_=>.no
 |.agg x,.agg y=>if P.eqGuardType P.depth t then .no else match rZ P t,eqT P 8 t x y with
  |some true,some r=>(match op with
   |.eql=>.val (.bool r)
   |.neq=>.val (.bool !r)
   |_=>.no)
  |_,_=>.no
 |.nils,.nils=>match P.underlying t with
  |some (.slice _)=>(match op with
   |.eql=>.val (.bool true)
   |.neq=>.val (.bool false)
   |_=>.no)
  |_=>.no
 |.nv _ _,.nils=>match P.underlying t with
  |some (.slice _)=>(match op with
   |.eql=>.val (.bool false)
   |.neq=>.val (.bool true)
   |_=>.no)
  |_=>.no
 |.str a,.str b=>match P.underlying t with
  |some .string=>(match op with
   |.eql=>.val (.bool (a==b))
   |.neq=>.val (.bool !(a==b))
   |_=>.no)
  |_=>.no
 |_,_=>.no
def aun (op:UnOp): AV->Eff
 |.bool b=>(match op with|.not=>.val (.bool !b)|_=>.no)
 |.int k n=>(match op with
  |.neg=>.val (.int k (k.wrap (0-n)))
  |.xor=>qb k (BitVec.ofInt k.bits (if k.signed then -1 else k.max) ^^^ BitVec.ofInt k.bits n)
  |_=>.no)
 |_=>.no
def ni (d:Nat)(H:Hp)(t:TypeId)(v:AV): Eff:=match yo v with
 |some c=>.req (H (.l d)=none) (.mk (.l d) (λb _=>⟨b,1,c.length,t,[c],false⟩) (λb _=>.ptr (.l d) b c.length 0 0))
 |none=>.no
def xS (H:Hp): AV->Option (List AV)
 |.ptr i b sz r j=>match H i with
  |some o=>if o.b=b/\o.sz=sz then(o.rows[r]?).map (·.drop j) else none
  |none=>none
 |.rp l=>some l
 |_=>none
def yT (P:Program)(t:TypeId)(H:Hp)(p:AV): Eff:=match xS H p with
 |some l=>tj P t l
 |none=>.no
def t6 (P:Program)(t:TypeId)(H:Hp)(p v:AV): Eff:=match p with
 |.ptr i b sz r j=>(match H i with
  |some o=>(match o.rows[r]?,yo v,xN P t with
   |some row,some c,some n=>.req (o.b=b/\o.sz=sz/\o.fz=false/\c.length=n/\j+n<=row.length)
     (.wr i { o with rows:=o.rows.set r (row.take j++(c++row.drop (j+n))) } .any)
   |_,_,_=>.no)
  |none=>.no)
 |_=>.no
def t7 (P:Program)(t:TypeId)(k:Nat): AV->Eff:=λp=>match P.underlying t with
 |some (.struct fs)=>(match fs[k]? with
  |some f=>(match xN P f.type with
   |some (_+1)=>(match p with
    |.ptr i b sz r j=>.val (.ptr i b sz r (j+f.offset))
    |.rp l=>.val (.rp (l.drop f.offset))
    |.agg l=>tj P f.type (l.drop f.offset)
    |_=>.no)
   |_=>.no)
  |none=>.no)
 |_=>.no
def vH (P:Program)(t:TypeId)(x:AV)(i:Int): Eff:=match P.underlying t with
 |some (.slice e)=>(match xN P e with
  |some s=>(match x with
   |.vec sz l=>.req (0<=i/\s=sz) (.row l i.toNat .rp)
   |.sl j b sz n _=>.req (0<=i/\i<n/\s=sz) (.val (.ptr j b sz i.toNat 0))
   |_=>.no)
  |none=>.no)
 |some (.array n e)=>(match xN P e with
  |some s=>(match x with
   |.ptr j b sz r o=>.req (0<=i/\i<n) (.val (.ptr j b sz r (o+i.toNat*s)))
   |.rp l=>.req (0<=i/\i<n) (.val (.rp (l.drop (i.toNat*s))))
   |.agg l=>.req (0<=i/\i<n) (tj P e (l.drop (i.toNat*s)))
   |_=>.no)
  |none=>.no)
 |_=>.no
theorem VL(d:P.underlying t=some .bool)(a b:Bool)(w:World): (Op.equal t (.bool a) (.bool b)).run P w = .ok (a==b) w:=by
 show(Op.equalIn (9999+1) t _ _).run P w=_;rw[Op.equalIn];simp only[Sem.run_bind,run_underlying d,Result.andThen_ok];rfl
theorem okI {P:Program}{H:Hp}{k:IntKind}{n:Int}(h:run = .ok (.value (.int k n)) w): ∃a,run = .ok (.value a) w/\RV (zp X H) w (.int k n) a:=⟨_,h,by simp only[RV]⟩
theorem okB {P:Program}{H:Hp}{n:Bool}(h:run = .ok (.value (.bool n)) w): ∃a,run = .ok (.value a) w/\RV (zp X H) w (.bool n) a:=⟨_,h,by simp only[RV]⟩
theorem lJ{t e:TypeId}(h:P.underlying t=some (.slice e))(a:Option Addr)(l c:Nat)(w:World): (Op.equal t (.slice a l c) (.slice none 0 0)).run P w = .ok a.isNone w:=by
 show(Op.equalIn (9999+1) t _ _).run P w=_;rw[Op.equalIn];simp only[Sem.run_bind,run_underlying h,Result.andThen_ok];cases a<;>rfl
theorem Oc{H:Hp}{op:BinOp}{x y:AV}{u v:Value}(hx:RV (zp X H) w x u)(e:RV (zp X H) w y v){ex ey:Operand}
  (d:run=(do let z <-(do eqGuard op t ex ey u v;binOp op t u v);pure (Next.value z):Sem Next).run P w):(tQ P t op x y).Ok P X H w run:=by
 cases x<;>cases y<;>try(simp only[tQ,Eff.Ok];done)
 ·rename_i k a k' b;simp only[RV] at hx e;subst hx e;by_cases j:k=k'
  ·subst j;cases op<;>simp only[tQ,if_true,qb,Eff.Ok];all_goals first
    |(intro hb;(first|refine okI (P:=P) ?_|refine okB (P:=P) ?_);rw[d];simp[eqGuard,binOp,Op.shift,Op.intDiv,Int.not_lt.2 hb];done)
    |(intro hb;(first|refine okI (P:=P) ?_|refine okB (P:=P) ?_);rw[d];simp[eqGuard,binOp,Op.intDiv,hb];done)
    |((first|refine okI (P:=P) ?_|refine okB (P:=P) ?_);rw[d];simp[eqGuard,binOp,Op.intArith,Op.intBits,Op.intCmp];done)
  ·cases op<;>simp only[tQ,if_neg j,Eff.Ok];all_goals(intro hb;(first|refine okI (P:=P) ?_|refine okB (P:=P) ?_);rw[d];simp[eqGuard,binOp,Op.shift,Int.not_lt.2 hb])
 ·rename_i a b;simp only[RV] at hx e;subst hx e;simp only[tQ];split
  ·rename_i h;cases op<;>simp only[Eff.Ok] <;>
   ·(first|refine okI (P:=P) ?_|refine okB (P:=P) ?_);rw[d];simp[eqGuard,binOp,VL h,bne]
  ·exact trivial
 ·rename_i a b;simp only[RV] at hx e;subst hx e;simp only[tQ];split
  ·rename_i h;cases op<;>simp only[Eff.Ok] <;>
   ·refine okB (P:=P) ?_;rw[d];simp[eqGuard,binOp,Op.stringOp,beq_toListBytes]
  ·exact trivial
 ·rename_i x y;simp only[RV] at hx e;obtain⟨m,rfl,hx⟩:=hx;obtain⟨n,rfl,e⟩:=e;simp only[tQ];split
  ·exact trivial
  rename_i D;split
  ·rename_i r C E;obtain⟨g,o,_,q⟩:=Tb 8 E hx e;have i:=o w;rw[qx C] at i;injection i with i;subst i;have A:(Op.equal t (.agg m.toArray) (.agg n.toArray)).run P w = .ok r w:=q 9992;have B:P.eqGuardType P.depth t=false:=by simpa using D
   cases op<;>simp only[Eff.Ok] <;>
   ·refine okB (P:=P) ?_;rw[d];simp[eqGuard,binOp,A,B]
  ·exact trivial
 ·simp only[RV] at hx e;subst hx e;simp only[tQ];split
  ·rename_i h;cases op<;>simp only[Eff.Ok] <;>
   ·refine okB (P:=P) ?_;rw[d];simp[eqGuard,binOp,lJ h]
  ·exact trivial
 ·simp only[RV] at hx e;subst e;obtain⟨p,cap,rfl,_⟩:=hx;simp only[tQ];split
  ·rename_i h;cases op<;>simp only[Eff.Ok] <;>
   ·refine okB (P:=P) ?_;rw[d];simp[eqGuard,binOp,lJ h]
  ·exact trivial
theorem Ml{H:Hp}{op:UnOp}{x:AV}(hx:RV (zp X H) w x u)
  (a:run=(do let z <-Op.unary op u;pure (Next.value z):Sem Next).run P w):(aun op x).Ok P X H w run:=by
 cases x<;>try(simp only[aun,Eff.Ok];done)
 all_goals
  simp only[RV] at hx;subst hx;cases op<;>simp only[aun,qb,Eff.Ok] <;>
  ·(first|refine okI (P:=P) ?_|refine okB (P:=P) ?_);rw[a];simp[Op.unary,Op.intArith,Op.intBits]
theorem aL{H:Hp}{p:AV}(k:HOk X H w)(hx:RV (zp X H) w p u)
  (a:run=(do let z <-Instr.loadAt t u;pure (Next.value z):Sem Next).run P w):(yT P t H p).Ok P X H w run:=by
 unfold yT;split
 ·rename_i l hl;cases p<;>simp only[xS] at hl<;>try(cases hl;done)
  ·rename_i i b sz r j;simp only[RV] at hx;subst hx;split at hl
   ·rename_i o m;split at hl
    ·rename_i y;obtain⟨rfl,rfl⟩:=y;cases g:o.rows[r]? with
     |none=>rw[g] at hl;cases hl
     |some row =>
      rw[g] at hl;simp at hl;subst hl;have d:o.cap≠0:=λe=>by rw[(k.ob i o m).1 e] at g;simp at g
      obtain⟨c,B,C,D,x⟩:=(k.ob i o m).2 d;obtain⟨k1,cs,n,h⟩:=x.get g;refine aK (n.drop j) (h.drop j) ?_;rw[a];simp[Instr.loadAt,Instr.sureAddr]
    ·cases hl
   ·cases hl
  ·rename_i q;injection hl with hl;subst hl;simp only[RV] at hx;obtain⟨b,o,cs,rfl,k1,n,h,A⟩:=hx;refine aK h A ?_;rw[a];simp[Instr.loadAt,Instr.sureAddr]
 ·trivial
theorem RR.set {X:Nat->Prop}{w w':World}{j:Nat->Prop}(i:Ev X w j w'){b sz:Nat}{g:List AV}{cs':List Value}(hl:g.length=sz)(x:RL j w' g cs'): ∀ {l:List (List AV)} {off:Nat} {r:Nat},RR X w b off sz l->r<l.length ->
  yL w' b (off+r*sz) cs'->(∀o cs,(o+cs.length<=off+r*sz\/off+r*sz+sz<=o)->yL w b o cs->yL w' b o cs)->RR j w' b off sz (l.set r g)
 |[],off,r,h,hlt,_,_=>by simp at hlt
 |q::l,off,0,h,hlt,hc,hk=>by
  simp only[RR,List.set_cons_zero,Nat.zero_mul,Nat.add_zero] at *;refine⟨hl,⟨cs',x,hc⟩,?_⟩;have p:∀(l:List (List AV)) (d:Nat),off+sz<=d->RR X w b d sz l->RR j w' b d sz l:=by
   intro l;induction l with
   |nil=>intro _ _ _;simp[RR]
   |cons a l ih =>
    intro d y h;simp only[RR] at *;obtain⟨k1,⟨cs,k,m⟩,n⟩:=h;exact⟨k1,⟨cs,RL.mono i _ _ k,hk _ _ (Or.inr y) m⟩,ih _ (by omega) n⟩
  exact p l _ (Nat.le_refl _) h.2.2
 |q::l,off,r+1,h,hlt,hc,hk=>by
  simp only[RR,List.set_cons_succ] at *;obtain⟨k1,⟨cs,k,m⟩,n⟩:=h;have e:off+(r+1)*sz=off+sz+r*sz:=by rw[Nat.succ_mul];omega
  rw[e] at hc hk;refine⟨k1,⟨cs,RL.mono i _ _ k,hk _ _ (Or.inl ?_) m⟩,RR.set i hl x n (by simpa using hlt) hc hk⟩;have:=k.length;omega
theorem xD{b o:Nat}{f:Nat×Nat}(hb:w.heap[b]?=some (.cells c t f)): yL w b o cs↔∀j,j<cs.length->c[o+j]?=cs[j]?:=by
 constructor
 ·intro h j a;have:=h j a;simp only[World.cell?,hb] at this;rw[List.getElem?_eq_getElem a];exact this
 ·intro h j a;have:=h j a;rw[List.getElem?_eq_getElem a] at this;simp only[World.cell?,hb];exact this
theorem Tc{H:Hp}{p v:AV}{u x:Value}(L:HOk X H w)(hx:RV (zp X H) w p u)(hv:RV (zp X H) w v x)
  (D:run=(do Instr.storeAt t u x;pure Next.skip:Sem Next).run P w):(t6 P t H p v).Ok P X H w run:=by
 unfold t6;cases p<;>simp only[]<;>try exact trivial
 rename_i i b sz r j;simp only[RV] at hx;subst hx;split
 ·rename_i o J;split
  ·rename_i row c n K hc hn;rintro⟨rfl,rfl,hfz,M,h8⟩;have d:o.cap≠0:=λe=>by rw[(L.ob i o J).1 e] at K;simp at K
   obtain⟨a,I,h2,h3,W⟩:=(L.ob i o J).2 d;obtain⟨k1,cs,T,U⟩:=W.get K;have R:=(List.getElem?_eq_some_iff.1 K).1;obtain⟨Z,m2⟩:=hv.cells hc;have S:=Z.length;have ha:x.cells.toList.length=x.cells.size:=by simp
   rw[Nat.zero_add] at U;have Y:=T.length;have h9:r*o.sz+o.sz<=a.size:=by rw[h2,<-Nat.succ_mul];exact Nat.mul_le_mul_right _ (by omega)
   have E:=run_storeCells_at P o.b (r*o.sz+j) o.ty x.cells.toList 0 a w I (by omega) m2;simp only[Nat.add_zero] at E;refine⟨undef,w.setRow o.b (a.toList.take (r*o.sz+j)++x.cells.toList++a.toList.drop (r*o.sz+j+x.cells.toList.length)).toArray,Or.inr ⟨?_,rfl⟩,?_⟩
   ·rw[D];have G:x.cells.size=n:=by rw[<-M,S];simp
    simp[Instr.storeAt,Instr.sureAddr,storeVar,yC hn,G,E]
   ·have g:=setRow_heap w o.b a (a.toList.take (r*o.sz+j)++x.cells.toList++a.toList.drop (r*o.sz+j+x.cells.toList.length)).toArray o.ty (0,0) I;have B:∀k,k≠o.b->(w.setRow o.b (a.toList.take (r*o.sz+j)++x.cells.toList++a.toList.drop (r*o.sz+j+x.cells.toList.length)).toArray).heap[k]?=w.heap[k]?:=λk hk=>setRow_other w o.b k _ hk;have:=HOk.put (i:=i) (o:={ o with rows:=o.rows.set r (row.take j++(c++row.drop (j+n))) }) L (w':=w.setRow o.b (a.toList.take (r*o.sz+j)++x.cells.toList++a.toList.drop (r*o.sz+j+x.cells.toList.length)).toArray) rfl rfl rfl (by simp) hfz
     (λb hb h5 h6=>B b (λe=>h6 d e.symm)) (λ_=>Or.inr ⟨o,J,d,hfz,rfl⟩) (λp hp _=>by rw[J] at hp;injection hp with hp;subst hp;exact hfz) ?_
    ·exact⟨this.1,this.2,by simp only[RV]⟩
    ·intro m;refine⟨λh=>absurd h d,λ_=>⟨_,g,?_,by simpa using h3,?_⟩⟩
     ·simp only[List.size_toArray,List.length_append,List.length_take,List.length_drop,Array.length_toList];omega
     ·refine RR.set (cs':=cs.take j++(x.cells.toList++cs.drop (j+n))) m ?_ ?_ W R ?_ ?_
      ·simp only[List.length_append,List.length_take,List.length_drop];omega
      ·exact(RL.mono m _ _ (T.take j)).append ((RL.mono m _ _ Z).append (RL.mono m _ _ (T.drop (j+n))))
      ·rw[xD g];rw[xD I] at U;intro q C;have O:q<cs.length:=by simp only[List.length_append,List.length_take,List.length_drop] at C;omega
       have A:=U q O;rw[Array.getElem?_eq_getElem (by omega)] at A;simp only[Nat.zero_add,List.append_assoc,List.getElem?_toArray];have e1:(a.toList.take (r*o.sz+j)).length=r*o.sz+j:=by simp;omega
       have e2:(cs.take j).length=j:=by simp;omega
       by_cases c1:q<j
       ·rw[List.getElem?_append_left (by omega),List.getElem?_append_left (by omega),List.getElem?_take_of_lt (by omega),List.getElem?_take_of_lt c1,<-A];simp[show r*o.sz+q<a.size by omega]
       ·rw[List.getElem?_append_right (l₁:=List.take (r*o.sz+j) a.toList) (by omega),List.getElem?_append_right (l₁:=List.take j cs) (by omega),e1,e2,show r*o.sz+q-(r*o.sz+j)=q-j by omega];by_cases c2:q-j<x.cells.toList.length
        ·rw[List.getElem?_append_left c2,List.getElem?_append_left c2]
        ·rw[List.getElem?_append_right (l₁:=x.cells.toList) (by omega),List.getElem?_append_right (l₁:=x.cells.toList) (by omega),List.getElem?_drop,List.getElem?_drop];rw[show r*o.sz+j+x.cells.toList.length+(q-j-x.cells.toList.length)=r*o.sz+q by omega,show j+n+(q-j-x.cells.toList.length)=q by omega,<-A];simp[show r*o.sz+q<a.size by omega]
      ·intro V h7 y z;rw[xD g];rw[xD I] at z;intro q C;rw[<-z q C];have:V+q<a.size:=by
        have:=z q C
        rw[List.getElem?_eq_getElem C] at this;exact(Array.getElem?_eq_some_iff.1 this).1
       simp only[Nat.zero_add,List.append_assoc,List.getElem?_toArray] at y ⊢;rcases y with hd|hd
       ·rw[List.getElem?_append_left (by simp;omega),List.getElem?_take_of_lt (by omega)];simp
       ·rw[List.getElem?_append_right (by simp;omega)];simp only[List.length_take,Array.length_toList];rw[List.getElem?_append_right (by omega),List.getElem?_drop];rw[show r*o.sz+j+x.cells.size+(V+q-min (r*o.sz+j) a.size-x.cells.toList.length)=V+q by omega];simp
  ·trivial
 ·trivial
theorem HOk.new{H:Hp}{i:Id}{o:Ob}(q:HOk X H w)(hn:H i=none)(hb:o.b=w.heap.size)(hfz:o.fz=false)
  (w0:World) (j:w0.heap=w.heap/\w0.os=w.os/\w0.tape=w.tape/\w0.output=w.output)
  (x:o.cap=0->o.rows = []) (hs:c.size=o.cap*o.sz) (d:o.rows.length<=o.cap) (r:∀F w',Ev (zp X H) w F w'->(w'.heap[w.heap.size]?=some (.cells c o.ty (0,0)))->RR F w' w.heap.size 0 o.sz o.rows) :
  HOk X (ze H i o) (w0.alloc (.cells c o.ty))/\Ev (own H) w (own (ze H i o)) (w0.alloc (.cells c o.ty)):=by
 obtain⟨g,k,m,n⟩:=j;have a:(w0.alloc (.cells c o.ty)).heap[w.heap.size]?=some (.cells c o.ty):=by rw[<-g];exact heap_alloc_new w0 _
 have e:∀b,b<w.heap.size->(w0.alloc (.cells c o.ty)).heap[b]?=w.heap[b]?:=λb hb=>by rw[<-g] at hb ⊢;exact heap_alloc_old w0 _ hb
 refine HOk.put q k m n (by rw[<-g];simp) hfz (λb hb _ _=>e b hb) (λ_=>Or.inl (by omega)) (λp hp=>by rw[hn] at hp;cases hp) λh=>⟨x,λy=>⟨c,by rw[hb];exact a,hs,d,?_⟩⟩
 rw[hb];exact r _ _ h a
theorem Mm{b:Nat}{l:List AV}(h:w.heap[b]?=some (.cells c t (0,0)))(hl:RL F w l c.toList): RR F w b 0 l.length [l]:=by
 simp only[RR,and_true,true_and];refine⟨c.toList,hl,?_⟩;rw[xD h];intro j a;simp
theorem W9{H:Hp}{d:Nat}{v:AV}(j:HOk X H w)(m:RV (zp X H) w v u)
  (a:run=(do let z <-Instr.box t u;pure (Next.value z):Sem Next).run P w):(ni d H t v).Ok P X H w run:=by
 unfold ni;split
 ·rename_i c k;intro hn;obtain⟨h,p⟩:=m.cells k;have b:=h.length;have e:c.length=u.cells.size:=by rw[b];simp
  obtain⟨k1,n⟩:=HOk.new (i:=.l d) (o:=⟨w.heap.size,1,c.length,t,[c],false⟩) (c:=u.cells) j hn rfl rfl w ⟨rfl,rfl,rfl,rfl⟩ (by simp) (by simp[e]) (by simp) (λF w' g hb=>Mm hb (RL.mono g _ _ h));refine⟨w.heap.size,0,.pointer (some ⟨w.heap.size,0,none⟩),w.alloc (.cells u.cells t),?_,k1,n,by simp[RV]⟩;rw[a];simp[Instr.box,newVar,newRow]
 ·trivial
def sU (P:Program)(d:Nat)(H:Hp)(t:TypeId): Eff:=match vq P t with
 |some z=>ni d H t (nh z)
 |none=>.no
theorem Td{H:Hp}{d:Nat}(b:HOk X H w)
  (a:run=(do let z <-Instr.alloc t true (.tuple #[]);pure (Next.value z):Sem Next).run P w):(sU P d H t).Ok P X H w run:=by
 unfold sU;split
 ·rename_i z e;refine W9 b (RV.avOf _ _ z) ?_;rw[a];simp[Instr.alloc,Instr.box,vx e]
 ·trivial
theorem WA{H:Hp}{l:List AV}{o:Nat}(hl:RL (zp X H) w l cs)
  (b:run=(do let z <-part t cs.toArray o;pure (Next.value z):Sem Next).run P w):(tj P t (l.drop o)).Ok P X H w run:=by
 unfold tj;cases d:rZ P t with
 |none=>trivial
 |some g =>
  cases g with
  |false =>
   cases m:l.drop o with
   |nil=>trivial
   |cons a r =>
    have h:l[o]?=some a:=by have:=List.getElem?_drop (xs:=l) (i:=o) (j:=0);rw[m] at this;simpa using this.symm
    obtain⟨c,k,p⟩:=hl.get h;refine⟨c,?_,p⟩;rw[b];simp[part,qx d,k]
  |true =>
   cases hs:xN P t with
   |none=>trivial
   |some n =>
    intro hn;refine⟨.agg ((cs.drop o).take n).toArray,?_,by simp only[RV];exact⟨_,rfl,(hl.drop o).take n⟩⟩;have e:cs.toArray.extract o (o+n)=((cs.drop o).take n).toArray:=by
     rw[List.extract_toArray,List.extract_eq_take_drop];congr 2;omega
    rw[b];simp[part,qx d,yC hs,e,-List.extract_toArray]
theorem c8{H:Hp}{k:Nat}{p:AV}(hx:RV (zp X H) w p u)
  (d:∀(a:Addr),u = .pointer (some a)->run=(do let z <-Instr.fieldAt t u k;pure (Next.value z):Sem Next).run P w)
  (h:∀cs,u = .agg cs->run=(do let z <-Instr.field t u k;pure (Next.value z):Sem Next).run P w):(t7 P t k p).Ok P X H w run:=by
 unfold t7;split<;>try trivial
 rename_i fs g;split<;>try trivial
 rename_i f n;split<;>try trivial
 rename_i m hm;cases p<;>try trivial
 ·rename_i l;simp only[RV] at hx;obtain⟨cs,rfl,hl⟩:=hx;refine WA hl ?_;rw[h _ rfl];simp[Instr.field,run_underlying g,n,asAgg]
 ·rename_i i b sz r j;simp only[RV] at hx;subst hx;refine⟨.pointer (some ⟨b,r*sz+(j+f.offset),none⟩),?_,by simp[RV]⟩;rw[d _ rfl];have e:({ block:=b,off:=r*sz+j }:Addr).add f.offset=⟨b,r*sz+(j+f.offset),none⟩:=by rw[Addr.add_lit,Nat.add_assoc]
  simp[Instr.fieldAt,run_underlying g,n,Instr.sureAddr,fieldPlace,yC hm,e]
 ·rename_i l;simp only[RV] at hx;obtain⟨b,o,cs,rfl,k1,q,x,y⟩:=hx;refine⟨.pointer (some ⟨b,o+f.offset,none⟩),?_,by simp only[RV];exact⟨b,_,_,rfl,k1,q,x.drop f.offset,y.drop f.offset⟩⟩;rw[d _ rfl];simp[Instr.fieldAt,run_underlying g,n,Instr.sureAddr,fieldPlace,yC hm,Addr.add_lit]
theorem cB{H:Hp}{x:AV}{kd:IntKind}{i:Int}(hx:RV (zp X H) w x u)
  (d:(∀cs,u≠.agg cs)->run=(do let z <-Instr.indexAt t u (.int kd i);pure (Next.value z):Sem Next).run P w)
  (m:∀cs,u = .agg cs->run=(do let z <-Instr.index t u (.int kd i);pure (Next.value z):Sem Next).run P w):(vH P t x i).Ok P X H w run:=by
 unfold vH;split
 ·rename_i e k;split<;>try trivial
  rename_i s hs;cases x<;>try trivial
  ·rename_i sz l;rintro⟨g,rfl⟩ r D;simp only[RV] at hx;obtain⟨a,cap,rfl,h,C,G,I⟩:=hx;obtain⟨y,_⟩:=List.getElem?_eq_some_iff.1 D;cases a with
   |none=>have:=G rfl;omega
   |some p =>
    obtain⟨b,off,rfl,k1,A,B⟩:=I p rfl (λe=>by subst e;simp at y);obtain⟨S,cs,L,M⟩:=B.get D;refine⟨.pointer (some ⟨b,off+i.toNat*s,none⟩),?_,by simp only[RV];exact⟨b,_,cs,rfl,k1,A,L,M⟩⟩;rw[d (λ_=>by simp)];have q:i<(l.length:Int):=(by omega)
    simp[Instr.indexAt,asIntOf,run_underlying k,g,q,yC hs,Addr.add_lit]
  ·rename_i j b sz n cap;rintro⟨g,h,rfl⟩;simp only[RV] at hx;obtain⟨R,_,a,rfl,C⟩:=hx;rcases C with rfl|⟨rfl,O⟩
   ·refine⟨.pointer (some ⟨b,i.toNat*s+0,none⟩),?_,by simp[RV]⟩;rw[d (λ_=>by simp)];simp[Instr.indexAt,asIntOf,run_underlying k,g,h,yC hs,Addr.add_lit]
   ·omega
 ·rename_i n e k;split<;>try trivial
  rename_i s hs;cases x<;>try trivial
  ·rename_i l;rintro⟨g,h⟩;simp only[RV] at hx;obtain⟨cs,rfl,hl⟩:=hx;refine WA hl ?_;rw[m _ rfl];simp[Instr.index,asIntOf,run_underlying k,g,h,yC hs]
  ·rename_i j b sz r o;rintro⟨g,h⟩;simp only[RV] at hx;subst hx;refine⟨.pointer (some ⟨b,r*sz+(o+i.toNat*s),none⟩),?_,by simp[RV]⟩;rw[d (λ_=>by simp)];have E:({ block:=b,off:=r*sz+o }:Addr).add (i.toNat*s)=⟨b,r*sz+(o+i.toNat*s),none⟩:=by rw[Addr.add_lit,Nat.add_assoc]
   simp[Instr.indexAt,asIntOf,run_underlying k,g,h,yC hs,Instr.sureAddr,E]
  ·rename_i l;rintro⟨g,h⟩;simp only[RV] at hx;obtain⟨b,o,cs,rfl,k1,A,B,K⟩:=hx;refine⟨.pointer (some ⟨b,o+i.toNat*s,none⟩),?_,by simp only[RV];exact⟨b,_,cs.drop (i.toNat*s),rfl,k1,A,B.drop _,λj J=>by
    rw[List.getElem_drop,<-K (i.toNat*s+j) (by rw[List.length_drop] at J;omega),Nat.add_assoc]⟩⟩
   rw[d (λ_=>by simp)];simp[Instr.indexAt,asIntOf,run_underlying k,g,h,yC hs,Instr.sureAddr,Addr.add_lit]
 ·trivial
theorem yL.append{b o:Nat}{cs ds:List Value}(h:yL w b o cs)(k:yL w b (o+cs.length) ds): yL w b o (cs++ds):=λj a=>by
 by_cases c:j<cs.length
 ·rw[h j c,List.getElem_append_left c]
 ·have:=k (j-cs.length) (by simp at a;omega)
  rw[show o+cs.length+(j-cs.length)=o+j by omega] at this;rw[this,List.getElem_append_right (by omega)]
theorem RR.flat{b sz:Nat}: ∀ {l:List (List AV)} {off:Nat},RR X w b off sz l->∃cs,RL X w l.flatten cs/\yL w b off cs/\cs.length=l.length*sz
 |[],off,h=>⟨[],by simp[RL],λj d=>by simp at d,by simp⟩
 |q::l,off,h=>by
  simp only[RR] at h;obtain⟨k1,⟨cs,a,e⟩,g⟩:=h;obtain⟨ds,i,k,m⟩:=g.flat
  have hl:=a.length;refine⟨cs++ds,by simpa using a.append i,e.append (by rw[<-hl,k1];exact k),?_⟩;simp only[List.length_append,m,List.length_cons,Nat.succ_mul];omega
theorem RR.rows{b sz:Nat}: ∀ {l:List (List AV)} {off:Nat},RR X w b off sz l->∀r∈l,r.length=sz
 |[],off,h,r,a=>by cases a
 |q::l,off,h,r,a=>by
  simp only[RR] at h;rcases List.mem_cons.1 a with rfl|a
  ·exact h.1
  ·exact h.2.2.rows r a
theorem uU {X:Nat->Prop}{w:World}{b sz:Nat}: ∀ {l:List (List AV)} {off:Nat} {cs:List Value},(∀r∈l,r.length=sz)->RL X w l.flatten cs->yL w b off cs->RR X w b off sz l
 |[],off,cs,_,_,_=>by simp[RR]
 |q::l,off,cs,hl,h,hc=>by
  have e:=hl q (by simp);have a:=h.take q.length;have d:=h.drop q.length;simp only[List.flatten_cons,List.take_left,List.drop_left] at a d;simp only[RR];refine⟨e,⟨_,a,hc.take _⟩,uU (λr g=>hl r (by simp[g])) d ?_⟩;rw[<-e];exact hc.drop _
def qc (H:Hp)(s:Nat): AV->Option (Prop×List (List AV))
 |.vec sz l=>some (sz=s\/l = [],l)
 |.nils=>some (True,[])
 |.nv sz l=>some (sz=s,l)
 |.sl i b sz n cap=>(H i).map λo=>(o.b=b/\o.cap=cap/\o.sz=sz/\sz=s/\n<=o.rows.length,o.rows.take n)
 |.so i b sz r n cap=>(H i).map λo=>(o.b=b/\o.sz=sz/\sz=s/\r+n<=o.rows.length,(o.rows.drop r).take n)
 |_=>none
theorem jZ{H:Hp}{v:AV}{c:Prop}{l:List (List AV)}(z:HOk X H w)(j:RV (zp X H) w v u)(h:qc H s v=some (c,l))(A:c):
  ∃a cap,u = .slice a l.length cap/\l.length<=cap/\(l≠[]->∃b off,a=some ⟨b,off,none⟩/\RR (zp X H) w b off s l):=by
 cases v<;>simp only[qc] at h<;>try(cases h;done)
 ·injection h with h;injection h with k m;subst k m;simp only[RV] at j;subst j;exact⟨none,0,rfl,Nat.le_refl _,λh=>absurd rfl h⟩
 ·injection h with h;injection h with k m;subst k m;simp only[RV] at j;obtain⟨a,cap,rfl,k1,x,I,B⟩:=j;refine⟨a,cap,rfl,k1,λd=>?_⟩;rcases A with rfl|rfl
  ·cases a with
   |none =>
    have:=I rfl
    rename_i l;cases l with
    |nil=>exact absurd rfl d
    |cons=>simp at k1;omega
   |some p =>
    obtain⟨b,off,rfl,C,D,y⟩:=B p rfl d;exact⟨b,off,rfl,y⟩
  ·exact absurd rfl d
 ·injection h with h;injection h with k m;subst k m;simp only[RV] at j;obtain⟨p,cap,rfl,k1,x,B⟩:=j;refine⟨some p,cap,rfl,k1,λd=>?_⟩;obtain⟨b,off,rfl,C,D,y⟩:=B d;subst A;exact⟨b,off,rfl,y⟩
 ·rename_i i b sz n cap;cases q:H i with
  |none=>rw[q] at h;cases h
  |some o =>
   rw[q] at h;injection h with h;injection h with k m;subst k m;obtain⟨rfl,rfl,rfl,rfl,hn⟩:=A;simp only[RV] at j;obtain⟨k1,_,a,rfl,x⟩:=j;have hl:(o.rows.take n).length=n:=by simp;omega
   refine⟨a,o.cap,by rw[hl],by rw[hl];exact k1,λd=>?_⟩;have g:o.cap≠0:=λe=>by
    have:=(z.ob i o q).1 e
    rw[this] at d;simp at d
   rcases x with rfl|e
   ·obtain⟨c,C,D,y,E⟩:=(z.ob i o q).2 g;exact⟨o.b,0,rfl,E.take n⟩
   ·exact absurd e g
 ·rename_i i b sz r n cap;cases q:H i with
  |none=>rw[q] at h;cases h
  |some o =>
   rw[q] at h;injection h with h;injection h with k m;subst k m;obtain⟨rfl,rfl,rfl,hn⟩:=A;simp only[RV] at j;obtain⟨k1,_,a,rfl,x⟩:=j;have hl:((o.rows.drop r).take n).length=n:=by simp;omega
   refine⟨a,cap,by rw[hl],by rw[hl];exact k1,λd=>?_⟩;have G:n≠0:=λe=>d (by rw[e];simp);have g:o.cap≠0:=λe=>by
    have:=(z.ob i o q).1 e
    rw[this] at hn;simp at hn;omega
   rcases x with rfl|e
   ·obtain⟨c,C,D,y,E⟩:=(z.ob i o q).2 g;have:=(E.drop r (by omega)).take n
    rw[Nat.zero_add] at this;exact⟨o.b,_,rfl,this⟩
   ·omega
structure SlP (P:Program)(t e:TypeId)(s:Nat): Prop where
 ut:P.underlying t=some (.slice e)
 ex:∃i z,P.info? e=some i/\i.zero=some z/\i.size=s/\i.bytes<=65536/\z.cells.size=s
theorem SlP.mk'(k:∀t,(P.types[t]?).isSome=true->P.bytesOf t<=65536){t e:TypeId}{z:Value}(ut:P.underlying t=some (.slice e))(hs:xN P e=some s)(m:vq P e=some z)(h:z.cells.size=s): SlP P t e s:=by
 refine⟨ut,?_⟩;have j:(P.types[e]?).isSome=true:=by
  unfold xN at hs;split at hs
  ·assumption
  ·cases hs
 have a:=yC hs default;have b:=vx m default;have g:=k e j;simp only[sizeOf,zeroValue,typeInfo,Sem.run_bind,pC,Result.andThen,Program.bytesOf] at a b g;cases hi:P.info? e with
 |none=>rw[hi] at a;simp[stuck,Sem.run] at a
 |some i =>
  rw[hi] at a b g;refine⟨i,z,rfl,?_,by simpa using a,by simpa using g,h⟩;cases d:i.zero with
  |none=>simp[d,unsupported,Sem.run] at b
  |some n=>simp[d] at b;rw[b]
theorem Od{t e:TypeId}(T:SlP P t e s)(w:World)(ty:TypeId)(a:Option Addr)(n cap:Nat)(xs:List Value)(O:Option Addr)(m c2:Nat)(x:List Value)
  (D:xs.length=n*s) (r:x.length=m*s) (L:n<=cap) (E:(cap:Int)<=9223372036854775807)
  (hx:(∃g d,a=some ⟨g,0,none⟩/\w.heap[g]?=some (.cells d e (0,0))/\d.size=cap*s/\d.toList.take (n*s)=xs/\0<cap)\/cap=0)
  (hy:x≠[]->∃b off,O=some ⟨b,off,none⟩/\yL w b off x) (hm:m<=c2) (hs:0<s) (h1:∀u∈x,u.oneCell'=true) (h4:n+m<=2147483648) :
  ∃a' p w',(Builtin.append_ #[t,t] ty #[.slice a n cap,.slice O m c2]).run P w = .ok (.slice a' (n+m) p) w'/\n+m<=p/\(p:Int)<=9223372036854775807/\w'.os=w.os/\w'.tape=w.tape/\w'.output=w.output/\w.heap.size<=w'.heap.size /\
   (∀k,k<w.heap.size->(cap≠0->∀g,a=some ⟨g,0,none⟩->g≠k)->w'.heap[k]?=w.heap[k]?) /\
   ((p=0/\n+m=0)\/∃g d,0<p/\a'=some ⟨g,0,none⟩/\w'.heap[g]?=some (.cells d e (0,0))/\d.size=p*s/\d.toList.take ((n+m)*s)=xs++x/\(w.heap.size<=g\/(cap≠0/\a=some ⟨g,0,none⟩))):=by
 obtain⟨i,z,hi,hz,rfl,h2,h7⟩:=T.ex;have I:(xs++x).length=(n+m)*i.size:=by rw[List.length_append,D,r,Nat.add_mul]
 by_cases K:m=0
 ·subst K;have:x = []:=List.eq_nil_of_length_eq_zero (by simpa using r)
  subst this;have G:(Builtin.append_ #[t,t] ty #[.slice a n cap,.slice O 0 c2]).run P w = .ok (.slice a n cap) w:=by
   cases a<;>cases O<;>simp[Builtin.append_,run_underlying T.ut,sizeOf,typeInfo,hi,Builtin.lenOf,L,Builtin.firstCells,loadCells,loadCellsFrom,storeCells]
  refine⟨a,cap,w,G,L,E,rfl,rfl,rfl,Nat.le_refl _,λ_ _ _=>rfl,?_⟩;rcases hx with⟨g,d,rfl,k1,k2,R,k4⟩|rfl
  ·exact Or.inr ⟨g,d,k4,rfl,k1,k2,by simpa using R,Or.inr ⟨by omega,rfl⟩⟩
  ·exact Or.inl ⟨rfl,by omega⟩
 ·have M:x≠[]:=λe=>by
   have h0:m*i.size=0:=by rw[<-r,e];rfl
   have:=Nat.mul_pos (Nat.pos_of_ne_zero K) hs
   omega
  obtain⟨b,off,rfl,h6⟩:=hy M;have q:∀j u,x[j]?=some u->w.cell? ((⟨b,off,none⟩:Addr).add j)=some u:=λj u J=>by
   obtain⟨hj,rfl⟩:=List.getElem?_eq_some_iff.1 J;rw[Addr.add_lit];exact h6 j hj
  have A:∀k,k<n+m->Builtin.nextslicecap (n+m) k*i.bytes<=281474976710656:=λk B=>growslice_fits B (by
   have:(n+m)*i.bytes<=2147483648*65536:=Nat.mul_le_mul h4 h2
   omega)
  have Z:n+m<=maxLen:=by unfold maxLen;omega
  have grown:∀h,h<n+m ->
    n+m<=grownCap w (n+m) h e/\(grownCap w (n+m) h e:Int)<=9223372036854775807 /\
    (w.drew.alloc (.cells (xs.toArray++x.toArray++Builtin.zeroCells z.cells (grownCap w (n+m) h e-(n+m))) e)).heap[w.heap.size]?=some (.cells (xs.toArray++x.toArray++Builtin.zeroCells z.cells (grownCap w (n+m) h e-(n+m))) e) /\
    (xs.toArray++x.toArray++Builtin.zeroCells z.cells (grownCap w (n+m) h e-(n+m))).size=grownCap w (n+m) h e*i.size /\
    (xs.toArray++x.toArray++Builtin.zeroCells z.cells (grownCap w (n+m) h e-(n+m))).toList.take ((n+m)*i.size)=xs++x:=by
   intro h ho;have h3:=grownCap_ge w (n+m) h e;have E:=grownCap_le_maxLen w (n+m) h e Z;refine⟨h3,by unfold maxLen at E;omega,heap_alloc_new w.drew _,?_,?_⟩
   ·simp only[Array.size_append,List.size_toArray,size_zeroCells,h7,D,r,<-Nat.add_mul];congr 1;omega
   ·simp only[Array.toList_append];rw[<-I];exact List.take_left
  have C:∀o:Obj,∀k,k<w.heap.size->(w.drew.alloc o).heap[k]?=w.heap[k]?:=λo k B=>heap_alloc_old w.drew _ B;rcases hx with⟨g,d,rfl,k1,k2,R,k4⟩|rfl
  ·by_cases y:n+m<=cap
   ·have h5:n*i.size+x.length<=d.size:=by rw[r,k2,<-Nat.add_mul];exact Nat.mul_le_mul_right _ y
    have G:=run_append_room (P:=P) w t ty e i T.ut hi g n cap d k1 ⟨b,off,none⟩ m c2 x r q h1 y h5;refine⟨_,_,_,G,y,E,rfl,rfl,rfl,by simp,λk _ B=>setRow_other w g k _ (λe=>B (by omega) g rfl e.symm),Or.inr ⟨g,_,k4,rfl,setRow_heap w g d _ e _ k1,?_,?_,Or.inr ⟨by omega,rfl⟩⟩⟩
    ·simp only[List.size_toArray,List.length_append,List.length_take,List.length_drop,Array.length_toList];omega
    ·rw[R,<-I];exact List.take_left
   ·have holds:∀j u,xs[j]?=some u->w.cell? ((⟨g,0,none⟩:Addr).add j)=some u:=λj u J=>by
     have hj:=(List.getElem?_eq_some_iff.1 J).1;rw[Addr.add_lit];simp only[World.cell?,k1,Nat.zero_add];rw[<-R,List.getElem?_take_of_lt (by omega)] at J;simpa using J
    have G:=run_append_grow (P:=P) w t ty e i z T.ut hi hz ⟨g,0,none⟩ n cap xs D holds ⟨b,off,none⟩ m c2 x r q (by omega) (by omega) (A _ (by omega));obtain⟨S,U,V,W,Y⟩:=grown cap (by omega);exact⟨_,_,_,G,S,U,rfl,rfl,rfl,by simp,λk B _=>C _ k B,Or.inr ⟨_,_,by omega,rfl,V,W,Y,Or.inl (Nat.le_refl _)⟩⟩
  ·obtain rfl:n=0:=(by omega)
   have:xs = []:=List.eq_nil_of_length_eq_zero (by simpa using D)
   subst this;obtain⟨S,U,V,W,Y⟩:=grown 0 (by omega);rcases a with _|g
   ·have G:=run_append_nil (P:=P) w t ty e i z T.ut hi hz ⟨b,off,none⟩ m c2 x r q (by omega) (by omega) (by have:=A 0 (by omega);rw[Nat.zero_add,nextslicecap_zero (by omega)] at this;exact this);simp only[Nat.zero_add,Array.empty_append,List.nil_append] at *;exact⟨_,_,_,G,S,U,rfl,rfl,rfl,by simp,λk B _=>C _ k B,Or.inr ⟨_,_,by omega,rfl,V,W,Y,Or.inl (Nat.le_refl _)⟩⟩
   ·have G:=run_append_grow (P:=P) w t ty e i z T.ut hi hz g 0 0 [] D (λj u J=>by simp at J) ⟨b,off,none⟩ m c2 x r q (by omega) (by omega) (A _ (by omega));exact⟨_,_,_,G,S,U,rfl,rfl,rfl,by simp,λk B _=>C _ k B,Or.inr ⟨_,_,by omega,rfl,V,W,Y,Or.inl (Nat.le_refl _)⟩⟩
end Go.Proofs.YtllodfoldffonaaGreatDoor.AM
