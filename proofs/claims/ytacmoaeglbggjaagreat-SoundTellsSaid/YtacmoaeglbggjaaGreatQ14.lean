/- A part of the proof. -/
import Derived.Test.YtacmoaeglbggjaaGreatQ13
namespace Go.Proofs.YtacmoaeglbggjaaGreat
open Go.RowKit
set_option linter.unusedSimpArgs false
set_option linter.unusedVariables false
set_option maxRecDepth 100000
set_option maxHeartbeats 16000000
set_option linter.unusedVariables false
theorem zff {P : Program}{ops : Array Oper}{rest : List Oper}{o : Oper}{a : Act}{w W0 : World}{Q : Exit→Act→World→Prop}{s x : Operand}{t e : TypeId}{bytes : Nat}
  (T:SlT P t e 1 bytes) (hgd:o.guard=none) (ho:o.op = .call { callee:=.builtin .append,args:=#[s,x],argTypes:=#[t,t] })
  {base:Nat} {v:Value} {n:Nat} {xs:List Value} (hs:a.eval s=v) (hown:w.ownsRow base e 1 v n xs) (hgr:Grow W0 w) (hb:W0.heap.size≤base) (hbs:base≤w.heap.size)
  {b off c:Nat} (hx:a.eval x = .slice (some ⟨b,off,none⟩) 1 c) {y:Value} (hy:y.oneCell'=true) (hc:zad w b off [y]) (hlen:(n+1) * bytes≤140737488355328) (hlen' : n+1≤140737488355328)
  (h:∀ v' x',(ext W0 x').ownsRow base e 1 v' (n+1) (xs++[y])→w.grownBy (ext W0 x') v.ownBlock→(v'.ownBlock=v.ownBlock∨v'.ownBlock=some w.heap.size)→wpList P ops Q rest (a.put o.dst v') (ext W0 x')) :
  wpList P ops Q (o::rest) a w:=by
 obtain⟨v',w',hr,h2,h3,h4⟩:=zf3 (P:=P) w base t o.type e _ bytes T v _ _ hown ⟨b,off,none⟩ 1 c [y] rfl (fun j u hu=>by
  obtain⟨hj,rfl⟩:=List.getElem?_eq_some_iff.1 hu;rw[Addr.add_lit];exact hc j hj) (fun u hu=>by rw[List.mem_singleton] at hu;subst hu;exact hy) om hlen hlen' hbs
 have hrow:∀ k,v.ownBlock=some k→base≤k:=fun k hk=>(hown.lt k hk).1;have hg0:Grow W0 w':=zej hgr h3 fun k hk=>Nat.le_trans hb (hrow k hk);obtain⟨x',rfl⟩:=za hg0;refine wpList_plain hgd fun _ hK=>?_;unfold Oper.wp execOp;simp only[ho,resolve,invoke,builtin,Sem.run_bind,Sem.run_pure,Result.andThen_ok,List.map_toArray,List.map_cons,List.map_nil,hs,hx,hr];exact hK _ _ (h v' x' h2 h3 h4)
structure Bu (base : Nat)(w : World)(e : TypeId)(R : Nat)(vs : Nat→Value)(B : Nat→List Int): Prop where
 own:∀ k,k<R→w.ownsRow base e 1 (vs k) (B k).length ((B k).map (Value.int .i64))
 i64:∀ k,k<R→∀ x∈B k,I64 x
 ne:∀ j k,j<R→k<R→j≠k→(vs j).ownBlock=none∨(vs j).ownBlock≠(vs k).ownBlock
theorem Bu.start (base : Nat)(w : World)(e : TypeId)(R : Nat): Bu base w e R (fun _=>.slice none 0 0) (fun _=>[]) where
 own _ _:=World.ownsRow_nil ..
 i64 _ _ x hx:=(List.not_mem_nil hx).elim
 ne _ _ _ _ _:=Or.inl rfl
theorem Bu.keep {base : Nat}{w w' : World}{e : TypeId}{R : Nat}{vs : Nat→Value}{B : Nat→List Int}(h : Bu base w e R vs B)(g : ∀ b,base≤b→b<w.heap.size→w'.heap[b]?=w.heap[b]?): Bu base w' e R vs B where
 own k hk:=by
  have ho:=h.own k hk;refine⟨ho.1,?_⟩;rcases ho.2 with hn|⟨q,cap,cur,hv,hbg,hg,hr⟩
  ·exact .inl hn
  ·exact .inr ⟨q,cap,cur,hv,hbg,by rw[g q hbg (Array.getElem?_eq_some_iff.1 hg).1];exact hg,hr⟩
 i64:=h.i64
 ne:=h.ne
theorem Bu.mono {base : Nat}{w w' : World}{e : TypeId}{R : Nat}{vs : Nat→Value}{B : Nat→List Int}(h : Bu base w e R vs B)(g : Grow w w'): Bu base w' e R vs B:=h.keep fun b _ hb=>g.block b hb
theorem Bu.app {base : Nat}{w w1 w2 : World}{e : TypeId}{R : Nat}{vs : Nat→Value}{B : Nat→List Int}(h : Bu base w e R vs B)(g1 : Grow w w1){k : Nat}(hk : k<R){v' : Value}{x : Int}(hx : I64 x)
  (ho:w2.ownsRow base e 1 v' ((B k).length+1) ((B k).map (Value.int .i64)++[.int .i64 x])) (g2:w1.grownBy w2 (vs k).ownBlock) (hv:v'.ownBlock=(vs k).ownBlock∨v'.ownBlock=some w1.heap.size):Bu base w2 e R (up vs k v') (up B k (B k++[x])) where
 own j hj:=by
  by_cases q:j=k
  ·subst q;rw[zm,zm];rw[List.length_append,List.map_append];exact ho
  ·rw[up_ne _ _ q,up_ne _ _ q];exact((h.mono g1).own j hj).kept g2 (h.ne j k hj hk q)
 i64 j hj y hy:=by
  by_cases q:j=k
  ·subst q;rw[zm] at hy;rcases List.mem_append.1 hy with hy|hy
   ·exact h.i64 j hj y hy
   ·rw[List.mem_singleton] at hy;subst hy;exact hx
  ·rw[up_ne _ _ q] at hy;exact h.i64 j hj y hy
 ne i j hi hj q:=by
  have hlt:∀ j,j<R→∀ b,(vs j).ownBlock=some b→b<w1.heap.size:=fun j hj b hb=>(((h.mono g1).own j hj).lt b hb).2;by_cases q1:i=k
  ·subst q1;rw[zm,up_ne _ _ (Ne.symm q)];rcases hv with hv|hv
   ·rw[hv];exact h.ne i j hi hj q
   ·right;rw[hv];intro e;have:=hlt j hj _ e.symm;omega
  ·rw[up_ne _ _ q1];by_cases q2:j=k
   ·subst q2;rw[zm];rcases hv with hv|hv
    ·rw[hv];exact h.ne i j hi hj q
    ·right;rw[hv];intro e;have:=hlt i hi _ e;omega
   ·rw[up_ne _ _ q2];exact h.ne i j hi hj q
theorem Bu.sl {base : Nat}{w : World}{e : TypeId}{R : Nat}{vs : Nat→Value}{B : Nat→List Int}(h : Bu base w e R vs B){k : Nat}(hk : k<R)(hl : (B k).length≤140737488355328): Sl (fun b=>base≤b) w (vs k) (B k):=by
 have ho:=h.own k hk;have hi:=h.i64 k hk;rcases id ho.2 with ⟨h1,h2⟩|⟨g,cap,cur,hv,hbg,hg,hnc,hcm,hcs,htake⟩
 ·rw[h1,List.eq_nil_of_length_eq_zero h2];exact Sl.nil _ _
 ·rw[hv];refine Sl.mk rfl hbg (Array.getElem?_eq_some_iff.1 hg).1 hnc (by unfold maxLen at hcm;exact hcm) fun i hi'=>⟨[.int .i64 (B k)[i]],⟨rfl,hi _ (List.getElem_mem hi')⟩,fun j hj=>?_⟩
  obtain rfl:j=0:=by simpa using hj
  have:=ho.cells (g:=g) (by rw[hv];rfl) i (.int .i64 (B k)[i]) (by simp[hi'])
  rw[Addr.add_lit] at this;simpa[zfk] using this
structure Rw (base : Nat)(w : World)(R N : Nat)(vs : Nat→Value)(M : Nat→Nat→Bool): Prop where
 row:∀ k,k<R→∃ g cap C t,vs k = .slice (some ⟨g,0,none⟩) N cap∧N≤cap∧cap≤9223372036854775807∧base≤g∧w.heap[g]?=some (.cells C t)∧∀ i,i<N→C[i]?=some (.bool (M k i))
 ne:∀ j k,j<R→k<R→j≠k→(vs j).ownBlock≠(vs k).ownBlock
theorem Rw.start (base : Nat)(w : World)(N : Nat)(vs : Nat→Value)(M : Nat→Nat→Bool): Rw base w 0 N vs M where
 row k hk:=absurd hk (Nat.not_lt_zero _)
 ne j k hj:=absurd hj (Nat.not_lt_zero _)
theorem Rw.keep {base : Nat}{w w' : World}{R N : Nat}{vs : Nat→Value}{M : Nat→Nat→Bool}(h : Rw base w R N vs M)(g : ∀ b,base≤b→b<w.heap.size→w'.heap[b]?=w.heap[b]?): Rw base w' R N vs M where
 row k hk:=by
  obtain⟨q,cap,C,t,h1,h2,h3,h4,h5,h6⟩:=h.row k hk;exact⟨q,cap,C,t,h1,h2,h3,h4,by rw[g q h4 (Array.getElem?_eq_some_iff.1 h5).1];exact h5,h6⟩
 ne:=h.ne
theorem Rw.keepR {base : Nat}{w w' : World}{R N : Nat}{vs : Nat→Value}{M : Nat→Nat→Bool}(h : Rw base w R N vs M)(g : ∀ k,k<R→∀ b,(vs k).ownBlock=some b→b<w.heap.size→w'.heap[b]?=w.heap[b]?): Rw base w' R N vs M where
 row k hk:=by
  obtain⟨q,cap,C,t,h1,h2,h3,h4,h5,h6⟩:=h.row k hk;exact⟨q,cap,C,t,h1,h2,h3,h4,by rw[g k hk q (by rw[h1];rfl) (Array.getElem?_eq_some_iff.1 h5).1];exact h5,h6⟩
 ne:=h.ne
theorem Rw.congr {base : Nat}{w : World}{R N : Nat}{vs : Nat→Value}{M M' : Nat→Nat→Bool}(h : Rw base w R N vs M)(e : ∀ k,k<R→∀ i,i<N→M k i=M' k i): Rw base w R N vs M' where
 row k hk:=by
  obtain⟨q,cap,C,t,h1,h2,h3,h4,h5,h6⟩:=h.row k hk;exact⟨q,cap,C,t,h1,h2,h3,h4,h5,fun i hi=>by rw[←e k hk i hi];exact h6 i hi⟩
 ne:=h.ne
theorem Rw.mono {base : Nat}{w w' : World}{R N : Nat}{vs : Nat→Value}{M : Nat→Nat→Bool}(h : Rw base w R N vs M)(g : Grow w w'): Rw base w' R N vs M:=h.keep fun b _ hb=>g.block b hb
theorem Rw.snoc {base : Nat}{w w' : World}{R N : Nat}{vs : Nat→Value}{M : Nat→Nat→Bool}(h : Rw base w R N vs M)(g : Grow w w'){q cap : Nat}{C : Array Value}{t : TypeId}{v : Value}{T : Nat→Bool}
  (hv:v = .slice (some ⟨q,0,none⟩) N cap) (h1:N≤cap) (h2:cap≤9223372036854775807) (hq:w.heap.size≤q) (hb:base≤q) (hC:w'.heap[q]?=some (.cells C t)) (hT:∀ i,i<N→C[i]?=some (.bool (T i))):Rw base w' (R+1) N (up vs R v) (up M R T) where
 row k hk:=by
  by_cases e:k=R
  ·subst e;rw[zm,zm];exact⟨q,cap,C,t,hv,h1,h2,hb,hC,hT⟩
  ·rw[up_ne _ _ e,up_ne _ _ e];exact(h.mono g).row k om
 ne:=by
  have hlt:∀ j,j<R→∀ b,(vs j).ownBlock=some b→b<w.heap.size:=fun j hj b hbb=>by
   obtain⟨q,cap,C,t,k1,_,_,_,k5,_⟩:=h.row j hj;rw[k1] at hbb;simp[Value.ownBlock] at hbb;subst hbb;exact(Array.getElem?_eq_some_iff.1 k5).1
  intro i j hi hj e;by_cases e1:i=R
  ·subst e1;rw[zm,up_ne _ _ (Ne.symm e),hv];intro e2;have:=hlt j om _ e2.symm
   simp only at this;omega
  ·rw[up_ne _ _ e1];by_cases e2:j=R
   ·subst e2;rw[zm,hv];intro e2;have:=hlt i om _ e2
    simp only at this;omega
   ·rw[up_ne _ _ e2];exact h.ne i j om om e
structure RwAt (base : Nat)(w : World)(R N : Nat)(vs : Nat→Value)(M : Nat→Nat→Bool)(k g cap : Nat): Prop where
 v:vs k = .slice (some ⟨g,0,none⟩) N cap
 lt:LtW g w
 le:N≤cap
 max:cap≤9223372036854775807
 new:base≤g
 cell:∀ i,i<N→w.cell? ⟨g,i,none⟩=some (.bool (M k i))
 fr:∀ i,w.frozen? ⟨g,i,none⟩=false
 put:∀ i,i<N→∀ u:Bool,Rw base (w.setCell ⟨g,i,none⟩ (.bool u)) R N vs (up M k (up (M k) i u))
theorem Rw.at {base : Nat}{w : World}{R N : Nat}{vs : Nat→Value}{M : Nat→Nat→Bool}(h : Rw base w R N vs M)(k : Nat)(hk : k<R): ∃ g cap,RwAt base w R N vs M k g cap:=by
 obtain⟨g,cap,C,t,h1,h2,h3,h4,h5,h6⟩:=h.row k hk;refine⟨g,cap,h1,⟨(Array.getElem?_eq_some_iff.1 h5).1⟩,h2,h3,h4,fun i hi=>?_,fun i=>?_,fun i hi u=>?_⟩
 ·simp[World.cell?,h5,h6 i hi]
 ·simp[World.frozen?,h5]
 ·have hlt:=(Array.getElem?_eq_some_iff.1 h5).1;have hset:(w.setCell ⟨g,i,none⟩ (.bool u)).heap[g]?=some (.cells (C.setIfInBounds i (.bool u)) t):=by
   simp[World.setCell,Array.getElem?_modify,h5]
  have hoth:∀ b,b≠g→(w.setCell ⟨g,i,none⟩ (.bool u)).heap[b]?=w.heap[b]?:=fun b hb=>by
   simp only[World.setCell,Array.getElem?_modify];rw[if_neg (fun e=>hb e.symm)]
  refine⟨fun j hj=>?_,h.ne⟩;by_cases e:j=k
  ·subst e;rw[zm];refine⟨g,cap,_,t,h1,h2,h3,h4,hset,fun q hq=>?_⟩;have hsz:i<C.size:=(Array.getElem?_eq_some_iff.1 (h6 i hi)).1;rw[Array.getElem?_setIfInBounds];by_cases e2:q=i
   ·subst e2;rw[zm,if_pos rfl,if_pos hsz]
   ·rw[up_ne _ _ e2,if_neg (fun e=>e2 e.symm)];exact h6 q hq
  ·rw[up_ne _ _ e];obtain⟨g',cap',C',t',k1,k2,k3,k4,k5,k6⟩:=h.row j hj;refine⟨g',cap',C',t',k1,k2,k3,k4,?_,k6⟩;rw[hoth g' (fun e2=>?_)];exact k5;exact h.ne j k hj hk e (by rw[k1,h1,e2];rfl)
theorem Rw.sl {base : Nat}{w : World}{R N : Nat}{vs : Nat→Value}{M : Nat→Nat→Bool}(h : Rw base w R N vs M){k : Nat}(hk : k<R): Sl (fun b=>base≤b) w (vs k) (bL N (M k)):=by
 obtain⟨g,cap,C,t,h1,h2,h3,h4,h5,h6⟩:=h.row k hk;have hl:=zdz N (M k);have key:Sl (fun b=>base≤b) w (.slice (some ⟨g,0,none⟩) (bL N (M k)).length cap) (bL N (M k)):=Sl.mk rfl h4 (Array.getElem?_eq_some_iff.1 h5).1 om h3 fun i hi=>⟨[.bool (bL N (M k))[i]],rfl,fun j hj=>by
  obtain rfl:j=0:=by simpa using hj
  have hi' : i<N:=om;have hv:(bL N (M k))[i]=M k i:=by have:=zep (M k) hi';rw[List.getElem?_eq_getElem hi] at this;injection this
  simp only[World.cell?,h5,Addr.add_lit,Nat.zero_add,Nat.add_zero,zhy,Nat.mul_one];rw[h6 i hi',hv];rfl⟩
 rw[hl] at key;rw[h1];exact key
def rL (R N : Nat)(M : Nat→Nat→Bool): List (List Bool):=(List.range R).map fun k=>bL N (M k)
theorem zaz (R N : Nat)(M : Nat→Nat→Bool): (rL R N M).length=R:=by simp[rL]
theorem zh6 {R N k : Nat}(M : Nat→Nat→Bool)(hk : k<R): (rL R N M)[k]?=some (bL N (M k)):=by simp[rL,hk]
theorem zgm {R N : Nat}{M M' : Nat→Nat→Bool}(h : ∀ k,k<R→∀ i,i<N→M k i=M' k i): rL R N M=rL R N M':=List.map_congr_left fun k hk=>zcv fun i hi=>h k (List.mem_range.1 hk) i hi
theorem Rw.list {base : Nat}{w : World}{R N : Nat}{vs : Nat→Value}{M : Nat→Nat→Bool}(h : Rw base w R N vs M){F : Nat→Prop}(hF : ∀ b,base≤b→F b){g off cap : Nat}(hg : F g)(hlt : g<w.heap.size)(hc1 : R≤cap)(hc2 : cap≤9223372036854775807)
  (hc:∀ k,k<R→w.cell? ⟨g,off+k,none⟩=some (vs k)):Sl F w (.slice (some ⟨g,off,none⟩) R cap) (rL R N M):=by
 have hl:=zaz R N M;have key:Sl F w (.slice (some ⟨g,off,none⟩) (rL R N M).length cap) (rL R N M):=Sl.mk rfl hg hlt om hc2 fun i hi=>by
  have hi' : i<R:=om;have hv:(rL R N M)[i]=bL N (M i):=by have:=zh6 (N:=N) M hi';rw[List.getElem?_eq_getElem hi] at this;injection this
  obtain⟨q,c,C,t,h1,_⟩:=h.row i hi';refine⟨[vs i],⟨_,_,_,by rw[h1],?_⟩,fun j hj=>?_⟩
  ·have:=(h.sl hi').wide (F':=F) fun b _ hb=>hF b hb
   rw[h1] at this;rw[hv];exact this
  ·obtain rfl:j=0:=by simpa using hj
   have:=hc i hi'
   first|(simp[zm1];done)|simpa[zm1] using this
 rw[hl] at key;exact key
theorem Sl.iv {α : Type}[Rp α]{A B : World}{v : Value}{xs : List α}(h : Sl (Fresh A) B v xs): Sl (fun k=>A.heap.size≤k∧k<B.heap.size) B v xs :=
 h.wide fun b hb hF=>by rcases hF with hF|hF;exact hF.elim;exact⟨hF,hb⟩
theorem zd3 {α : Type}[Rp α]{P : Program}{ops : Array Oper}{rest : List Oper}{o : Oper}{a : Act}{w W0 A B : World}{x0 : Ext}{Q : Exit→Act→World→Prop}{s x : Operand}{t e : TypeId}{bytes : Nat}
  (T:SlT P t e 1 bytes) (hgd:o.guard=none) (ho:o.op = .call { callee:=.builtin .append,args:=#[s,x],argTypes:=#[t,t] })
  {base:Nat} {v:Value} {xs:List (List α)} (hs:a.eval s=v) (hown:Own (fun _=>False) base e (ext W0 x0) v xs) (hgr:Grow (ext W0 x0) w) (hb:W0.heap.size≤base) (hbs:base≤(ext W0 x0).heap.size)
  {b off c:Nat} (hx:a.eval x = .slice (some ⟨b,off,none⟩) 1 c) {ra:Option Addr} {rn rc:Nat} {y:List α} (hrow:Sl (Fresh A) B (.slice ra rn rc) y) (hBw:Grow B w) (h0:(ext W0 x0).heap.size≤A.heap.size)
  (hc:zad w b off [.slice ra rn rc]) (hlen:(xs.length+1) * bytes≤140737488355328) (hlen' : xs.length+1≤140737488355328)
  (h:∀ v' x',Own (fun _=>False) base e (ext W0 x') v' (xs++[y])→(ext W0 x0).heap.size≤(ext W0 x').heap.size→wpList P ops Q rest (a.put o.dst v') (ext W0 x')) :
  wpList P ops Q (o::rest) a w:=by
 refine zh (α:=List α) T hgd ho hs hown hgr hb (Nat.le_trans hbs hgr.size) hx (y:=y) (cs:=[.slice ra rn rc]) (Gy:=fun k=>A.heap.size≤k∧k<B.heap.size) ⟨ra,rn,rc,rfl,hrow.iv.mono hBw⟩ (fun k hk=>?_) hc rfl hlen hlen' (fun v' x' h1 h2 _=>h v' x' h1 h2);refine⟨Nat.lt_of_lt_of_le hk.2 hBw.size,Or.inr (Nat.le_trans hbs (Nat.le_trans h0 hk.1)),fun e=>?_⟩;have:=(hown.row_lt k e).2
 omega
structure RwH (base : Nat)(w : World)(e : TypeId)(v : Value)(R N : Nat)(vs : Nat→Value)(M : Nat→Nat→Bool): Prop where
 rw:Rw base w R N vs M
 own:w.ownsRow base e 1 v R ((List.range R).map vs)
 ne:∀ k,k<R→(vs k).ownBlock≠v.ownBlock
theorem RwH.start (base : Nat)(w : World)(e : TypeId)(N : Nat)(vs : Nat→Value)(M : Nat→Nat→Bool): RwH base w e (.slice none 0 0) 0 N vs M :=
 ⟨Rw.start ..,World.ownsRow_nil ..,fun k hk=>absurd hk (Nat.not_lt_zero _)⟩
theorem RwH.congr {base : Nat}{w : World}{e : TypeId}{v : Value}{R N : Nat}{vs : Nat→Value}{M M' : Nat→Nat→Bool}(h : RwH base w e v R N vs M)(q : ∀ k,k<R→∀ i,i<N→M k i=M' k i): RwH base w e v R N vs M':=⟨h.rw.congr q,h.own,h.ne⟩
theorem zgn {base : Nat}{w w' : World}{e : TypeId}{size : Nat}{v : Value}{n : Nat}{xs : List Value}(ho : w.ownsRow base e size v n xs)(g : ∀ b,v.ownBlock=some b→b<w.heap.size→w'.heap[b]?=w.heap[b]?): w'.ownsRow base e size v n xs:=by
 refine⟨ho.1,?_⟩;rcases ho.2 with hn|⟨q,cap,cur,hv,hbg,hg,hr⟩
 ·exact .inl hn
 ·exact .inr ⟨q,cap,cur,hv,hbg,by rw[g q (by rw[hv];rfl) (Array.getElem?_eq_some_iff.1 hg).1];exact hg,hr⟩
theorem RwH.mono {base : Nat}{w w' : World}{e : TypeId}{v : Value}{R N : Nat}{vs : Nat→Value}{M : Nat→Nat→Bool}(h : RwH base w e v R N vs M)(g : Grow w w'): RwH base w' e v R N vs M :=
 ⟨h.rw.mono g,zgn h.own fun b _ hb=>g.block b hb,h.ne⟩
theorem Rw.lt {base : Nat}{w : World}{R N : Nat}{vs : Nat→Value}{M : Nat→Nat→Bool}(h : Rw base w R N vs M){k b : Nat}(hk : k<R)(hb : (vs k).ownBlock=some b): base≤b∧b<w.heap.size:=by
 obtain⟨q,cap,C,t,k1,_,_,k4,k5,_⟩:=h.row k hk;rw[k1] at hb;simp[Value.ownBlock] at hb;subst hb;exact⟨k4,(Array.getElem?_eq_some_iff.1 k5).1⟩
theorem RwH.app {base : Nat}{w0 w1 w2 : World}{e : TypeId}{v v' : Value}{R N : Nat}{vs : Nat→Value}{M : Nat→Nat→Bool}(h : RwH base w0 e v R N vs M)(g1 : Grow w0 w1){q cap : Nat}{C : Array Value}{t : TypeId}{T : Nat→Bool}
  (h1:N≤cap) (h2:cap≤9223372036854775807) (hq:w0.heap.size≤q) (hb:base≤w0.heap.size) (hC:w1.heap[q]?=some (.cells C t)) (hT:∀ i,i<N→C[i]?=some (.bool (T i)))
  (ho:w2.ownsRow base e 1 v' (R+1) ((List.range R).map vs++[.slice (some ⟨q,0,none⟩) N cap])) (g2:w1.grownBy w2 v.ownBlock) (hv:v'.ownBlock=v.ownBlock∨v'.ownBlock=some w1.heap.size) :
  RwH base w2 e v' (R+1) N (up vs R (.slice (some ⟨q,0,none⟩) N cap)) (up M R T):=by
 have hvl:∀ b,v.ownBlock=some b→b<w0.heap.size:=fun b hb=>(h.own.lt b hb).2;have hql:q<w1.heap.size:=(Array.getElem?_eq_some_iff.1 hC).1;have hr1:Rw base w1 (R+1) N (up vs R (.slice (some ⟨q,0,none⟩) N cap)) (up M R T):=h.rw.snoc g1 rfl h1 h2 hq (Nat.le_trans hb hq) hC hT;have hnv:∀ k,k<R+1→(up vs R (.slice (some ⟨q,0,none⟩) N cap) k).ownBlock≠v.ownBlock:=fun k hk=>by
  by_cases e:k=R
  ·subst e;rw[zm];intro e2;have:=hvl q e2.symm;omega
  ·rw[up_ne _ _ e];exact h.ne k om
 refine⟨hr1.keepR fun k hk b hbb hlt=>g2.block b hlt (fun e2=>hnv k hk (by rw[hbb,e2])),?_,fun k hk=>?_⟩
 ·have e1:(List.range (R+1)).map (up vs R (.slice (some ⟨q,0,none⟩) N cap))=(List.range R).map vs++[.slice (some ⟨q,0,none⟩) N cap]:=by
   rw[List.range_succ,List.map_append,List.map_singleton,zm];congr 1
   exact List.map_congr_left fun k hk=>up_ne _ _ (by have:=List.mem_range.1 hk;omega)
  rw[e1];exact ho
 ·rcases hv with hv|hv
  ·rw[hv];exact hnv k hk
  ·rw[hv];intro e2;have:=(hr1.lt hk e2).2;omega
structure RwHAt (base : Nat)(w : World)(e : TypeId)(v : Value)(R N : Nat)(vs : Nat→Value)(M : Nat→Nat→Bool)(k g hc b cap : Nat): Prop where
 val:v = .slice (some ⟨g,0,none⟩) R hc
 ltg:LtW g w
 ltb:LtW b w
 vk:vs k = .slice (some ⟨b,0,none⟩) N cap
 newb:base≤b
 newg:base≤g
 le:N≤cap
 max:cap≤9223372036854775807
 hdr:w.cell? ⟨g,k,none⟩=some (.slice (some ⟨b,0,none⟩) N cap)
 cell:∀ i,i<N→w.cell? ⟨b,i,none⟩=some (.bool (M k i))
 fr:∀ i,w.frozen? ⟨b,i,none⟩=false
 put:∀ i,i<N→∀ u:Bool,RwH base (w.setCell ⟨b,i,none⟩ (.bool u)) e v R N vs (up M k (up (M k) i u))
theorem RwH.hd {base : Nat}{w : World}{e : TypeId}{v : Value}{R N : Nat}{vs : Nat→Value}{M : Nat→Nat→Bool}(h : RwH base w e v R N vs M)(h1 : 1≤R): ∃ g hc,v = .slice (some ⟨g,0,none⟩) R hc∧base≤g∧g<w.heap.size∧R≤hc∧hc≤9223372036854775807∧∀ k,k<R→w.cell? ⟨g,k,none⟩=some (vs k):=by
 rcases id h.own.2 with ⟨_,h0⟩|⟨g,cap,cur,hv,hbg,hg,hnc,hcm,hcs,htake⟩
 ·omega
 ·refine⟨g,cap,hv,hbg,(Array.getElem?_eq_some_iff.1 hg).1,hnc,by unfold maxLen at hcm;exact hcm,fun k hk=>?_⟩;have:=h.own.cells (g:=g) (by rw[hv];rfl) k (vs k) (by simp[hk])
  rw[Addr.add_lit] at this;simpa using this
theorem RwH.at {base : Nat}{w : World}{e : TypeId}{v : Value}{R N : Nat}{vs : Nat→Value}{M : Nat→Nat→Bool}(h : RwH base w e v R N vs M)(k : Nat)(hk : k<R): ∃ g hc b cap,RwHAt base w e v R N vs M k g hc b cap:=by
 obtain⟨g,hc,hv,hbg,hlt,_,_,hcell⟩:=h.hd om;obtain⟨b,cap,ra⟩:=h.rw.at k hk;have hne:b≠g:=fun e2=>h.ne k hk (by rw[ra.v,hv,e2];rfl);refine⟨g,hc,b,cap,hv,⟨hlt⟩,ra.lt,ra.v,ra.new,hbg,ra.le,ra.max,by rw[←ra.v];exact hcell k hk,ra.cell,ra.fr,fun i hi u=>⟨ra.put i hi u,zgn h.own fun b' hb' _=>?_,h.ne⟩⟩;have e3:b'=g:=by rw[hv] at hb';simp[Value.ownBlock] at hb';exact hb'.symm
 subst e3;simp only[World.setCell,Array.getElem?_modify];rw[if_neg hne]
theorem RwH.at2 {base : Nat}{w : World}{e : TypeId}{g hc R N : Nat}{vs : Nat→Value}{M : Nat→Nat→Bool}(h : RwH base w e (.slice (some ⟨g,0,none⟩) R hc) R N vs M)(k : Nat)(hk : k<R): ∃ b cap,RwHAt base w e (.slice (some ⟨g,0,none⟩) R hc) R N vs M k g hc b cap:=by
 obtain⟨g',hc',b,cap,ha⟩:=h.at k hk;have e:=ha.val;injection e with e1 _ e3;injection e1 with e1;injection e1 with e1 _ _;subst e1;subst e3;exact⟨b,cap,ha⟩
theorem Sl.set {α : Type}[Rp α]{F : Nat→Prop}{w : World}{v : Value}{xs : List α}(h : Sl F w v xs){b o : Nat}{u : Value}(hb : ¬F b): Sl F (w.setCell ⟨b,o,none⟩ u) v xs :=
 h.keep fun k hk _=>by simp only[World.setCell,Array.getElem?_modify];rw[if_neg (fun e=>hb (by rw[e];exact hk))]
theorem zoa (w : World)(o o' : Obj): ((w.alloc o).alloc o').heap[w.heap.size]?=some o:=by
 rw[heap_alloc_old];exact heap_alloc_new _ _;simp
theorem RwH.sl {base : Nat}{w : World}{e : TypeId}{v : Value}{R N : Nat}{vs : Nat→Value}{M : Nat→Nat→Bool}(h : RwH base w e v R N vs M)(h1 : 1≤R){F : Nat→Prop}(hF : ∀ b,base≤b→F b): Sl F w v (rL R N M):=by
 obtain⟨g,hc,hv,hbg,hlt,h2,h3,hcell⟩:=h.hd h1;rw[hv];exact h.rw.list hF (hF g hbg) hlt h2 h3 fun k hk=>by rw[Nat.zero_add];exact hcell k hk
set_option linter.unusedVariables false
theorem z8 {P : Program}{Q : Exit→Act→World→Prop}{l : List Oper}{id : Nat}{a : Act}{w : World}(n : Nat)(hm : P.follows .mixedOrders=true)(hn : l.length=n)(h : wpAnyH P .any l.toArray (Nrm Q) (fun w'=>∃ q : Ext,w'=ext w q) n (Array.replicate n false) a w.drew): (Code.region id l.toArray true).wp P Q a w :=
 zcx _ n hm hn h
section
variable {P : Program} {Q : Exit → Act → World → Prop} {C : World → Prop}
theorem zyl {l : List Oper}{fuel : Nat}{listed : Array Bool}{a : Act}{w : World}(i : Nat){o : Oper}(hi : pickN l i=some o)(hB : takeB l.toArray listed i=true)
  (hp:zef o.op=true∨Region.wanted o (yielded l.toArray a.tmps)=false) (hS:C w)
  (h:wpQuiet P l.toArray C (fun a'=>wpAnyH P .any l.toArray (Nrm Q) C fuel (listed.setIfInBounds i true) a' w) [o] a):wpAnyH P .any l.toArray (Nrm Q) C (fuel+1) listed a w:=by
 have hi':=(zcw l i).trans hi;simp only[takeB,Bool.and_eq_true] at hB;unfold wpQuiet at h;by_cases hw:Region.wanted o (yielded l.toArray a.tmps)=true
 ·rw[if_pos hw] at h;obtain⟨v,h1,h2⟩:=h;have hpl:zef o.op=true:=hp.resolve_right (by rw[hw];decide);refine wpAnyH_take hi' hB.1 hB.2.2 hB.2.1 (fun _ _ _ h=>(h:False).elim) (.inl ⟨hw,fun w' g=>?_⟩) hS h2;have q:=h1 w' g;unfold Oper.quietAt at q;have n1:=fun w2=>(zd0 (P:=P) hpl a.eval w' w2).1;have n2:=fun w2=>(zd0 (P:=P) hpl a.eval w' w2).2;generalize (execOp a.eval o).run P w'=r at q n1 n2;cases r with
  |halt y w2=>exact q.elim
  |ok n w2 =>
   cases n with
   |value u=>obtain⟨rfl,rfl⟩:=q;rfl
   |skip=>exact absurd rfl (n2 w2)
   |enter f args=>exact absurd rfl (n1 w2 f args)
   |_=>exact q.elim
 ·rw[if_neg hw] at h;exact wpAnyH_take hi' hB.1 hB.2.2 hB.2.1 (fun _ _ _ h=>(h:False).elim) (.inr ⟨by simpa using hw,rfl⟩) hS h
theorem JqW {l : List Oper}{fuel : Nat}{listed : Array Bool}{a : Act}{w : World}(i : Nat){o : Oper}(h : wpQuiet P l.toArray C (fun a'=>wpAnyH P .any l.toArray (Nrm Q) C fuel (listed.setIfInBounds i true) a' w) [o] a)(h0 : listed.getD i true=false:=by rfl)(hi : pickN l i=some o:=by rfl)(hB : takeB l.toArray listed i=true:=by decide +kernel)(hp : zef o.op=true∨Region.wanted o (yielded l.toArray a.tmps)=false:=by first|exact Or.inl rfl|exact Or.inr rfl)(hS : C w:=by first|exact trivial|exact za gw|exact hC _ gw|exact hC _ _ gw|exact hC _ _ _ gw|exact hC _ _ gw (by first|exact hbx13 _|exact hbx9|exact hbx0 _ gw)): wpAnyH P .any l.toArray (Nrm Q) C (fuel+1) listed a w:=zyl i hi hB hp hS h
end
set_option linter.unusedVariables false
def CnIn (l : List Cn)(R : Nat): Prop:=∀ c∈l,∃ t fr : Nat,c.to=(t : Int)∧c.from_=(fr : Int)∧t<R∧fr<R
theorem CnIn.two {l : List Cn}{R : Nat}(h : CnIn l R): ∀ c∈l,∃ t fr : Nat,c.to=(t : Int)∧c.from_=(fr : Int):=fun c hc=>by obtain⟨t,fr,h1,h2,_⟩:=h c hc;exact⟨t,fr,h1,h2⟩
theorem zrz (l : List Cn)(lv : Value)(w : World){F : Nat→Prop}(hl : Sl F w lv l){R : Nat}(hin : CnIn l R)(hR : R≤1000)(hlen : l.length≤2000)(i0 : Nat)(hi0 : i0<R):
  Calls Tryz.prog 181 #[.int .i64 (R:Nat),lv,.int .i64 (i0:Nat)] w (RetP w fun v w'=>Sl (Fresh w) w' v (bL R (ldB l i0))):=by
 obtain⟨a,n,cap,rfl,Hn,hm,hcap,hcm,hl⟩:=hl.open;have hn2:n≤2000:=by rw[Hn.out];exact hlen
 have Hin:=Lib.hid hin;have Hend:Hid (∀ h c0,Rc l R i0 c0 n h false→∀ x,h x=ldB l i0 x):=Lib.hid fun h c0 s x=>zv0 hin.two (by rw[←Hn.out];exact s) x;clear hin hlen;have hz0:∀ h v,(bA R h).setIfInBounds i0 (.bool v)=bA R (up h i0 v):=fun h v=>zcm R h i0 v hi0;have hy0:∀ h,(bA R h)[i0]?=some (.bool (h i0)):=fun h=>zan R h i0 hi0;go_enter Tryz.func181,Tryz.ntmps181
 go_wp2_with (first|(at_make;refine zam (bytes:=1) rfl rfl Tryz.underlying66 (by kernel_rfl) rfl rfl om om ?_));clear hz0 hy0;go_loopg [8] (2 * zj R (up (fun _=>false) i0 true)+1) (fun g mv wr=>∃ (mo:Bool) (h:Nat→Bool) (c0:Nat),mv = .bool mo∧Grow (w.alloc (.cells (bA R h) 4)) wr∧Hid (Rc l R i0 c0 n h mo)∧Hid (g=2 * zj R h+mo.toNat))
 case atStart=>exact⟨true,_,_,rfl,Grow.refl _,Lib.hid Rc.start,Lib.hid rfl⟩
 case round =>
  obtain⟨mo,h,c0,rfl,hgr,HR,Hg⟩:=hrel;obtain⟨y,rfl⟩:=za hgr;cases mo
  ·have He:Hid (bL R h=bL R (ldB l i0)):=Lib.hid (zcv fun i _=>Hend.out h c0 HR.out i);go_wp2_with fail;refine zd (by simp only[results,Tryz.results181];go_simp<;>rfl) rfl gw ?_;rw[←He.out];exact Sl.bools (zcf w (.cells (bA R h) 4) y) (Or.inr (Nat.le_refl _)) om
  ·go_wp2_with fail;go_loopw [8,9] (fun mv tv wr=>∃ (k:Nat) (mo:Bool) (h' : Nat→Bool),k≤n∧tv = .int .i64 k∧mv = .bool mo∧Grow (w.alloc (.cells (bA R h') 4)) wr∧Hid (Rc l R i0 (zj R h) k h' mo)) (fun _ tv _=>n - (intOf tv).toNat)
   case atStart=>exact⟨0,false,h,Nat.zero_le _,rfl,rfl,gw,Lib.hid HR.out.again⟩
   case round =>
    obtain⟨k,mo,h',hk,rfl,rfl,hgr',HR'⟩:=hrel;obtain⟨y',rfl⟩:=za hgr';by_cases hlt:k<n
    ·obtain⟨b_c,off_c,c,rfl,⟨Hg_c,hl_c,hw_c,c_c0,c_c1,c_c2,c_c3,r_c0⟩⟩:=hl.cn k hlt;obtain⟨t,fr,hct,hcf,htR,hfR⟩:=Hin.out c (List.mem_of_getElem? Hg_c.out);have Hct:=Lib.hid hct;have Hcf:=Lib.hid hcf;have hgt:∀ h,(bA R h)[t]?=some (.bool (h t)):=fun h=>zan R h t htR;have hgf:∀ h,(bA R h)[fr]?=some (.bool (h fr)):=fun h=>zan R h fr hfR;have hsf:∀ h v,(bA R h).setIfInBounds fr (.bool v)=bA R (up h fr v):=fun h v=>zcm R h fr v hfR;cases ht1:h' t
     ·have Hnx:=Lib.hid (HR'.out.skip Hg_c.out Hct.out Hcf.out (Or.inl ht1));go_wp2_with fail;go_roundw
      case rel=>exact⟨k+1,mo,h',by omega,by go_num,rfl,gw,Hnx⟩
      case measure=>exact me
     ·cases hf1:h' fr
      ·have Hnx:=Lib.hid (HR'.out.put Hg_c.out Hct.out Hcf.out ht1 hf1 hfR);go_wp2_with fail;go_roundw
       case rel=>exact⟨k+1,true,up h' fr true,by omega,by go_num,rfl,gw,Hnx⟩
       case measure=>exact me
      ·have Hnx:=Lib.hid (HR'.out.skip Hg_c.out Hct.out Hcf.out (Or.inr hf1));go_wp2_with fail;go_roundw
       case rel=>exact⟨k+1,mo,h',by omega,by go_num,rfl,gw,Hnx⟩
       case measure=>exact me
    ·obtain rfl:k=n:=om;have hcnt:=HR'.out.cnt;go_wp2_with fail;go_roundg (2 * zj R h'+mo.toNat)
     case measure=>have:=Hg.out;simp at this;omega
     case rel=>exact⟨mo,h',zj R h,rfl,gw,HR',Lib.hid rfl⟩
noncomputable def solM (l : List Cn)(b : Nat→Nat→Bool)(i k n : Nat): Nat→Nat→Bool:=fun k' n'=>if k'<k∨(k'=k∧n'<n) then pSB l b (i+1) k' n' else pSB l b i k' n'
theorem zwk (l : List Cn)(b : Nat→Nat→Bool)(i : Nat): solM l b i 0 0=pSB l b i:=by funext k' n';unfold solM;rw[if_neg om]
theorem zqi {l : List Cn}{b : Nat→Nat→Bool}{i k n : Nat}{u : Bool}(hu : u=pSB l b (i+1) k n): up (solM l b i k n) k (up (solM l b i k n k) n u)=solM l b i k (n+1):=by
 funext k' n'
 unfold up solM;by_cases e:k'=k
 ·subst e;rw[if_pos rfl];by_cases e2:n'=n
  ·subst e2;rw[if_pos rfl,if_pos om,hu]
  ·rw[if_neg e2];by_cases e3:n'<n
   ·rw[if_pos om,if_pos om]
   ·rw[if_neg om,if_neg om]
 ·rw[if_neg e];by_cases e3:k'<k
  ·rw[if_pos om,if_pos om]
  ·rw[if_neg om,if_neg om]
theorem z0y {l : List Cn}{b : Nat→Nat→Bool}{i k : Nat}(h : ldB l i k=false): solM l b i k 0=solM l b i (k+1) 0:=by
 funext k' n'
 unfold solM;by_cases e:k'=k
 ·subst e;rw[if_neg om,if_pos om];simp[pSB,h]
 ·by_cases e3:k'<k
  ·rw[if_pos om,if_pos om]
  ·rw[if_neg om,if_neg om]
theorem zyv {l : List Cn}{b : Nat→Nat→Bool}{i k N : Nat}: ∀ k' n',n'<N→solM l b i k N k' n'=solM l b i (k+1) 0 k' n':=by
 intro k' n' hn;unfold solM;by_cases e:k'≤k
 ·rw[if_pos om,if_pos om]
 ·rw[if_neg om,if_neg om]
theorem zyw {l : List Cn}{b : Nat→Nat→Bool}{i R : Nat}: ∀ k',k'<R→∀ n',solM l b i R 0 k' n'=pSB l b (i+1) k' n':=by
 intro k' hk n';unfold solM;rw[if_pos om]
theorem zey : SlT Tryz.prog 86 66 1 24:=SlT.mk' (z:=.slice none 0 0) Tryz.underlying86 (by kernel_rfl) rfl om
theorem zcg {F : Nat→Prop}{w : World}{g o cap R N : Nat}{M : Nat→Nat→Bool}(h : Sl F w (.slice (some ⟨g,o,none⟩) R cap) (rL R N M))(hN : 1≤N){i : Nat}(hi : i<R): ∃ rg ro rc,LtW g w∧w.cell? ⟨g,o+i,none⟩=some (.slice (some ⟨rg,ro,none⟩) N rc)∧LtW rg w∧(∀ q,q<N→w.cell? ⟨rg,ro+q,none⟩=some (.bool (M i q)))∧N≤rc∧rc≤9223372036854775807:=by
 obtain⟨b,off,x,a',n',c',ha,⟨Hg,hlt,hsl,hc⟩⟩:=h.list i hi;injection ha with ha;injection ha with e1 e2 _;subst e1 e2;obtain rfl:x=bL N (M i):=by have e1:=Hg.out;rw[zh6 M hi] at e1;injection e1 with e1;exact e1.symm
 obtain rfl:n'=N:=by have:=hsl.len;rw[zdz] at this;exact this
 obtain⟨rg,ro,rfl,hlt2⟩:=hsl.addr om;obtain⟨_,_,_,e3,_,_,h5,h6,_⟩:=hsl.open;injection e3 with _ _ e4;exact⟨rg,ro,c',hlt,hc,hlt2,fun q hq=>hsl.boolAt (zep (M i) hq),by omega,by omega⟩
theorem zqj (bv lv : Value)(w : World){Fb Fl : Nat→Prop}{R N : Nat}{bM : Nat→Nat→Bool}{l : List Cn}(hb : Sl Fb w bv (rL R N bM))(hl : Sl Fl w lv l)(hin : CnIn l R)(hR1 : 1≤R)(hR : R≤1000)(hN1 : 1≤N)(hN : N≤600)(hlen : l.length≤2000):
  Calls Tryz.prog 141 #[bv,lv] w (RetP w fun v w'=>Sl (Fresh w) w' v (rL R N (solB l R bM))):=by
 obtain⟨a,n,cap,rfl,Hn,hm,hcap,hcm,hb⟩:=hb.open;obtain rfl:n=R:=by rw[Hn.out,zaz]
 obtain⟨g,o,rfl,hgl⟩:=hb.addr om;obtain⟨a2,n2,cap2,rfl,Hn2,hm2,hcap2,hcm2,hl⟩:=hl.open;have Hin:=Lib.hid hin;have Hlen:=Lib.hid hlen;clear hin hlen;have Hld:Hid (∀ i,i<n→∀ w',Sl Fl w' (.slice a2 n2 cap2) l→Calls Tryz.prog 181 #[.int .i64 (n:Nat),.slice a2 n2 cap2,.int .i64 (i:Nat)] w' (RetP w' fun v w''=>Sl (Fresh w') w'' v (bL n (ldB l i)))):=Lib.hid fun i hi w' k=>zrz l _ w' k Hin.out hR Hlen.out i hi;go_enter Tryz.func141,Tryz.ntmps141
 go_wp2_with fail;go_loopw [5,6] (fun tv ti wr=>∃ (k:Nat) (vs:Nat→Value),k≤n∧ti = .int .i64 k∧Grow w wr∧RwH w.heap.size wr 66 tv k N vs (fun _ _=>false)) (fun _ ti _=>n - (intOf ti).toNat)
 case atStart=>exact⟨0,fun _=>.slice none 0 0,Nat.zero_le _,rfl,gw,RwH.start ..⟩
 case round =>
  obtain⟨k,vs,hk,rfl,hgr,hrw⟩:=hrel;obtain⟨y,rfl⟩:=za hgr;by_cases hlt:k<n
  ·obtain⟨rg,ro,rc,hlg,hhc,hlr,hrc,hrcl,hrcm⟩:=zcg hb hN1 hlt;go_wp2_with (first|(at_make;refine zam (bytes:=1) rfl rfl Tryz.underlying66 (by kernel_rfl) rfl rfl om om ?_)|(at_builtin;go_must (refine zff (W0:=w) zey rfl rfl rfl ((hrw.mono gw).own) gw (Nat.le_refl _) (by simp;omega) rfl (y:=.slice (some ⟨w.heap.size+y.k,0,none⟩) N N) rfl cel om om ?_);intro v5 x5 ho5 hg5 hb5));have hq5:(ext w y).heap.size=w.heap.size+y.k:=by simp
   have hC5:=zoa (ext w y) (.cells (bA N fun _=>false) 4) (.cells #[.slice (some ⟨w.heap.size+y.k,0,none⟩) N N] 66);rw[hq5] at hC5;have hap:=hrw.app gw (Nat.le_refl N) om (by rw[hq5];exact Nat.le_refl _) (by rw[hq5];omega) hC5 (fun i hi=>zan N (fun _=>false) i hi) ho5 hg5 hb5;clear hq5 hC5;go_roundw
   case rel=>exact⟨k+1,_,by omega,by go_num,gw,hap.congr fun k' _ i _=>by unfold up;split<;>rfl⟩
   case measure=>exact me
  ·obtain rfl:k=n:=om;obtain⟨gh,hch,rfl,hbg,hgl2,hc1,hc2,_⟩:=hrw.hd hR1;go_wp2_with fail;clear hlt hgl2;go_loopw [7] (fun ti wr=>∃ i:Nat,i≤k∧ti = .int .i64 i∧Grow w wr∧RwH w.heap.size wr 66 (.slice (some ⟨gh,0,none⟩) k hch) k N vs (pSB l bM i)) (fun ti _=>k - (intOf ti).toNat)
   case atStart=>exact⟨0,Nat.zero_le _,rfl,gw,hrw⟩
   case round =>
    obtain⟨i,hi,rfl,hgr2,hrw2⟩:=hrel;obtain⟨y2,rfl⟩:=za hgr2;by_cases hlti:i<k
    ·obtain⟨rg,ro,rc,hlg,hhc,hlr,hrc,hrcl,hrcm⟩:=zcg hb hN1 hlti;go_wp2_with (first|(go_at_call 181;((with_reducible refine armS (Hld.out i hlti _ (hl.mono gw)) ?_);intro a8 n8 cap8 x8 Hn8 hm8 hcap8 hcm8 hs8)));obtain rfl:n8=k:=by rw[Hn8.out,zdz]
     obtain⟨g8,o8,rfl,hgl8⟩:=hs8.addr om;have hs8:=hs8.iv;obtain⟨s0,Hs0⟩:∃ s0,Hid (s0=(ext w y2).heap.size):=⟨_,Lib.hid rfl⟩
     obtain⟨s1,Hs1⟩:∃ s1,Hid (s1=(ext (ext w y2) x8).heap.size):=⟨_,Lib.hid rfl⟩
     rw[←Hs0.out,←Hs1.out] at hs8;have Hvs:Hid (∀ j,j<n8→∀ b,(vs j).ownBlock=some b→b<s0):=Lib.hid fun j hj b hb=>by rw[Hs0.out];exact(hrw2.rw.lt hj hb).2
     have hrw3:=hrw2.mono (zw _ x8);have h83:o8+n8≤o8+cap8:=om;clear hrw2;go_loopw [9] (fun ti wr=>∃ q:Nat,q≤n8∧ti = .int .i64 q∧Grow w wr∧RwH w.heap.size wr 66 (.slice (some ⟨gh,0,none⟩) n8 hch) n8 N vs (solM l bM i q 0)∧Sl (fun b=>s0≤b∧b<s1) wr (.slice (some ⟨g8,o8,none⟩) n8 cap8) (bL n8 (ldB l i))) (fun ti _=>n8 - (intOf ti).toNat)
     case atStart=>exact⟨0,Nat.zero_le _,rfl,gw,by rw[zwk];exact hrw3,hs8⟩
     case round =>
      obtain⟨q,hq,rfl,hgr4,hrw4,hs9⟩:=hrel;obtain⟨y4,rfl⟩:=za hgr4;by_cases hltq:q<n8
      ·obtain⟨ld,Hldb⟩:∃ ld,Hid (ldB l i q=ld):=⟨_,Lib.hid rfl⟩
       go_wp2_with fail;cases ld
       ·have hcl:=hs9.boolAt (zep (ldB l i) hltq);rw[Hldb.out] at hcl;go_loopw [10] (fun ti wr=>ti = .int .i64 0∧wr=ext w y4) (fun ti _=>0)
        case atStart=>exact⟨rfl,rfl⟩
        case round =>
         obtain⟨rfl,rfl⟩:=hrel;go_wp2_with fail;go_roundw
         case rel=>exact⟨q+1,by omega,by go_num,gw,by rw[←z0y Hldb.out];exact hrw4,hs9⟩
         case measure=>exact me
       ·go_loopw [10] (fun ti wr=>∃ p:Nat,p≤N∧ti = .int .i64 p∧Grow w wr∧RwH w.heap.size wr 66 (.slice (some ⟨gh,0,none⟩) n8 hch) n8 N vs (solM l bM i q p)∧Sl (fun b=>s0≤b∧b<s1) wr (.slice (some ⟨g8,o8,none⟩) n8 cap8) (bL n8 (ldB l i))) (fun ti _=>N - (intOf ti).toNat)
        case atStart=>exact⟨0,Nat.zero_le _,rfl,gw,hrw4,hs9⟩
        case round =>
         obtain⟨p,hp,rfl,hgr5,hrw5,hs10⟩:=hrel;obtain⟨y5,rfl⟩:=za hgr5;have hcl:=hs10.boolAt (zep (ldB l i) hltq);rw[Hldb.out] at hcl;by_cases hltp:p<N
         ·obtain⟨rb,rcap,ra⟩:=hrw5.at2 q hltq;have hbs:rb<s0:=Hvs.out q hltq rb (by rw[ra.vk];rfl);have hcv:=ra.cell p hltp;have hhd:=ra.hdr;have hfr:=ra.fr p;have hnb:=ra.newb;have hrl:=ra.le;have hrm:=ra.max;haveI:=ra.ltb
          haveI:=ra.ltg
          have Hput:=Lib.hid (ra.put p hltp);have Hsol:Hid (solM l bM i q p q p=pSB l bM i q p):=Lib.hid (by unfold solM;rw[if_neg om]);obtain⟨cv,Hcv⟩:∃ cv,Hid (solM l bM i q p q p=cv):=⟨_,Lib.hid rfl⟩
          rw[Hcv.out] at hcv;have Hnew:Hid (pSB l bM (i+1) q p=(cv||bM i p)):=Lib.hid (by rw[pSB,Hldb.out,←Hsol.out,Hcv.out];simp);clear ra;cases cv
          ·go_wp2_with fail
           ((refine zv 23 22 (by kernel_rfl) (by rfl) (by decide) ?_);(iterate 22 (all_goals (first|((first|refine Tq 0 ?_|refine Tq 1 ?_|refine Tq 2 ?_|refine Tq 3 ?_|refine Tq 4 ?_|refine Tq 5 ?_|refine Tq 6 ?_|refine Tq 7 ?_|refine Tq 8 ?_|refine Tq 9 ?_|refine Tq 10 ?_|refine Tq 11 ?_|refine Tq 12 ?_|refine Tq 13 ?_|refine Tq 14 ?_|refine Tq 15 ?_|refine Tq 16 ?_|refine Tq 17 ?_|refine Tq 18 ?_|refine Tq 19 ?_|refine Tq 20 ?_|refine Tq 21 ?_);(first|go_big_quiet_step (fail)|(refine wpQuiet_step (fun K hK=>?_);go_simp;split<;>(refine hK _ ?_;clear hK K)));refine wpQuiet_nil ?_)|((first|refine Tf 0 ?_|refine Tf 1 ?_|refine Tf 2 ?_|refine Tf 3 ?_|refine Tf 4 ?_|refine Tf 5 ?_|refine Tf 6 ?_|refine Tf 7 ?_|refine Tf 8 ?_|refine Tf 9 ?_|refine Tf 10 ?_|refine Tf 11 ?_|refine Tf 12 ?_|refine Tf 13 ?_|refine Tf 14 ?_|refine Tf 15 ?_|refine Tf 16 ?_|refine Tf 17 ?_|refine Tf 18 ?_|refine Tf 19 ?_|refine Tf 20 ?_|refine Tf 21 ?_);intro xg K hK;go_wp2_with (fail);refine hK _ _ gw ?_;clear hK K))));all_goals (refine zap (by decide +kernel) ?_;intro xR K hK;simp only[List.drop_succ_cons,List.drop_zero];go_wp2_with (fail);refine hK _ _ ?_;clear hK K))
           go_wp2_with fail;go_roundw
           case rel=>exact⟨p+1,by omega,by go_num,gw,by rw[←zqi (u:=bM i p) (by rw[Hnew.out];rfl)];exact(Hput.out (bM i p)).mono gw,(hs10.set (b:=rb) (o:=p) (u:=.bool (bM i p)) om).mono gw⟩
           case measure=>exact me
          ·go_wp2_with fail
           ((refine zv 23 22 (by kernel_rfl) (by rfl) (by decide) ?_);(iterate 22 (all_goals (first|((first|refine Tq 0 ?_|refine Tq 1 ?_|refine Tq 2 ?_|refine Tq 3 ?_|refine Tq 4 ?_|refine Tq 5 ?_|refine Tq 6 ?_|refine Tq 7 ?_|refine Tq 8 ?_|refine Tq 9 ?_|refine Tq 10 ?_|refine Tq 11 ?_|refine Tq 12 ?_|refine Tq 13 ?_|refine Tq 14 ?_|refine Tq 15 ?_|refine Tq 16 ?_|refine Tq 17 ?_|refine Tq 18 ?_|refine Tq 19 ?_|refine Tq 20 ?_|refine Tq 21 ?_);(first|go_big_quiet_step (fail)|(refine wpQuiet_step (fun K hK=>?_);go_simp;split<;>(refine hK _ ?_;clear hK K)));refine wpQuiet_nil ?_)|((first|refine Tf 0 ?_|refine Tf 1 ?_|refine Tf 2 ?_|refine Tf 3 ?_|refine Tf 4 ?_|refine Tf 5 ?_|refine Tf 6 ?_|refine Tf 7 ?_|refine Tf 8 ?_|refine Tf 9 ?_|refine Tf 10 ?_|refine Tf 11 ?_|refine Tf 12 ?_|refine Tf 13 ?_|refine Tf 14 ?_|refine Tf 15 ?_|refine Tf 16 ?_|refine Tf 17 ?_|refine Tf 18 ?_|refine Tf 19 ?_|refine Tf 20 ?_|refine Tf 21 ?_);intro xg K hK;go_wp2_with (fail);refine hK _ _ gw ?_;clear hK K))));all_goals (refine zap (by decide +kernel) ?_;intro xR K hK;simp only[List.drop_succ_cons,List.drop_zero];go_wp2_with (fail);refine hK _ _ ?_;clear hK K))
           go_wp2_with fail;go_roundw
           case rel=>exact⟨p+1,by omega,by go_num,gw,by rw[←zqi (u:=true) (by rw[Hnew.out];rfl)];exact(Hput.out true).mono gw,(hs10.set (b:=rb) (o:=p) (u:=.bool true) om).mono gw⟩
           case measure=>exact me
         ·obtain rfl:p=N:=om;go_wp2_with fail;go_roundw
          case rel=>exact⟨q+1,by omega,by go_num,gw,hrw5.congr fun k' _ n' hn'=>zyv k' n' hn',hs10⟩
          case measure=>exact me
      ·obtain rfl:q=n8:=om;go_wp2_with fail;go_roundw
       case rel=>exact⟨i+1,by omega,by go_num,gw,hrw4.congr fun k' hk' n' _=>zyw k' hk' n'⟩
       case measure=>exact me
    ·obtain rfl:i=k:=om;have Hend:Hid (rL i N (pSB l bM i)=rL i N (solB l i bM)):=Lib.hid (zgm fun k' _ n' _=>z0l ..);go_wp2_with fail;refine zd (by simp only[results,Tryz.results141];go_simp<;>rfl) rfl gw ?_;rw[←Hend.out];exact hrw2.sl hR1 fun b hb=>Or.inr hb
set_option linter.unusedVariables false
def OwnG {α : Type}[Rp α](G : Nat→Prop)(base : Nat)(e : TypeId)(w : World)(v : Value)(xs : List α): Prop :=
 ∃ css:List (List Value),(∀ k,G k→k<w.heap.size∧base≤k∧v.ownBlock≠some k)∧css.length=xs.length ∧
  (∀ i (h:i<xs.length) (h' : i<css.length),Rp.R G w xs[i] css[i])∧xs.length≤140737488355328∧w.ownsRow base e (Rp.sz α) v xs.length css.flatten
theorem OwnG.own {α : Type}[Rp α]{G : Nat→Prop}{base : Nat}{e : TypeId}{w : World}{v : Value}{xs : List α}(h : OwnG G base e w v xs): Own (fun _=>False) base e w v xs:=by
 obtain⟨css,hG,hl,hR,hn,hr⟩:=h;exact⟨G,css,fun k hk=>⟨(hG k hk).1,Or.inr (hG k hk).2.1,(hG k hk).2.2⟩,hl,hR,hn,hr⟩
theorem OwnG.keep {α : Type}[Rp α]{G : Nat→Prop}{base : Nat}{e : TypeId}{w w' : World}{v : Value}{xs : List α}(h : OwnG G base e w v xs)(g : ∀ k,(G k∨v.ownBlock=some k)→k<w.heap.size→w'.heap[k]?=w.heap[k]?)(hs : w.heap.size≤w'.heap.size): OwnG G base e w' v xs:=by
 obtain⟨css,hG,hl,hR,hn,hr⟩:=h;refine⟨css,fun k hk=>⟨Nat.lt_of_lt_of_le (hG k hk).1 hs,(hG k hk).2⟩,hl,fun i h h'=>Rp.keep (fun k hk hlt=>g k (Or.inl hk) hlt) (hR i h h'),hn,zgn hr fun b hb hlt=>g b (Or.inr hb) hlt⟩
theorem OwnG.mono {α : Type}[Rp α]{G : Nat→Prop}{base : Nat}{e : TypeId}{w w' : World}{v : Value}{xs : List α}(h : OwnG G base e w v xs)(g : Grow w w'): OwnG G base e w' v xs:=h.keep (fun k _ hk=>g.block k hk) g.size
theorem OwnG.nil {α : Type}[Rp α](base : Nat)(e : TypeId)(w : World): OwnG (fun _=>False) base e w (.slice none 0 0) ([] : List α) :=
 ⟨[],fun _ h=>h.elim,rfl,(fun i h=>by cases h),by simp,World.ownsRow_nil _ _ _ _⟩
theorem OwnG.lt {α : Type}[Rp α]{G : Nat→Prop}{base : Nat}{e : TypeId}{w : World}{v : Value}{xs : List α}(h : OwnG G base e w v xs): ∀ k,v.ownBlock=some k→base≤k∧k<w.heap.size:=by
 obtain⟨css,hG,hl,hR,hn,hr⟩:=h;exact hr.lt
theorem OwnG.snoc {α : Type}[Rp α]{G Gy : Nat→Prop}{base : Nat}{e : TypeId}{w w' : World}{v v' : Value}{xs : List α}{y : α}{cs : List Value}(h : OwnG G base e w v xs)
  (hGy:∀ k,Gy k→k<w.heap.size∧base≤k∧v.ownBlock≠some k) (hR:Rp.R Gy w y cs) (hn:xs.length+1≤140737488355328) (hg:w.grownBy w' v.ownBlock) (hv:v'.ownBlock=v.ownBlock∨v'.ownBlock=some w.heap.size)
  (ho:∀ css:List (List Value),w.ownsRow base e (Rp.sz α) v xs.length css.flatten→w'.ownsRow base e (Rp.sz α) v' (xs.length+1) (css.flatten++cs)):OwnG (fun k=>G k∨Gy k) base e w' v' (xs++[y]):=by
 obtain⟨css,hG,hl,hRs,hn',hr⟩:=h;have q:∀ k,G k∨Gy k→k<w.heap.size∧base≤k∧v.ownBlock≠some k:=fun k hk=>by rcases hk with hk|hk;exact hG k hk;exact hGy k hk
 have a1:Agr (fun k=>G k∨Gy k) w w':=Agr.row hg (fun k hk _=>(q k hk).2.2);refine⟨css++[cs],fun k hk=>⟨Nat.lt_of_lt_of_le (q k hk).1 hg.size,(q k hk).2.1,?_⟩,by simp[hl],fun i h h'=>?_,by simpa using hn,by simpa using ho css hr⟩
 ·rcases hv with hv|hv
  ·rw[hv];exact(q k hk).2.2
  ·rw[hv];intro e;injection e with e;have:=(q k hk).1;omega
 ·by_cases hq:i<xs.length
  ·rw[List.getElem_append_left hq,List.getElem_append_left om];exact Rp.keep a1 (Rp.wide (fun k _ hk=>Or.inl hk) (hRs i hq om))
  ·obtain rfl:i=xs.length:=by simp at h;omega
   rw[List.getElem_append_right om,List.getElem_append_right om];simp only[hl,Nat.sub_self,List.getElem_cons_zero];exact Rp.keep a1 (Rp.wide (fun k _ hk=>Or.inr hk) hR)
def Tw {α β : Type}[Rp α][Rp β](base : Nat)(e1 e2 : TypeId)(w : World)(v1 : Value)(xs : List α)(v2 : Value)(ys : List β): Prop :=
 ∃ G1 G2:Nat→Prop,OwnG G1 base e1 w v1 xs∧OwnG G2 base e2 w v2 ys∧(∀ k,v1.ownBlock=some k→¬G2 k∧v2.ownBlock≠some k)∧(∀ k,v2.ownBlock=some k→¬G1 k)
theorem Tw.nil {α β : Type}[Rp α][Rp β](base : Nat)(e1 e2 : TypeId)(w : World): Tw base e1 e2 w (.slice none 0 0) ([] : List α) (.slice none 0 0) ([] : List β) :=
 ⟨_,_,OwnG.nil _ _ _,OwnG.nil _ _ _,fun k h=>by simp[Value.ownBlock] at h,fun k h=>by simp[Value.ownBlock] at h⟩
theorem Tw.mono {α β : Type}[Rp α][Rp β]{base : Nat}{e1 e2 : TypeId}{w w' : World}{v1 v2 : Value}{xs : List α}{ys : List β}(h : Tw base e1 e2 w v1 xs v2 ys)(g : Grow w w'): Tw base e1 e2 w' v1 xs v2 ys:=by
 obtain⟨G1,G2,h1,h2,h3,h4⟩:=h;exact⟨G1,G2,h1.mono g,h2.mono g,h3,h4⟩
theorem Tw.swap {α β : Type}[Rp α][Rp β]{base : Nat}{e1 e2 : TypeId}{w : World}{v1 v2 : Value}{xs : List α}{ys : List β}(h : Tw base e1 e2 w v1 xs v2 ys): Tw base e2 e1 w v2 ys v1 xs:=by
 obtain⟨G1,G2,h1,h2,h3,h4⟩:=h;exact⟨G2,G1,h2,h1,fun k hk=>⟨h4 k hk,fun e=>(h3 k e).2 hk⟩,fun k hk=>(h3 k hk).1⟩
theorem Tw.lt {α β : Type}[Rp α][Rp β]{base : Nat}{e1 e2 : TypeId}{w : World}{v1 v2 : Value}{xs : List α}{ys : List β}(h : Tw base e1 e2 w v1 xs v2 ys): (∀ k,v1.ownBlock=some k→base≤k∧k<w.heap.size)∧(∀ k,v2.ownBlock=some k→base≤k∧k<w.heap.size):=by
 obtain⟨G1,G2,h1,h2,h3,h4⟩:=h;exact⟨h1.lt,h2.lt⟩
theorem Tw.own1 {α β : Type}[Rp α][Rp β]{base : Nat}{e1 e2 : TypeId}{w : World}{v1 v2 : Value}{xs : List α}{ys : List β}(h : Tw base e1 e2 w v1 xs v2 ys): Own (fun _=>False) base e1 w v1 xs:=by
 obtain⟨G1,G2,h1,h2,h3,h4⟩:=h;exact h1.own
theorem Tw.own2 {α β : Type}[Rp α][Rp β]{base : Nat}{e1 e2 : TypeId}{w : World}{v1 v2 : Value}{xs : List α}{ys : List β}(h : Tw base e1 e2 w v1 xs v2 ys): Own (fun _=>False) base e2 w v2 ys:=h.swap.own1
theorem zg9 {α β : Type}[Rp α][Rp β]{P : Program}{ops : Array Oper}{rest : List Oper}{o : Oper}{a : Act}{w W0 : World}{Q : Exit→Act→World→Prop}{s x : Operand}{t e1 e2 : TypeId}{bytes : Nat}
  (T:SlT P t e1 (Rp.sz α) bytes) (hgd:o.guard=none) (ho:o.op = .call { callee:=.builtin .append,args:=#[s,x],argTypes:=#[t,t] })
  {base:Nat} {v1 v2:Value} {xs:List α} {ys:List β} (hs:a.eval s=v1) (htw:Tw base e1 e2 w v1 xs v2 ys) (hgr:Grow W0 w) (hb:W0.heap.size≤base) (hbs:base≤w.heap.size)
  {b off c:Nat} (hx:a.eval x = .slice (some ⟨b,off,none⟩) 1 c) {y:α} {cs:List Value} {Gy:Nat→Prop} (hR:Rp.R Gy w y cs) (hGy:∀ k,Gy k→base≤k∧k<w.heap.size∧v1.ownBlock≠some k∧v2.ownBlock≠some k)
  (hc:zad w b off cs) (h1:cs.all (·.oneCell')=true) (hlen:(xs.length+1) * bytes≤140737488355328) (hlen' : xs.length+1≤140737488355328)
  (h:∀ v' x',Tw base e1 e2 (ext W0 x') v' (xs++[y]) v2 ys→w.grownBy (ext W0 x') v1.ownBlock→(v'.ownBlock=v1.ownBlock∨v'.ownBlock=some w.heap.size)→wpList P ops Q rest (a.put o.dst v') (ext W0 x')) :
  wpList P ops Q (o::rest) a w:=by
 obtain⟨G1,G2,o1,o2,h3,h4⟩:=htw;obtain⟨css,hG,hl,hRs,hn,hor⟩:=id o1;have hcl:cs.length=Rp.sz α:=Rp.len hR;have hrun:∀ css' : List (List Value),w.ownsRow base e1 (Rp.sz α) v1 xs.length css'.flatten→∃ v' w',(Builtin.append_ #[t,t] o.type #[v1,.slice (some ⟨b,off,none⟩) 1 c]).run P w = .ok v' w'∧w'.ownsRow base e1 (Rp.sz α) v' (xs.length+1) (css'.flatten++cs)∧w.grownBy w' v1.ownBlock∧(v'.ownBlock=v1.ownBlock∨v'.ownBlock=some w.heap.size):=fun css' hr' =>
  zf3 (P:=P) w base t o.type e1 _ bytes T v1 _ _ hr' ⟨b,off,none⟩ 1 c cs (by rw[hcl];simp) (fun j u hu=>by
   obtain⟨hj,rfl⟩:=List.getElem?_eq_some_iff.1 hu;rw[Addr.add_lit];exact hc j hj) (fun u hu=>(List.all_eq_true.1 h1) u hu) om hlen hlen' hbs
 obtain⟨v',w',hr,h2,hg,hv⟩:=hrun css hor;have hg0:Grow W0 w':=zej hgr hg fun k hk=>Nat.le_trans hb (o1.lt k hk).1;obtain⟨x',rfl⟩:=za hg0;have hO:=o1.snoc (Gy:=Gy) (cs:=cs) (fun k hk=>⟨(hGy k hk).2.1,(hGy k hk).1,(hGy k hk).2.2.1⟩) hR hlen' hg hv (fun css' hr'=>by
  obtain⟨v2',w2',hr2,k2,_,_⟩:=hrun css' hr';rw[hr] at hr2;injection hr2 with e1 e2;subst e1;subst e2;exact k2)
 have hO2:OwnG G2 base e2 (ext W0 x') v2 ys:=o2.keep (fun k hk hlt=>hg.block k hlt (fun e=>by
  have h5:=h3 k e.symm;rcases hk with hk|hk
  ·exact h5.1 hk
  ·exact h5.2 hk)) hg.size
 have hT:Tw base e1 e2 (ext W0 x') v' (xs++[y]) v2 ys:=by
  refine⟨_,_,hO,hO2,fun k hk=>?_,fun k hk hG'=>?_⟩
  ·rcases hv with hv|hv
   ·rw[hv] at hk;exact h3 k hk
   ·rw[hv] at hk;injection hk with hk;subst hk;refine⟨fun hG2=>?_,fun e=>?_⟩
    ·obtain⟨css2,hG2',_⟩:=o2;have:=(hG2' _ hG2).1;omega
    ·have:=(o2.lt _ e).2;omega
  ·rcases hG' with hG'|hG'
   ·exact h4 k hk hG'
   ·exact(hGy k hG').2.2.2 hk
 refine wpList_plain hgd fun _ hK=>?_;unfold Oper.wp execOp;simp only[ho,resolve,invoke,builtin,Sem.run_bind,Sem.run_pure,Result.andThen_ok,List.map_toArray,List.map_cons,List.map_nil,hs,hx,hr];exact hK _ _ (h v' x' hT hg hv)
end Go.Proofs.YtacmoaeglbggjaaGreat
