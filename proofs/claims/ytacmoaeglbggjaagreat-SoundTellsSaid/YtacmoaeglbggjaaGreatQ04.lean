/- A part of the proof. -/
import Derived.Deep.Upon
import Derived.ArgAppend
import Derived.Sort.Grow
import Derived.Test.YtacmoaeglbggjaaGreatQ03
namespace Go.Proofs.YtacmoaeglbggjaaGreat
open Go.RowKit
set_option linter.unusedSimpArgs false
set_option linter.unusedVariables false
set_option maxRecDepth 100000
set_option maxHeartbeats 16000000
set_option linter.unusedVariables false
structure SlT (P : Program)(t e : TypeId)(size bytes : Nat): Prop where
 ut:P.underlying t=some (.slice e)
 ex:∃ i z,P.info? e=some i∧i.zero=some z∧i.size=size∧i.bytes=bytes∧z.cells.size=size
 pos:0<size
theorem SlT.mk' {P : Program}{t e : TypeId}{size bytes : Nat}{z : Value}(ut : P.underlying t=some (.slice e))(h : (P.info? e).map (fun i=>(i.zero,i.size,i.bytes))=some (some z,size,bytes))(hz : z.cells.size=size)(pos : 0<size): SlT P t e size bytes:=by
 refine⟨ut,?_,pos⟩;cases hi:P.info? e with
 |none=>rw[hi] at h;cases h
 |some i=>rw[hi] at h;simp at h;exact⟨i,z,rfl,h.1,h.2.1,h.2.2,hz⟩
theorem zf3 {P : Program}(w : World)(base : Nat)(t ty e : TypeId)(size bytes : Nat)(T : SlT P t e size bytes)
  (v:Value) (n:Nat) (xs:List Value) (hown:w.ownsRow base e size v n xs)
  (a:Addr) (m c:Nat) (news:List Value) (hl:news.length=m * size) (hnews:∀ j u,news[j]?=some u→w.cell? (a.add j)=some u) (h1:∀ u∈news,u.oneCell'=true)
  (hm:0<m) (hbytes:(n+m) * bytes≤140737488355328) (hnm:n+m≤140737488355328) (hbase:base≤w.heap.size) :
  ∃ v' w',(Builtin.append_ #[t,t] ty #[v,.slice (some a) m c]).run P w = .ok v' w'∧w'.ownsRow base e size v' (n+m) (xs++news)∧w.grownBy w' v.ownBlock ∧
   (v'.ownBlock=v.ownBlock∨v'.ownBlock=some w.heap.size):=by
 obtain⟨i,z,hi,hz,hsize,hby,hzs⟩:=T.ex;have h63:n+m≤maxLen:=by unfold maxLen;omega
 obtain⟨v',w',hr,h2,h3,h4⟩:=run_append_own (P:=P) w base t ty e i z size bytes T.ut hi hz hsize hby hzs T.pos v n xs hown a m c news hl hnews h1 h63 hbytes hbase;refine⟨v',w',hr,h2,h3,?_⟩;subst hsize;subst hby;rcases id hown.2 with ⟨rfl,rfl⟩|⟨g,cap,cur,rfl,hbg,hg,hnc,hcm,hcs,htake⟩
 ·right;have hr':=run_append_nil (P:=P) w t ty e i z T.ut hi hz a m c news hl hnews hm om (by have hb:=hbytes;simp only[Nat.zero_add] at hb;omega);rw[hr] at hr';injection hr' with e1 e2;rw[e1];rfl
 ·by_cases hroom:n+m≤cap
  ·left;have hfit:n * i.size+news.length≤cur.size:=by rw[hl,hcs,←Nat.add_mul];exact Nat.mul_le_mul_right _ hroom
   have hr':=run_append_room (P:=P) w t ty e i T.ut hi g n cap cur hg a m c news hl hnews h1 hroom hfit;rw[hr] at hr';injection hr' with e1 e2;rw[e1];rfl
  ·right;have holds:∀ j u,xs[j]?=some u→w.cell? ((⟨g,0,none⟩:Addr).add j)=some u:=hown.cells (g:=g) rfl;have hr':=run_append_grow (P:=P) w t ty e i z T.ut hi hz ⟨g,0,none⟩ n cap xs hown.1 holds a m c news hl hnews om om (growslice_fits om hbytes);rw[hr] at hr';injection hr' with e1 e2;rw[e1];rfl
def Own {α : Type}[Rp α](F : Nat→Prop)(base : Nat)(e : TypeId)(w : World)(v : Value)(xs : List α): Prop :=
 ∃ (G:Nat→Prop) (css:List (List Value)),(∀ k,G k→k<w.heap.size∧(F k∨base≤k)∧v.ownBlock≠some k)∧css.length=xs.length ∧
  (∀ i (h:i<xs.length) (h' : i<css.length),Rp.R G w xs[i] css[i])∧xs.length≤140737488355328∧w.ownsRow base e (Rp.sz α) v xs.length css.flatten
theorem Own.nil {α : Type}[Rp α](F : Nat→Prop)(base : Nat)(e : TypeId)(w : World): Own F base e w (.slice none 0 0) ([] : List α) :=
 ⟨fun _=>False,[],fun _ h=>h.elim,rfl,(fun i h=>by cases h),by simp,World.ownsRow_nil _ _ _ _⟩
theorem Agr.row {G : Nat→Prop}{w w' : World}{row : Option Nat}(hg : w.grownBy w' row)(h : ∀ k,G k→k<w.heap.size→row≠some k): Agr G w w' :=
 fun k hG hk=>hg.block k hk (fun e=>h k hG hk e.symm)
theorem zd8 {α : Type}[Rp α]{G : Nat→Prop}{w : World}: ∀ (xs : List α) (css : List (List Value)),css.length=xs.length→(∀ i (h : i<xs.length) (h' : i<css.length),Rp.R G w xs[i] css[i]) →
  ∀ i (h' : i<css.length) j (hj:j<css[i].length),css.flatten[i * Rp.sz α+j]?=some css[i][j]
 |[],[],_,_,i,h',_,_=>by cases h'
 |x::xs,c::css,hl,hR,0,h',j,hj=>by
  simp only[List.flatten_cons,Nat.zero_mul,Nat.zero_add];rw[List.getElem?_append_left (by simpa using hj)];exact List.getElem?_eq_getElem (by simpa using hj)
 |x::xs,c::css,hl,hR,i+1,h',j,hj=>by
  have hc:c.length=Rp.sz α:=Rp.len (hR 0 (by simp) (by simp));simp only[List.flatten_cons];rw[List.getElem?_append_right (by rw[hc,Nat.add_mul];omega)];have:=zd8 xs css (by simpa using hl) (fun i h h'=>hR (i+1) (by simpa using h) (by simpa using h')) i (by simpa using h') j (by simpa using hj)
  rw[hc,show (i+1) * Rp.sz α+j - Rp.sz α=i * Rp.sz α+j from by rw[Nat.add_mul];omega];simpa using this
theorem Own.sl {α : Type}[Rp α]{F : Nat→Prop}{base : Nat}{e : TypeId}{w : World}{v : Value}{xs : List α}(h : Own F base e w v xs): Sl (Fr F base) w v xs:=by
 obtain⟨G,css,hG,hl,hR,hn,hown⟩:=h;rcases id hown.2 with ⟨rfl,h0⟩|⟨g,cap,cur,rfl,hbg,hg,hnc,hcm,hcs,htake⟩
 ·obtain rfl:xs = []:=List.eq_nil_of_length_eq_zero h0;exact Sl.nil _ _
 ·have hlt:g<w.heap.size:=(Array.getElem?_eq_some_iff.1 hg).1;refine Sl.mk rfl (Or.inr hbg) hlt hnc (by unfold maxLen at hcm;exact hcm) fun i hi=>?_;refine⟨css[i]'om,Rp.wide (fun k hk hGk=>(hG k hGk).2.1) (hR i hi om),fun j hj=>?_⟩;have:=hown.cells (g:=g) rfl (i * Rp.sz α+j) _ (zd8 xs css hl hR i om j hj)
  rw[Addr.add_lit] at this;simpa using this
theorem Own.keep {α : Type}[Rp α]{F : Nat→Prop}{base : Nat}{e : TypeId}{w w' : World}{v : Value}{xs : List α}(h : Own F base e w v xs)(g : Agr (Fr F base) w w')(hs : w.heap.size≤w'.heap.size): Own F base e w' v xs:=by
 obtain⟨G,css,hG,hl,hR,hn,hown⟩:=h;have ga:Agr G w w':=fun k hk hlt=>g k (hG k hk).2.1 hlt;refine⟨G,css,fun k hk=>⟨by have:=(hG k hk).1;omega,(hG k hk).2⟩,hl,fun i h h'=>Rp.keep ga (hR i h h'),hn,hown.1,?_⟩;rcases id hown.2 with hx|⟨q,cap,cur,hv,hbg,hg,hr⟩
 ·exact .inl hx
 ·exact .inr ⟨q,cap,cur,hv,hbg,by rw[g q (Or.inr hbg) (Array.getElem?_eq_some_iff.1 hg).1];exact hg,hr⟩
theorem Own.mono {α : Type}[Rp α]{F : Nat→Prop}{base : Nat}{e : TypeId}{w w' : World}{v : Value}{xs : List α}(h : Own F base e w v xs)(g : Grow w w'): Own F base e w' v xs:=h.keep (Agr.of_grow g) g.size
theorem Own.shape {α : Type}[Rp α]{F : Nat→Prop}{base : Nat}{e : TypeId}{w : World}{v : Value}{xs : List α}(h : Own F base e w v xs): ∃ a cap,v = .slice a xs.length cap∧xs.length≤140737488355328:=by
 obtain⟨G,css,hG,hl,hR,hn,hown⟩:=h;rcases id hown.2 with ⟨rfl,h0⟩|⟨g,cap,cur,rfl,_⟩
 ·exact⟨none,0,by rw[h0],hn⟩
 ·exact⟨_,cap,rfl,hn⟩
theorem Own.row_lt {α : Type}[Rp α]{F : Nat→Prop}{base : Nat}{e : TypeId}{w : World}{v : Value}{xs : List α}(h : Own F base e w v xs): ∀ k,v.ownBlock=some k→base≤k∧k<w.heap.size:=by
 obtain⟨G,css,hG,hl,hR,hn,hown⟩:=h;exact hown.lt
theorem Own.snoc {α : Type}[Rp α]{F : Nat→Prop}{base : Nat}{e : TypeId}{w w' : World}{v v' : Value}{xs ys : List α}{css ds : List (List Value)}{G Gy : Nat→Prop}
  (hG:∀ k,G k→k<w.heap.size∧(F k∨base≤k)∧v.ownBlock≠some k) (hl:css.length=xs.length) (hR:∀ i (h:i<xs.length) (h' : i<css.length),Rp.R G w xs[i] css[i])
  (hGy:∀ k,Gy k→k<w.heap.size∧(F k∨base≤k)∧v.ownBlock≠some k) (hly:ds.length=ys.length) (hRy:∀ i (h:i<ys.length) (h' : i<ds.length),Rp.R Gy w ys[i] ds[i])
  (hn:xs.length+ys.length≤140737488355328) (ho:w'.ownsRow base e (Rp.sz α) v' (xs.length+ys.length) (css.flatten++ds.flatten)) (hg:w.grownBy w' v.ownBlock)
  (hv:v'.ownBlock=v.ownBlock∨v'.ownBlock=some w.heap.size):Own F base e w' v' (xs++ys):=by
 refine⟨fun k=>G k∨Gy k,css++ds,?_,by simp[hl,hly],?_,by simpa using hn,by simpa using ho⟩
 ·intro k hk;have q:k<w.heap.size∧(F k∨base≤k)∧v.ownBlock≠some k:=by rcases hk with hk|hk;exact hG k hk;exact hGy k hk
  refine⟨Nat.lt_of_lt_of_le q.1 hg.size,q.2.1,?_⟩;rcases hv with hv|hv
  ·rw[hv];exact q.2.2
  ·rw[hv];intro e;injection e with e;omega
 ·intro i h h';have a1:Agr (fun k=>G k∨Gy k) w w':=Agr.row hg (fun k hk _=>by rcases hk with hk|hk;exact(hG k hk).2.2;exact(hGy k hk).2.2);by_cases q:i<xs.length
  ·rw[List.getElem_append_left q,List.getElem_append_left om];exact Rp.keep a1 (Rp.wide (fun k _ hk=>Or.inl hk) (hR i q om))
  ·rw[List.getElem_append_right om,List.getElem_append_right om];simp only[hl];exact Rp.keep a1 (Rp.wide (fun k _ hk=>Or.inr hk) (hRy _ (by simp at h;omega) (by simp at h;omega)))
theorem zh {α : Type}[Rp α]{P : Program}{ops : Array Oper}{rest : List Oper}{o : Oper}{a : Act}{w W0 : World}{x0 : Ext}{Q : Exit→Act→World→Prop}{s x : Operand}{t e : TypeId}{bytes : Nat}
  (T:SlT P t e (Rp.sz α) bytes) (hgd:o.guard=none) (ho:o.op = .call { callee:=.builtin .append,args:=#[s,x],argTypes:=#[t,t] })
  {F:Nat→Prop} {base:Nat} {v:Value} {xs:List α} (hs:a.eval s=v) (hown:Own F base e (ext W0 x0) v xs) (hgr:Grow (ext W0 x0) w) (hb:W0.heap.size≤base) (hbs:base≤w.heap.size)
  {b off c:Nat} (hx:a.eval x = .slice (some ⟨b,off,none⟩) 1 c) {y:α} {cs:List Value} {Gy:Nat→Prop} (hR:Rp.R Gy w y cs) (hGy:∀ k,Gy k→k<w.heap.size∧(F k∨base≤k)∧v.ownBlock≠some k)
  (hc:zad w b off cs) (h1:cs.all (·.oneCell')=true) (hlen:(xs.length+1) * bytes≤140737488355328) (hlen' : xs.length+1≤140737488355328)
  (h:∀ v' x',Own F base e (ext W0 x') v' (xs++[y])→(ext W0 x0).heap.size≤(ext W0 x').heap.size→(∀ G:Nat→Prop,(∀ k,G k→k<(ext W0 x0).heap.size→v.ownBlock≠some k)→Agr G (ext W0 x0) (ext W0 x'))→wpList P ops Q rest (a.put o.dst v') (ext W0 x')) :
  wpList P ops Q (o::rest) a w:=by
 obtain⟨G,css,hG,hl,hRs,hn,hor⟩:=hown.mono hgr;have hcl:cs.length=Rp.sz α:=Rp.len hR;obtain⟨v',w',hr,h2,h3,h4⟩:=zf3 (P:=P) w base t o.type e _ bytes T v _ _ hor ⟨b,off,none⟩ 1 c cs (by rw[hcl];simp) (fun j u hu=>by
  obtain⟨hj,rfl⟩:=List.getElem?_eq_some_iff.1 hu;rw[Addr.add_lit];exact hc j hj) (fun u hu=>(List.all_eq_true.1 h1) u hu) om hlen hlen' hbs
 have hrow:∀ k,v.ownBlock=some k→base≤k∧k<(ext W0 x0).heap.size:=hown.row_lt;have hgw:Grow W0 w:=(zw W0 x0).trans hgr;have hg0:Grow W0 w':=⟨h3.os.trans hgw.os,h3.tape.trans hgw.tape,h3.output.trans hgw.output,Nat.le_trans hgw.size h3.size,fun k hk=>by
  rw[h3.block k (Nat.lt_of_lt_of_le hk hgw.size) (fun e=>by have:=hrow k e.symm;omega),hgw.block k hk]⟩
 obtain⟨x',rfl⟩:=za hg0;have hOwn:Own F base e (ext W0 x') v' (xs++[y]):=Own.snoc (ds:=[cs]) (Gy:=Gy) hG hl hRs hGy rfl (fun i h h'=>match i,h with|0,_=>hR) hlen' (by simpa using h2) h3 h4;refine wpList_plain hgd fun _ hK=>?_;unfold Oper.wp execOp;simp only[ho,resolve,invoke,builtin,Sem.run_bind,Sem.run_pure,Result.andThen_ok,List.map_toArray,List.map_cons,List.map_nil,hs,hx,hr];refine hK _ _ (h v' x' hOwn (Nat.le_trans hgr.size h3.size) fun G' hG' k hk hlt=>?_);rw[h3.block k (Nat.lt_of_lt_of_le hlt hgr.size) (fun e=>hG' k hk hlt e.symm),hgr.block k hlt]
theorem Sl.rows {α : Type}[Rp α]{F : Nat→Prop}{w : World}{a : Option Addr}{m c : Nat}{ys : List α}(h : Sl F w (.slice a m c) ys)(hm : 0<m):
  ∃ b off,∃ css:List (List Value),a=some ⟨b,off,none⟩∧css.length=ys.length∧(∀ i (h:i<ys.length) (h' : i<css.length),Rp.R F w ys[i] css[i]) ∧
   (∀ j u,css.flatten[j]?=some u→w.cell? ((⟨b,off,none⟩:Addr).add j)=some u)∧css.flatten.length=m * Rp.sz α:=by
 have hl:=h.len;subst hl;obtain⟨a',cap',hv,h1,h2,h3,h⟩:=h;injection hv with e1 e2 e3;subst e1 e3;obtain⟨b,off,ha,hF,hlt,cs0,_⟩:=h 0 hm;subst ha;have key:∀ (n:Nat),n≤ys.length→∃ css:List (List Value),css.length=n∧(∀ i (h:i<ys.length) (h' : i<css.length),Rp.R F w ys[i] css[i]∧zad w b (off+i * Rp.sz α) css[i]):=by
  intro n;induction n with
  |zero=>intro _;exact⟨[],rfl,fun i h h'=>by cases h'⟩
  |succ n ih =>
   intro hn;obtain⟨css,hl,hc⟩:=ih om;obtain⟨b',off',hb,_,_,cs,hR,hcs⟩:=h n om;simp only[Option.some.injEq,Addr.mk.injEq,and_true] at hb;obtain⟨rfl,rfl⟩:=hb;refine⟨css++[cs],by simp[hl],fun i h h'=>?_⟩;by_cases q:i<css.length
   ·rw[List.getElem_append_left q];exact hc i h q
   ·obtain rfl:i=n:=by simp at h';omega
    rw[List.getElem_append_right om];simp only[hl,Nat.sub_self,List.getElem_cons_zero];exact⟨hR,hcs⟩
 obtain⟨css,hl,hc⟩:=key ys.length (Nat.le_refl _);have hlen:css.flatten.length=ys.length * Rp.sz α:=by
  have hr:∀ x∈css,x.length=Rp.sz α:=by
   intro x hx;obtain⟨i,hi,rfl⟩:=List.getElem_of_mem hx;exact Rp.len (hc i om hi).1
  rw[List.length_flatten,←hl];clear hl hc key;induction css with
  |nil=>simp
  |cons x l ih=>simp[hr x (by simp),ih (fun y hy=>hr y (by simp[hy])),Nat.add_mul];omega
 refine⟨b,off,css,rfl,hl,fun i h h'=>(hc i h h').1,fun j u hu=>?_,hlen⟩;have hj:j<css.flatten.length:=(List.getElem?_eq_some_iff.1 hu).1;have hsz:0<Rp.sz α:=by
  rcases Nat.eq_zero_or_pos (Rp.sz α) with q|q
  ·rw[hlen,q] at hj;simp at hj
  ·exact q
 have hi:j / Rp.sz α<css.length:=by rw[hl];exact(Nat.div_lt_iff_lt_mul hsz).2 (by rw[hlen] at hj;exact hj)
 have hk:j % Rp.sz α<css[j / Rp.sz α].length:=by rw[Rp.len (hc _ om hi).1];exact Nat.mod_lt _ hsz
 have e:=zd8 ys css hl (fun i h h'=>(hc i h h').1) (j / Rp.sz α) hi (j % Rp.sz α) hk;have ej:j / Rp.sz α * Rp.sz α+j % Rp.sz α=j:=by rw[Nat.mul_comm];exact Nat.div_add_mod j (Rp.sz α)
 rw[ej,hu] at e;injection e with e;rw[e,Addr.add_lit];have:=(hc (j / Rp.sz α) om hi).2 (j % Rp.sz α) hk
 rw[←this];congr 2;omega
theorem zxo {P : Program}{α : Type}[Rp α]{t ty e : TypeId}{bytes : Nat}(T : SlT P t e (Rp.sz α) bytes)(hone : ∀ (G : Nat→Prop) (w : World) (x : α) cs,Rp.R G w x cs→∀ u∈cs,u.oneCell'=true)
  {F Fy:Nat→Prop} {base:Nat} {w:World} {v:Value} {xs ys:List α} (hown:Own F base e w v xs) (hb:base≤w.heap.size) {ax:Option Addr} {m c:Nat} (hs:Sl Fy w (.slice ax m c) ys)
  {Gy:Nat→Prop} (hRG:∀ (x:α) cs,Rp.R Fy w x cs→Rp.R Gy w x cs) (hGy:∀ k,Gy k→k<w.heap.size∧(F k∨base≤k)∧v.ownBlock≠some k) (hbytes:(xs.length+m) * bytes≤140737488355328) (hnm:xs.length+m≤140737488355328) :
  ∃ v' w',(Builtin.append_ #[t,t] ty #[v,.slice ax m c]).run P w = .ok v' w'∧Own F base e w' v' (xs++ys)∧w.grownBy w' v.ownBlock:=by
 have hlen:=hs.len;by_cases hm:0<m
 ·obtain⟨b,off,css,rfl,hl,hR,hc,hfl⟩:=hs.rows hm;obtain⟨G,ds,hG,hld,hRs,hn,hor⟩:=id hown;obtain⟨v',w',hr,h2,h3,h4⟩:=zf3 (P:=P) w base t ty e _ bytes T v _ _ hor ⟨b,off,none⟩ m c css.flatten hfl hc (fun u hu=>by
   obtain⟨cs,hcs,hu⟩:=List.mem_flatten.1 hu;obtain⟨i,hi,rfl⟩:=List.getElem_of_mem hcs;exact hone _ _ _ _ (hR i om hi) u hu) hm hbytes hnm hb
  refine⟨v',w',hr,?_,h3⟩;exact Own.snoc (Gy:=Gy) hG hld hRs hGy hl (fun i h h'=>hRG _ _ (hR i h h')) om (by rw[←hlen];exact h2) h3 h4
 ·obtain rfl:m=0:=om;obtain rfl:ys = []:=List.eq_nil_of_length_eq_zero hlen.symm;obtain⟨a0,cap0,rfl,hle⟩:=hown.shape;have hle' : xs.length≤cap0:=by
   obtain⟨_,n0,_,hv,_,_,q,_⟩:=hown.sl.open;injection hv with _ e2 e3;omega
  obtain⟨i,z,hi,hz,hsize,hby,hzs⟩:=T.ex;refine⟨_,w,run_append_nothing (P:=P) w t t ty e i T.ut hi a0 xs.length cap0 hle' (.slice ax 0 c) ⟨.inl ⟨e,T.ut⟩,fun w'=>?_,?_,?_,by simp,fun u hu=>by cases hu⟩,by simpa using hown,⟨rfl,rfl,rfl,Nat.le_refl _,fun _ _ _=>rfl⟩⟩
  ·simp[Builtin.lenOf]
  ·cases ax<;>simp[Builtin.firstCells,loadCells,loadCellsFrom]
  ·cases ax<;>simp[Builtin.firstCells,loadCells,loadCellsFrom]
theorem Own.zero {α : Type}[Rp α]{F : Nat→Prop}{base : Nat}{e : TypeId}{w : World}{g : Nat}(hg : w.heap[g]?=some (.cells #[] e))(hb : base≤g): Own F base e w (.slice (some ⟨g,0,none⟩) 0 0) ([] : List α) :=
 ⟨fun _=>False,[],fun _ h=>h.elim,rfl,(fun i h=>by cases h),by simp,by
  refine⟨by simp,.inr ⟨g,0,#[],rfl,hb,hg,Nat.le_refl _,by unfold maxLen;omega,by simp,by simp⟩⟩⟩
theorem zej {W w w' : World}{row : Option Nat}(hW : Grow W w)(h : w.grownBy w' row)(hr : ∀ k,row=some k→W.heap.size≤k): Grow W w' :=
 ⟨h.os.trans hW.os,h.tape.trans hW.tape,h.output.trans hW.output,Nat.le_trans hW.size h.size,fun k hk=>by
  rw[h.block k (Nat.lt_of_lt_of_le hk hW.size) (fun e=>by have:=hr k e.symm;omega),hW.block k hk]⟩
theorem zhh {P : Program}{α : Type}[Rp α]{ops : Array Oper}{rest : List Oper}{o : Oper}{a : Act}{W w : World}{Q : Exit→Act→World→Prop}{s x : Operand}{t e : TypeId}{bytes : Nat}
  (T:SlT P t e (Rp.sz α) bytes) (hone:∀ (G:Nat→Prop) (w:World) (x:α) cs,Rp.R G w x cs→∀ u∈cs,u.oneCell'=true) (hgd:o.guard=none)
  (ho:o.op = .call { callee:=.builtin .append,args:=#[s,x],argTypes:=#[t,t] }) {F Fy:Nat→Prop} {base:Nat} {v:Value} {xs ys:List α} (hs:a.eval s=v) {ax:Option Addr} {m c:Nat} (hx:a.eval x = .slice ax m c)
  (hW:Grow W w) (hWb:W.heap.size≤base) (hb:base≤w.heap.size) (hown:Own F base e w v xs) (hsl:Sl Fy w (.slice ax m c) ys) {Gy:Nat→Prop} (hRG:∀ (x:α) cs,Rp.R Fy w x cs→Rp.R Gy w x cs)
  (hGy:∀ k,Gy k→k<w.heap.size∧(F k∨base≤k)∧v.ownBlock≠some k) (hbytes:(xs.length+m) * bytes≤140737488355328) (hnm:xs.length+m≤140737488355328)
  (h:∀ v' w',Grow W w'→w.grownBy w' v.ownBlock→Own F base e w' v' (xs++ys)→wpList P ops Q rest (a.put o.dst v') w'):wpList P ops Q (o::rest) a w:=by
 obtain⟨v',w',hr,hO,hg⟩:=zxo (P:=P) (ty:=o.type) T hone hown hb hsl hRG hGy hbytes hnm;refine wpList_plain hgd fun _ hK=>?_;unfold Oper.wp execOp;simp only[ho,resolve,invoke,builtin,Sem.run_bind,Sem.run_pure,Result.andThen_ok,List.map_toArray,List.map_cons,List.map_nil,hs,hx,hr];exact hK _ _ (h v' w' (zej hW hg fun k hk=>by have:=hown.row_lt k hk;omega) hg hO)
theorem hp_at {W : World}{o : Obj}{b : Nat}[h : EqW b W]: (W.alloc o).heap[b]?=some o:=by have e:=h.eq;subst e;exact Array.getElem?_push_size
structure QuAt (base : Nat)(w : World)(g off cap : Nat)(xs : List Int): Prop where
 new:base≤g
 lt:g<w.heap.size
 le:xs.length≤cap
 max:cap≤9223372036854775807
 at_:∀ j (h:j<xs.length),w.cell? ⟨g,off+j,none⟩=some (.int .i64 xs[j])
 fr:∀ j,j<xs.length→w.frozen? ⟨g,off+j,none⟩=false
 room:∀ j,j<cap - xs.length→(w.cell? ⟨g,off+xs.length+j,none⟩).isSome=true∧w.frozen? ⟨g,off+xs.length+j,none⟩=false
 i64:∀ x∈xs,I64 x
def Qu (base : Nat)(w : World)(v : Value)(xs : List Int): Prop:=∃ g off cap,v = .slice (some ⟨g,off,none⟩) xs.length cap∧QuAt base w g off cap xs
def srt (l : List Int): List Int:=l.mergeSort fun x y=>decide (x≤y)
theorem zf4 (l : List Int)(x : Int): x∈srt l↔x∈l:=by unfold srt;exact List.mem_mergeSort
theorem zhz (l : List Int): (srt l).length=l.length:=by unfold srt;exact List.length_mergeSort _
open Go.Sort in
theorem QuAt.sorted {base : Nat}{w : World}{g off cap n : Nat}{os : Array Obj}{xs : List Int}(h : QuAt base w g off cap xs): QuAt base (grow (putRow (Value.int .i64) (Go.Sort.ahead w n) g off (srt xs).toArray) os) g off cap (srt xs):=by
 have hl:=zhz xs;have hH:Holds (Value.int .i64) w g off xs.toArray:=fun j hj=>by
  have hj:j<xs.length:=by simpa using hj
  refine⟨?_,h.fr j hj⟩;rw[h.at_ j hj];simp[hj]
 have hlt:g<(putRow (Value.int .i64) (Go.Sort.ahead w n) g off (srt xs).toArray).heap.size:=by rw[size_putRow];exact h.lt
 have hP:Holds (Value.int .i64) (grow (putRow (Value.int .i64) (Go.Sort.ahead w n) g off (srt xs).toArray) os) g off (srt xs).toArray :=
  holds_grow _ _ _ _ _ _ hlt (holds_putRow _ _ _ _ xs.toArray _ (holds_ahead _ _ _ _ _ _ hH) (by simp[hl]))
 refine { new:=h.new,lt:=?_,le:=by rw[hl];exact h.le,max:=h.max,at_:=fun j hj=>?_,fr:=fun j hj=>?_,room:=fun j hj=>?_,i64:=fun x hx=>h.i64 x ((zf4 _ _).1 hx) }
 ·rw[size_grow];omega
 ·rw[(hP j (by simpa using hj)).1];simp[hj]
 ·exact(hP j (by simpa using hj)).2
 ·rw[hl] at hj ⊢;rw[cell?_grow _ _ _ hlt,frozen?_grow _ _ _ hlt,frozen?_putRow,cell?_putRow_other _ _ _ _ _ _ (Or.inr (Or.inr (by simp[hl])))];exact h.room j hj
open Go.Sort in
theorem zvi {W0 w : World}{g off n : Nat}{os : Array Obj}{d : Array Int}(hg : Grow W0 w)(hb : W0.heap.size≤g): Grow W0 (grow (putRow (Value.int .i64) (Go.Sort.ahead w n) g off d) os) :=
 ⟨hg.os,hg.tape,hg.output,by have:=hg.size;rw[size_grow,size_putRow];simp;omega,fun k hk=>by
  have hk2:k<w.heap.size:=Nat.lt_of_lt_of_le hk hg.size;rw[heap_grow_old _ _ (by rw[size_putRow];exact hk2)];have:(putRow (Value.int .i64) (Go.Sort.ahead w n) g off d).heap[k]?=w.heap[k]?:=by
   unfold putRow mapBlock;simp only[heap_ahead];rw[Array.getElem?_modify,if_neg om]
  rw[this,hg.block k hk]⟩
structure QzAt (base : Nat)(w : World)(g off cap : Nat)(xs : List Int): Prop where
 new:base≤g∨cap≤xs.length
 lt:g<w.heap.size
 le:xs.length≤cap
 max:cap≤9223372036854775807
 at_:∀ j (h:j<xs.length),w.cell? ⟨g,off+j,none⟩=some (.int .i64 xs[j])
 fr:∀ j,j<xs.length→w.frozen? ⟨g,off+j,none⟩=false
 room:∀ j,j<cap - xs.length→(w.cell? ⟨g,off+xs.length+j,none⟩).isSome=true∧w.frozen? ⟨g,off+xs.length+j,none⟩=false
 i64:∀ x∈xs,I64 x
def Qz (base : Nat)(w : World)(v : Value)(xs : List Int): Prop:=∃ g off cap,v = .slice (some ⟨g,off,none⟩) xs.length cap∧QzAt base w g off cap xs
theorem QzAt.keep {base : Nat}{w w' : World}{g off cap : Nat}{xs : List Int}(h : QzAt base w g off cap xs)(e : w'.heap[g]?=w.heap[g]?): QzAt base w' g off cap xs where
 new:=h.new
 lt:=by
  have:=h.lt
  rw[Array.getElem?_eq_getElem this] at e;exact(Array.getElem?_eq_some_iff.1 e).1
 le:=h.le
 max:=h.max
 at_ j hj:=by rw[World.cell?_of_block (a:=⟨g,off+j,none⟩) e];exact h.at_ j hj
 fr j hj:=by rw[World.frozen?_of_block (a:=⟨g,off+j,none⟩) e];exact h.fr j hj
 room j hj:=by rw[World.cell?_of_block (a:=⟨g,off+xs.length+j,none⟩) e,World.frozen?_of_block (a:=⟨g,off+xs.length+j,none⟩) e];exact h.room j hj
 i64:=h.i64
theorem Qz.mono {base : Nat}{w w' : World}{v : Value}{xs : List Int}(h : Qz base w v xs)(hg : Grow w w'): Qz base w' v xs:=by
 obtain⟨g,off,cap,rfl,h⟩:=h;exact⟨g,off,cap,rfl,h.keep (hg.block g h.lt)⟩
theorem QzAt.tail {base : Nat}{w : World}{g off cap : Nat}{x : Int}{xs : List Int}(h : QzAt base w g off cap (x::xs))(hc : 1<cap): QzAt base w g (off+1) (cap - 1) xs where
 new:=by rcases h.new with e|e;exact Or.inl e;right;simp only[List.length_cons] at e;omega
 lt:=h.lt
 le:=by have:=h.le;simp only[List.length_cons] at this;omega
 max:=by have:=h.max;omega
 at_ j hj:=by have:=h.at_ (j+1) (by simp;omega);rw[show off+1+j=off+(j+1) from by omega];simpa using this
 fr j hj:=by have:=h.fr (j+1) (by simp;omega);rw[show off+1+j=off+(j+1) from by omega];exact this
 room j hj:=by
  have h1:=h.le;have:=h.room j (by simp only[List.length_cons];omega)
  simp only[List.length_cons] at this h1;rw[show off+1+xs.length+j=off+(xs.length+1)+j from by omega];exact this
 i64 y hy:=h.i64 y (by simp[hy])
theorem QzAt.tail0 {base : Nat}{w : World}{g off cap : Nat}{x : Int}{xs : List Int}(h : QzAt base w g off cap (x::xs))(hc : cap=1): QzAt base w g off 0 xs:=by
 subst hc;have h1:=h.le;simp only[List.length_cons] at h1;obtain rfl:xs = []:=List.eq_nil_of_length_eq_zero om;exact { new:=Or.inr (by simp),lt:=h.lt,le:=by simp,max:=by omega,at_:=fun j hj=>absurd hj (Nat.not_lt_zero _),fr:=fun j hj=>absurd hj (Nat.not_lt_zero _),room:=fun j hj=>absurd hj (by simp),i64:=fun _ h=>(List.not_mem_nil h).elim }
theorem zy1 {P : Program}(w : World)(base : Nat)(t ty e : TypeId)(bytes : Nat)(T : SlT P t e 1 bytes){v : Value}{xs : List Int}(hq : Qz base w v xs)(a : Addr)(c : Nat){y : Int}(hy : I64 y)
  (hc:w.cell? (a.add 0)=some (.int .i64 y)) (hbytes:(xs.length+1) * bytes≤140737488355328) (hn:xs.length+1≤140737488355328) (hbase:base≤w.heap.size) :
  ∃ v' w',(Builtin.append_ #[t,t] ty #[v,.slice (some a) 1 c]).run P w = .ok v' w'∧Qz base w' v' (xs++[y])∧w.grownBy w' v.ownBlock∧(∀ k,k<base→k<w.heap.size→w'.heap[k]?=w.heap[k]?)∧(v'.ownBlock=v.ownBlock∨v'.ownBlock=some w.heap.size):=by
 obtain⟨i,z,hi,hz,hsize,hby,hzs⟩:=T.ex;obtain⟨g,off,cap,rfl,h⟩:=hq;have hnews:∀ j u,([Value.int .i64 y])[j]?=some u→w.cell? (a.add j)=some u:=by
  intro j u hu;match j,hu with
  |0,hu=>simp at hu;subst hu;exact hc
 have h64:∀ x∈xs++[y],I64 x:=by intro x hx;rcases List.mem_append.1 hx with hx|hx;exact h.i64 x hx;rw[List.mem_singleton] at hx;subst hx;exact hy
 by_cases hroom:xs.length+1≤cap
 ·have hr0:=h.room 0 om;have hr:=run_append_room_cells (P:=P) w t ty e i T.ut hi g off xs.length cap a 1 c [.int .i64 y] (by rw[hsize];rfl) hnews (by simp[Value.oneCell']) hroom
   (fun j hj=>by
     obtain rfl:j=0:=by simpa using hj
     rw[hsize,Nat.mul_one];exact hr0.1)
   (fun j hj=>by
     obtain rfl:j=0:=by simpa using hj
     rw[hsize,Nat.mul_one];exact hr0.2)
  rw[hsize,Nat.mul_one] at hr;have hnew:base≤g:=by rcases h.new with e|e;exact e;omega
  refine⟨_,_,hr,⟨g,off,cap,by simp,?_⟩,?_,?_,Or.inl (by simp[Value.ownBlock])⟩
  ·refine { new:=Or.inl hnew,lt:=?_,le:=by simpa using hroom,max:=h.max,at_:=?_,fr:=?_,room:=?_,i64:=h64 }
   ·have:=h.lt;simpa[World.setCells] using this
   ·intro j hj;by_cases e:j<xs.length
    ·rw[World.cell?_setCells_out g _ _ _ _ (fun _ _=>Or.inl (by show off+j<off+xs.length;omega)),List.getElem_append_left e];exact h.at_ j e
    ·obtain rfl:j=xs.length:=by simp at hj;omega
     have:=World.cell?_setCells_in g [.int .i64 y] (off+xs.length) w (fun j hj=>by (obtain rfl:j=0:=by simpa using hj);exact hr0.1) 0 (by simp)
     simpa using this
   ·intro j hj;rw[World.frozen?_setCells];by_cases e:j<xs.length
    ·exact h.fr j e
    ·obtain rfl:j=xs.length:=by simp at hj;omega
     exact hr0.2
   ·intro j hj;simp only[List.length_append,List.length_singleton] at hj ⊢;have:=h.room (j+1) om
    rw[World.cell?_setCells_out g _ _ _ _ (fun _ _=>Or.inr (by show off+xs.length+1≤off+(xs.length+1)+j;omega)),World.frozen?_setCells];rw[show off+(xs.length+1)+j=off+xs.length+(j+1) from by omega];exact this
  ·exact⟨rfl,rfl,rfl,by simp[World.setCells],fun k hk hne=>World.heap_setCells_other w g _ _ hk (fun e=>hne (by rw[e];rfl))⟩
  ·exact fun k hkb hk=>World.heap_setCells_other w g _ _ hk (fun e=>by omega)
 ·have holds:∀ j u,(xs.map (Value.int .i64))[j]?=some u→w.cell? ((⟨g,off,none⟩:Addr).add j)=some u:=by
   intro j u hu;rw[List.getElem?_map] at hu;obtain⟨x,hx,rfl⟩:=Option.map_eq_some_iff.1 hu;obtain⟨hj,rfl⟩:=List.getElem?_eq_some_iff.1 hx;rw[Addr.add_lit];exact h.at_ j hj
  have hr:=run_append_grow (P:=P) w t ty e i z T.ut hi hz ⟨g,off,none⟩ xs.length cap (xs.map (Value.int .i64)) (by rw[hsize];simp) holds a 1 c [.int .i64 y] (by rw[hsize];rfl) hnews om om (growslice_fits om (by rw[hby];exact hbytes));have hge:=grownCap_ge w (xs.length+1) cap e;have hcm:=grownCap_le_maxLen w (xs.length+1) cap e (by unfold maxLen;omega);refine⟨_,_,hr,⟨w.heap.size,0,grownCap w (xs.length+1) cap e,by simp,?_⟩,⟨rfl,rfl,rfl,by simp,fun k hk _=>heap_alloc_old w.drew _ hk⟩,fun k _ hk=>heap_alloc_old w.drew _ hk,Or.inr (by simp[Value.ownBlock])⟩;have hcell:∀ j,(w.drew.alloc (.cells ((xs.map (Value.int .i64)).toArray++([Value.int .i64 y]).toArray++Builtin.zeroCells z.cells (grownCap w (xs.length+1) cap e - (xs.length+1))) e)).cell? ⟨w.heap.size,j,none⟩=((xs.map (Value.int .i64)).toArray++([Value.int .i64 y]).toArray++Builtin.zeroCells z.cells (grownCap w (xs.length+1) cap e - (xs.length+1)))[j]?:=fun j=>World.cell?_alloc_new w.drew _ _ j;have hfr:∀ j,(w.drew.alloc (.cells ((xs.map (Value.int .i64)).toArray++([Value.int .i64 y]).toArray++Builtin.zeroCells z.cells (grownCap w (xs.length+1) cap e - (xs.length+1))) e)).frozen? ⟨w.heap.size,j,none⟩=false:=fun j=>World.frozen?_alloc_new w.drew _ _ j;refine { new:=Or.inl hbase,lt:=by simp,le:=by simpa using hge,max:=by unfold maxLen at hcm;exact hcm,at_:=?_,fr:=fun j _=>by rw[Nat.zero_add,hfr],room:=?_,i64:=h64 }
  ·intro j hj;rw[Nat.zero_add,hcell];rw[Array.getElem?_append_left (by simpa using hj)];by_cases e:j<xs.length
   ·rw[List.getElem_append_left e,Array.getElem?_append_left (by simpa using e)];simp[e]
   ·obtain rfl:j=xs.length:=by simp at hj;omega
    simp
  ·intro j hj;simp only[List.length_append,List.length_singleton] at hj ⊢;refine⟨?_,by rw[hfr]⟩;rw[hcell,Array.getElem?_eq_getElem (by simp only[Array.size_append,List.size_toArray,List.length_map,List.length_singleton,size_zeroCells,hzs];omega)];rfl
theorem zkp {P : Program}{ops : Array Oper}{rest : List Oper}{o : Oper}{a : Act}{w W0 : World}{x0 : Ext}{Q : Exit→Act→World→Prop}{s x : Operand}{t e : TypeId}{bytes : Nat}
  (T:SlT P t e 1 bytes) (hgd:o.guard=none) (ho:o.op = .call { callee:=.builtin .append,args:=#[s,x],argTypes:=#[t,t] })
  {base:Nat} {v:Value} {xs:List Int} (hs:a.eval s=v) (hown:Qz base (ext W0 x0) v xs) (hgr:Grow (ext W0 x0) w) (hb:W0.heap.size≤base) (hbs:base≤w.heap.size)
  {b off c:Nat} (hx:a.eval x = .slice (some ⟨b,off,none⟩) 1 c) {y:Int} (hy:I64 y) (hc:zad w b off [.int .i64 y]) (hlen:(xs.length+1) * bytes≤140737488355328) (hlen' : xs.length+1≤140737488355328)
  (h:∀ v' x',Qz base (ext W0 x') v' (xs++[y])→(ext W0 x0).grownBy (ext W0 x') v.ownBlock→(v'.ownBlock=v.ownBlock∨v'.ownBlock=some w.heap.size)→wpList P ops Q rest (a.put o.dst v') (ext W0 x')) :
  wpList P ops Q (o::rest) a w:=by
 obtain⟨v',w',hr,h2,h3,h4,h5⟩:=zy1 (P:=P) w base t o.type e bytes T (hown.mono hgr) ⟨b,off,none⟩ c hy (by have:=hc 0 (by simp);simpa[Addr.add_lit] using this) hlen hlen' hbs;have hgw:Grow W0 w:=(zw W0 x0).trans hgr;have hg0:Grow W0 w':=⟨h3.os.trans hgw.os,h3.tape.trans hgw.tape,h3.output.trans hgw.output,Nat.le_trans hgw.size h3.size,fun k hk=>by
  rw[h4 k (Nat.lt_of_lt_of_le hk hb) (Nat.lt_of_lt_of_le hk hgw.size),hgw.block k hk]⟩
 obtain⟨x',rfl⟩:=za hg0;refine wpList_plain hgd fun _ hK=>?_;unfold Oper.wp execOp;simp only[ho,resolve,invoke,builtin,Sem.run_bind,Sem.run_pure,Result.andThen_ok,List.map_toArray,List.map_cons,List.map_nil,hs,hx,hr];exact hK _ _ (h v' x' h2 ⟨h3.os.trans hgr.os,h3.tape.trans hgr.tape,h3.output.trans hgr.output,Nat.le_trans hgr.size h3.size,fun k hk hne=>by
  rw[h3.block k (Nat.lt_of_lt_of_le hk hgr.size) hne,hgr.block k hk]⟩ h5)
theorem zqo {P : Program}{ops : Array Oper}{rest : List Oper}{o : Oper}{a : Act}{w : World}{Q : Exit→Act→World→Prop}{s : Operand}{t : TypeId}{c1 : Operand}
  (hgd:o.guard=none) (ho:o.op = .slice t s (some c1) none none) (hc1:a.eval c1 = .int .i64 1) (ht:P.underlying t=some (.slice (P.elem t))) (hsz:(P.info? (P.elem t)).map (fun i=>i.size)=some 1)
  {base:Nat} {v:Value} {x:Int} {xs:List Int} (hs:a.eval s=v) (hown:Qz base w v (x::xs))
  (h:∀ v',Qz base w v' xs→v'.ownBlock=v.ownBlock→wpList P ops Q rest (a.put o.dst v') w):wpList P ops Q (o::rest) a w:=by
 obtain⟨g,off,cap,rfl,hq⟩:=hown;obtain⟨inf,hi,hi2⟩:=Option.map_eq_some_iff.1 hsz;have hle:=hq.le;have hmx:=hq.max;simp only[List.length_cons] at hle;have hr:(Instr.sliceAt t (.slice (some ⟨g,off,none⟩) (xs.length+1) cap) (some (.int .i64 1)) none none).run P w = .ok (sliced (some ⟨g,off,none⟩) 1 (xs.length+1) cap 1) w:=by
  rw[run_sliceAt_slice _ _ _ _ _ _ ht,run_slice_l _ _ _ _ _ ht _ _ (by decide) om];simp[sizeOf,typeInfo,hi,hi2,Result.andThen]
 have key:∃ g' off',sliced (some ⟨g,off,none⟩) 1 (xs.length+1) cap 1 = .slice (some ⟨g',off',none⟩) xs.length (cap - 1)∧g'=g∧QzAt base w g' off' (cap - 1) xs:=by
  by_cases h1:cap=1
  ·refine⟨g,off,?_,rfl,?_⟩
   ·unfold sliced;rw[if_pos h1];simp
   ·have:=hq.tail0 h1
    subst h1;exact this
  ·refine⟨g,off+1,?_,rfl,hq.tail om⟩;unfold sliced;rw[if_neg h1];simp[Addr.add_lit]
 obtain⟨g',off',e,rfl,hq'⟩:=key;refine wpList_plain hgd fun K hK=>?_;unfold Oper.wp execOp;simp only[ho,hs,hc1,Option.map_some,Option.map_none,List.length_cons,hr,e,Sem.run_bind,Sem.run_pure,Result.andThen_ok];exact hK _ _ (h _ ⟨g',off',cap - 1,rfl,hq'⟩ (by simp[Value.ownBlock]))
theorem zft (w : World): Calls Tryz.prog 156 #[] w (Ret w (Ty.v ⟨1,0⟩)):=by
 go_enter Tryz.func156,Tryz.ntmps156
 go_wp2
 ((try simp only[Exit.inBlock,Exit.then]);refine zf (by simp only[results,Tryz.results156];go_simp;rfl) rfl gw ?_)
 rfl
theorem zqs (w : World): Calls Tryz.prog 155 #[] w (Ret w (Pl.v ⟨0,false,0⟩)):=by
 go_enter Tryz.func155,Tryz.ntmps155
 go_wp2
 ((try simp only[Exit.inBlock,Exit.then]);refine zf (by simp only[results,Tryz.results155];go_simp;rfl) rfl gw ?_)
 rfl
abbrev pl0 : Pl:=⟨0,false,0⟩
theorem z2x (ts : List Ty): (plaTy ts pl0).2=zbh ts:=by
 unfold plaTy zbt zbh;by_cases h:LocOk ts=true
 ·have h1:1≤ts.length:=by unfold LocOk at h;simp only[Bool.and_eq_true,decide_eq_true_eq] at h;exact h.1.1
  have hp:PlOk pl0:=by decide
  rw[if_neg (c:=¬LocOk ts=true∨¬PlOk pl0) (by rintro(q|q);exact q h;exact q hp),if_neg (c:=(ts.length:Int)≤pl0.loc) (by show ¬(ts.length:Int)≤0;omega),if_neg (by decide),if_pos h];rfl
 ·rw[if_pos (c:=¬LocOk ts=true∨¬PlOk pl0) (Or.inl h),if_pos (by decide),if_neg h]
theorem zkr (v : Value)(ts : List Ty)(w : World){F : Nat→Prop}(hv : Sl F w v ts):
  Calls Tryz.prog 109 #[v] w (Ret w (.int .i64 (zbh ts))):=by
 rw[←z2x ts];go_enter Tryz.func109,Tryz.ntmps109
 go_wp2_with (first|(go_at_call 155;((with_reducible refine armV (zqs _) ?_);intro x1))|(go_at_call 154;((with_reducible refine armV (zc1 _ ts pl0 _ hv.m) ?_);intro x2)));go_ret
 exact Ret.int rfl gw
def opTy (ts : List Ty)(o : Opd): Ty×Int :=
 if o.kind=1 then (⟨1,0⟩,0) else if (plaTy ts o.pl).2≠0 then (⟨0,0⟩,(plaTy ts o.pl).2)
 else if ((o.kind==3) != ((plaTy ts o.pl).1.kind==4))=true then (⟨0,0⟩,42) else ((plaTy ts o.pl).1,0)
theorem zb8 (v : Value)(ts : List Ty)(o : Opd)(w : World){F : Nat→Prop}(hv : Sl F w v ts):
  Calls Tryz.prog 157 #[v,o.v] w (Ret w (.tuple #[(opTy ts o).1.v,.int .i64 (opTy ts o).2])):=by
 go_enter Tryz.func157,Tryz.ntmps157
 go_wp2_with (first|(go_at_call 156;((with_reducible refine armV (zft _) ?_);intro x1))|(go_at_call 154;((with_reducible refine armV (zc1 _ ts o.pl _ hv.m) ?_);intro x2)));all_goals ((try simp only[Exit.inBlock,Exit.then]);refine zf (by simp only[results,Tryz.results157];go_simp;rfl) rfl gw ?_)
 all_goals (go_light;grind [opTy])
theorem zdr (v : Value)(ts : List Ty)(o : Opd)(w : World){F : Nat→Prop}(hv : Sl F w v ts)(hw : o.wf)(hk : o.kind=1∨o.kind=2∨o.kind=3):
  Calls Tryz.prog 134 #[v,o.v] w (Ret w (.tuple #[(opTy ts o).1.v,.int .i64 (opTy ts o).2])):=by
 have Hk:=Lib.hid hk;clear hk;go_enter Tryz.func134,Tryz.ntmps134
 go_wp2_with (first|(go_at_call 177;((with_reducible refine(zf1 _ ts o.pl _ hv.m).mono ?_);rw[zmf ts o.pl hw.pl.field.1];rintro e w1 ⟨rfl,hb1⟩;obtain⟨x1,rfl⟩:=za hb1;clear hb1)));all_goals ((try simp only[Exit.inBlock,Exit.then]);refine zf (by simp only[results,Tryz.results134];go_simp;rfl) rfl gw ?_)
 all_goals (go_light;have hk:=Hk.out;grind [opTy])
def intsL (ts : List Ty): Bool→List Opd→Int
 |r,[]=>if r=true then 0 else 42
 |r,o::l=>if (opTy ts o).2≠0 then (opTy ts o).2 else intsL ts (r&&(decide ((opTy ts o).1.kind=1)&&decide ((opTy ts o).1.to=0))) l
def zbq (ts : List Ty)(l : List Opd): Int:=intsL ts true l
theorem zhn (v lv : Value)(ts : List Ty)(l : List Opd)(w : World){F F' : Nat→Prop}(hv : Sl F w v ts)(hl : Sl F' w lv l):
  Calls Tryz.prog 112 #[v,lv] w (Ret w (.int .i64 (zbq ts l))):=by
 obtain⟨a,n,cap,rfl,Hn,hm,hcap,hcm,hl⟩:=hl.open;go_enter Tryz.func112,Tryz.ntmps112
 go_wp2
 go_loopw [5,12] (fun rt i wr=>∃ (k:Nat) (r:Bool),k≤n∧i = .int .i64 k∧rt = .bool r∧Grow w wr∧Hid (zbq ts l=intsL ts r (l.drop k))) (fun _ i _=>n - (intOf i).toNat)
 case atStart=>exact⟨0,true,Nat.zero_le _,rfl,rfl,Grow.refl _,rfl⟩
 case round =>
  obtain⟨k,r,hk,rfl,rfl,hb1,ht⟩:=hrel
  (obtain⟨x1,rfl⟩:=za hb1;clear hb1)
  by_cases hlt:k<n
  ·obtain⟨b_o,off_o,o,rfl,⟨Hg_o,hl_o,hw_o,c_o0,c_o1,c_o2,c_o3,c_o4,r_o0,r_o1⟩⟩:=hl.opd k hlt;have Hst:Hid (zbq ts l=if (opTy ts o).2≠0 then (opTy ts o).2 else intsL ts (r&&(decide ((opTy ts o).1.kind=1)&&decide ((opTy ts o).1.to=0))) (l.drop (k+1))):=by
    show _=_;rw[ht.out,zbm Hg_o,intsL]
   by_cases he:(opTy ts o).2=0
   ·cases r;all_goals
     go_wp2_with (first|(go_at_call 157;((with_reducible refine armV (zb8 _ ts o _ hv.m) ?_);intro x2)))
     (refine zg (by kernel_rfl) (by kernel_rfl) ?_;(repeat (any_goals (first|go_big_quiet_step (first|(go_at_call 156;refine zr (zft _)))|(refine wpQuiet_step (fun K hK=>?_);go_simp;split<;>(refine hK _ ?_;clear hK K)))));all_goals (refine wpQuiet_nil ?_;intro w3 hb3;obtain⟨x3,rfl⟩:=za hb3;clear hb3))
     go_wp2_with fail;go_roundw
     case rel =>
      refine⟨k+1,_,by omega,by go_num,rfl,gw,?_⟩;show _=_;rw[Hst.out,if_neg (by simpa using he)];rfl
     case measure=>exact me
   ·have he' : ((opTy ts o).2 != 0)=true:=by simpa using he
    have He:=Lib.hid he;clear he;go_wp2_with (first|(go_at_call 157;((with_reducible refine armV (zb8 _ ts o _ hv.m) ?_);intro x2)));go_ret
    exact Ret.int (by rw[Hst.out,if_pos He.out]) gw
  ·have Hd:Hid (zbq ts l=if r=true then 0 else 42):=by show _=_;rw[ht.out,zbc Hn om,intsL]
   cases r;all_goals
    go_wp2_with fail;go_ret
    exact Ret.int (by rw[Hd.out];rfl) gw
def borTy (ts : List Ty)(r : Rv): Ty×Int :=
 if (plaTy ts r.pl).2≠0 then (⟨0,0⟩,(plaTy ts r.pl).2)
 else if (plaTy ts r.pl).1.kind≠1∧(plaTy ts r.pl).1.kind≠2 then (⟨0,0⟩,42)
 else if r.kind=5 then (⟨5,(plaTy ts r.pl).1.kind⟩,0)
 else if r.bo=1 then (⟨3,(plaTy ts r.pl).1.kind⟩,0)
 else if plaWr ts r.pl≠0 then (⟨0,0⟩,plaWr ts r.pl)
 else (⟨4,(plaTy ts r.pl).1.kind⟩,0)
theorem zmg (v : Value)(ts : List Ty)(r : Rv)(w : World){F : Nat→Prop}(hv : Sl F w v ts):
  Calls Tryz.prog 158 #[v,r.v] w (Ret w (.tuple #[(borTy ts r).1.v,.int .i64 (borTy ts r).2])):=by
 go_enter Tryz.func158,Tryz.ntmps158
 go_wp2_with (first|(go_at_call 154;((with_reducible refine armV (zc1 _ ts r.pl _ hv.m) ?_);intro x1))|(go_at_call 159;((with_reducible refine armV (zix _ ts r.pl _ hv.m) ?_);intro x2)));all_goals ((try simp only[Exit.inBlock,Exit.then]);refine zf (by simp only[results,Tryz.results158];go_simp;rfl) rfl gw ?_)
 all_goals (go_light;grind [borTy])
def rvTy (ts : List Ty)(r : Rv): Ty×Int :=
 if r.kind=1 then opTy ts r.a
 else if r.kind=3 then (if zbq ts [r.a,r.b]≠0 then (⟨0,0⟩,zbq ts [r.a,r.b]) else (⟨2,0⟩,0))
 else if r.kind=2 then (if zbq ts [r.a,r.b]≠0 then (⟨0,0⟩,zbq ts [r.a,r.b]) else (⟨1,0⟩,0))
 else borTy ts r
theorem zoz (v : Value)(ts : List Ty)(r : Rv)(w : World){F : Nat→Prop}(hv : Sl F w v ts)(hw : r.wf):
  Calls Tryz.prog 110 #[v,r.v] w (Ret w (.tuple #[(rvTy ts r).1.v,.int .i64 (rvTy ts r).2])):=by
 have hra:=hw.a;have hrb:=hw.b;go_enter Tryz.func110,Tryz.ntmps110
 go_wp2_with (first|(go_at_call 156;((with_reducible refine armV (zft _) ?_);intro x1))|(go_at_call 157;((with_reducible refine armV (zb8 _ ts r.a _ hv.m) ?_);intro x2))|(go_at_call 158;((with_reducible refine armV (zmg _ ts r _ hv.m) ?_);intro x3))|(go_at_call 112;(refine(zhn _ _ ts [r.a,r.b] _ hv.m (Sl.two (F:=fun _=>True) trivial (by simp) om om ⟨rfl,hra⟩ cel ⟨rfl,hrb⟩ cel)).mono ?_;rintro e w4 ⟨rfl,hb4⟩;obtain⟨x4,rfl⟩:=za hb4;clear hb4)));all_goals ((try simp only[Exit.inBlock,Exit.then]);refine zf (by simp only[results,Tryz.results110];go_simp;rfl) rfl gw ?_)
 all_goals (go_light;grind [rvTy])
theorem zy3 : SlT Tryz.prog 35 56 2 2:=SlT.mk' (z:=.agg #[.int .u8 0,.int .u8 0]) Tryz.underlying35 (by kernel_rfl) rfl om
def Rng (lo hi b : Nat): Prop:=lo≤b∧b<hi
theorem Sl.rng {α : Type}[Rp α]{lo : Nat}{w : World}{v : Value}{xs : List α}(h : Sl (Fr (fun _=>False) lo) w v xs): Sl (Rng lo w.heap.size) w v xs :=
 h.wide fun b hb hF=>⟨by rcases hF with q|q;exact q.elim;exact q,hb⟩
theorem zy4 {ts : List Ty}{o : Opd}(h : (opTy ts o).2≠0): opTy ts o=(⟨0,0⟩,(opTy ts o).2):=by
 unfold opTy at *;grind
theorem ziq {ts : List Ty}{p : Pl}(h : (plaTy ts p).2=0): TyOk (plaTy ts p).1:=by
 have h0:=zqr h;obtain⟨h1,h2,h3⟩:=zjl h0;have ht:TyOk (locAt ts p):=by
  have hk:p.loc.toNat<ts.length:=om;have:ts[p.loc.toNat]?=some (locAt ts p):=by unfold locAt;simp[List.getD_eq_getElem?_getD,List.getElem?_eq_getElem hk]
  exact zqp h1 this
 have e:plaTy ts p=tyOut (typed (locAt ts p) p):=by unfold plaTy;rw[if_neg (by simpa using h0)]
 rw[e] at h ⊢;clear e h0 h1 h2 h3;generalize locAt ts p=t at *;obtain⟨a,b⟩:=t;obtain⟨l,d,f⟩:=p;cases d
 ·by_cases hf:f=0
  ·simp[typed,drf,hf,tyOut] at h ⊢;exact ht
  ·by_cases h2:a=2
   ·simp[typed,drf,hf,tyOut,h2];exact Or.inl ⟨Or.inl rfl,rfl⟩
   ·simp[typed,drf,hf,tyOut,h2] at h
 ·by_cases h3:3≤a
  ·have hb:b=1∨b=2:=by rcases ht with q|q;simp at q;omega;exact q.2
   by_cases hf:f=0
   ·simp[typed,drf,hf,tyOut,h3];exact Or.inl ⟨hb,rfl⟩
   ·by_cases h2:b=2
    ·simp[typed,drf,hf,tyOut,h2,h3];exact Or.inl ⟨Or.inl rfl,rfl⟩
    ·simp[typed,drf,hf,tyOut,h2,h3] at h
  ·simp[typed,drf,tyOut,h3] at h
theorem zj4 {ts : List Ty}{o : Opd}(h : (opTy ts o).2=0): TyOk (opTy ts o).1:=by
 have:=@ziq ts o.pl
 unfold opTy at *;by_cases h1:o.kind=1
 ·rw[if_pos h1];exact Or.inl ⟨Or.inl rfl,rfl⟩
 rw[if_neg h1] at h ⊢;by_cases h2:(plaTy ts o.pl).2≠0
 ·rw[if_pos h2] at h;exact absurd h h2
 rw[if_neg h2] at h ⊢;by_cases h3:((o.kind==3) != ((plaTy ts o.pl).1.kind==4))=true
 ·rw[if_pos h3] at h;exact absurd h (by decide)
 rw[if_neg h3];exact this (by simpa using h2)
theorem zqt {ts : List Ty}{a b : Opd}(ha : (opTy ts a).2=0)(hb : (opTy ts b).2=0): zbq ts [a,b]=if (opTy ts a).1.kind=1∧(opTy ts b).1.kind=1 then 0 else 42:=by
 have h1:=zj4 ha;have h2:=zj4 hb;simp only[zbq,intsL,ha,hb];generalize (opTy ts a).1=x at *;generalize (opTy ts b).1=y at *;grind
theorem z03 {t : Ty}(h : TyOk t): t.wf:=⟨⟨by omega,by omega⟩,⟨by omega,by omega⟩⟩
theorem zy5 {r : Rv}(h : rvOk r=true): r.kind=1∨r.kind=2∨r.kind=3∨r.kind=4∨r.kind=5:=by unfold rvOk at h;grind
theorem z04 {r : Rv}{o : Opd}(h : rvOk r=true)(ho : o∈ze r): o.kind=1∨o.kind=2∨o.kind=3:=by
 have:zn o=0:=by unfold rvOk at h;unfold ze at ho;grind
 have:=(zck o).1 this;rcases this with q|q;exact Or.inl q.1;exact Or.inr q.1
theorem zy6 {ts : List Ty}{r : Rv}{o : Opd}{k : Nat}(hg : (ze r)[k]?=some o)(hp : ∀ q∈(ze r).take k,(opTy ts q).2=0)(h : (opTy ts o).2≠0): rvTy ts r=(⟨0,0⟩,(opTy ts o).2):=by
 have he:=zy4 h;unfold rvTy;by_cases h1:r.kind=1
 ·rw[if_pos h1];simp only[ze,h1,if_true] at hg;have:o=r.a:=by cases k<;>simp at hg;exact hg.symm
  rw[←this];exact he
 ·by_cases h2:r.kind=2∨r.kind=3
  ·have hi:zbq ts [r.a,r.b]=(opTy ts o).2:=by
    simp only[ze,h1,h2,if_true,if_false] at hg hp;match k,hg with
    |0,hg=>simp at hg;subst hg;simp[zbq,intsL,h]
    |1,hg=>simp at hg;subst hg;have:=hp r.a (by simp);simp[zbq,intsL,h,this]
   rw[if_neg h1];by_cases h3:r.kind=3
   ·rw[if_pos h3,hi,if_pos h]
   ·rw[if_neg h3,if_pos om,hi,if_pos h]
  ·simp[ze,h1,h2] at hg
theorem zy7 {ts : List Ty}{l : List Opd}{k : Nat}{o : Opd}(hg : Hid (l[k]?=some o))(hp : ∀ q∈l.take k,(opTy ts q).2=0)(h : (opTy ts o).2=0): ∀ q∈l.take (k+1),(opTy ts q).2=0:=by
 intro q hq;rw[List.take_add_one,hg.out] at hq;simp at hq;rcases hq with hq|rfl
 ·exact hp q hq
 ·exact h
theorem zo0 {α β : Type}{f : α→β}{l : List α}{k : Nat}{o : α}(hg : Hid (l[k]?=some o)): (l.take k).map f++[f o]=(l.take (k+1)).map f:=by
 rw[List.take_add_one,hg.out];simp
theorem zr9 (v : Value)(ts : List Ty)(r : Rv)(w : World){F : Nat→Prop}(hv : Sl F w v ts)(hw : r.wf)(hok : rvOk r=true):
  Calls Tryz.prog 131 #[v,r.v] w (Ret w (.tuple #[(rvTy ts r).1.v,.int .i64 (rvTy ts r).2])):=by
 obtain⟨l,Hl⟩:∃ l,Hid (l=ze r):=⟨_,rfl⟩
 have Hok:=Lib.hid hok;clear hok;go_enter Tryz.func131,Tryz.ntmps131
 go_wp2_with (first|(go_at_call 88;((with_reducible refine armS (zdb r _ hw) ?_);intro a1 n1 cap1 x1 Hn1 hm1 hcap1 hcm1 hs1)));rw[←Hl.out] at Hn1 hs1;have hs1:=Sl.rng hs1;simp only[zav,zdh] at hs1;have hn2:n1≤2:=by rw[Hn1.out,Hl.out];exact zc2 r
 go_loopw [7,8] (fun tv i wr=>∃ k:Nat,k≤n1∧i = .int .i64 k ∧
   (∃ x,wr=ext ((w.alloc (.cells #[.int .u8 r.kind,.int .u8 r.op,.int .u8 r.bo,.int .u8 r.a.kind,.int .i64 r.a.n,.int .i64 r.a.pl.loc,.bool r.a.pl.deref,.int .u8 r.a.pl.field,.int .u8 r.b.kind,.int .i64 r.b.n,.int .i64 r.b.pl.loc,.bool r.b.pl.deref,.int .u8 r.b.pl.field,.int .i64 r.pl.loc,.bool r.pl.deref,.int .u8 r.pl.field] 93)).alloc (.cells #[.int .u8 0,.int .u8 0] 56)) x) ∧
   w.heap.size+1+1+x1.k≤wr.heap.size∧Own (fun _=>False) (w.heap.size+1+1+x1.k) 56 wr tv ((l.take k).map fun o=>(opTy ts o).1) ∧
   Sl (Rng (w.heap.size+1+1) (w.heap.size+1+1+x1.k)) wr (.slice a1 n1 cap1) l∧Hid (∀ q∈l.take k,(opTy ts q).2=0)) (fun _ i _=>n1 - (intOf i).toNat)
 case atStart=>exact⟨0,Nat.zero_le _,rfl,⟨x1,rfl⟩,by simp,Own.nil _ _ _ _,hs1,fun q hq=>by simp at hq⟩
 case round =>
  obtain⟨k,hk,rfl,⟨x,rfl⟩,hsz,hown,hs,Ha⟩:=hrel;simp only[zdh,zav] at hsz;by_cases hlt:k<n1
  ·obtain⟨b_o,off_o,o,rfl,⟨Hg_o,hl_o,hw_o,c_o0,c_o1,c_o2,c_o3,c_o4,r_o0,r_o1⟩⟩:=hs.opd k hlt;have Hk:Hid (o.kind=1∨o.kind=2∨o.kind=3):=z04 Hok.out (by rw[←Hl.out];exact List.mem_of_getElem? Hg_o.out);by_cases he:(opTy ts o).2=0
   ·have hwf:=z03 (zj4 he);go_wp2_with (first|(go_at_call 134;((with_reducible refine armV (zdr _ ts o _ hv.m hw_o Hk.out) ?_);intro x2))|(at_builtin;refine zh (α:=Ty) zy3 rfl rfl rfl hown gw (by simp) (by simp;omega) rfl (y:=(opTy ts o).1) (Gy:=fun _=>False) ⟨rfl,hwf⟩ (fun _ h=>h.elim) cel (by simp[Value.oneCell']) (by simp;omega) (by simp;omega) ?_;intro tv' x' hown' hsz' hagr));go_roundw
    case rel =>
     refine⟨k+1,by omega,by go_num,⟨x',rfl⟩,?_,?_,?_,zy7 Hg_o Ha he⟩
     ·simp only[zdh,zav] at hsz' ⊢;omega
     ·rw[←zo0 Hg_o];exact hown'
     ·exact hs.keep (hagr _ (fun q hq _ e=>by have:=hown.row_lt q e;unfold Rng at hq;omega))
    case measure=>exact me
   ·have he' : ((opTy ts o).2 != 0)=true:=by simpa using he
    have He:=Lib.hid he;clear he;go_wp2_with (first|(go_at_call 134;((with_reducible refine armV (zdr _ ts o _ hv.m hw_o Hk.out) ?_);intro x2)))
    ((try simp only[Exit.inBlock,Exit.then]);refine zf (by simp only[results,Tryz.results131];go_simp;rfl) rfl gw ?_)
    rw[zy6 (by rw[←Hl.out];exact Hg_o.out) (by rw[←Hl.out];exact Ha.out) He.out]
  ·have hkn:k=n1:=om;have htk:l.take k=l:=List.take_of_length_le (by rw[←Hn1.out];omega);rw[htk] at Ha hown;have Hall:=Ha;have hts:=hown.sl;clear hown Ha hs hs1 htk;rw[Hl.out] at hts Hall;obtain⟨a2,n2,cap2,rfl,Hn2,hm2,hcap2,hcm2,hts⟩:=hts.open;clear Hl Hn1;obtain⟨rk,op,bo,a,b,pl⟩:=r;have hkd:=zy5 Hok.out;have Hpf:=Lib.hid hw.pl.field.1;rcases hkd with rfl|rfl|rfl|rfl|rfl
   ·obtain rfl:n2=1:=by rw[Hn2.out];simp[ze]
    obtain⟨b_t,off_t,t,rfl,⟨Hg_t,hl_t,hw_t,c_t0,c_t1,r_t0⟩⟩:=hts.ty 0 om;have Ht:Hid (t=(opTy ts a).1):=by have:=Hg_t.out;simp[ze] at this;exact this.symm
    have Hs:Hid (rvTy ts ⟨1,op,bo,a,b,pl⟩=(t,0)):=by
     show _=_;unfold rvTy;rw[if_pos rfl,Ht.out,←Hall.out a (by simp[ze])]
    simp only[Nat.zero_mul,Nat.add_zero] at c_t0 c_t1 r_t0;go_wp2_with fail
    ((try simp only[Exit.inBlock,Exit.then]);refine zf (by simp only[results,Tryz.results131];go_simp;rfl) rfl gw ?_)
    rw[Hs.out]
   ·obtain rfl:n2=2:=by rw[Hn2.out];simp[ze]
    have Ha2:=Hall.out a (by simp[ze]);have Hb2:=Hall.out b (by simp[ze]);have Hs:Hid (rvTy ts ⟨2,op,bo,a,b,pl⟩=if (opTy ts a).1.kind=1∧(opTy ts b).1.kind=1 then (⟨1,0⟩,0) else (⟨0,0⟩,42)):=by
     show _=_;unfold rvTy;rw[if_neg (by show ¬(2:Int)=1;decide),if_neg (by show ¬(2:Int)=3;decide),if_pos rfl,zqt Ha2 Hb2];split<;>rfl
    clear Ha2 Hb2;go_wp2_with fail;go_loop [11] (fun i=>∃ j:Nat,j≤2∧i = .int .i64 j∧Hid (∀ q:Nat,q<j→∀ z,((ze ⟨2,op,bo,a,b,pl⟩).map fun o=>(opTy ts o).1)[q]?=some z→z.kind=1)) (fun i=>2 - (intOf i).toNat)
    case atStart=>exact⟨0,by omega,rfl,fun q hq=>by omega⟩
    case round =>
     obtain⟨j,hj,rfl,Hj⟩:=hrel;by_cases hj2:j<2
     ·obtain⟨b_t,off_t,t,rfl,⟨Hg_t,hl_t,hw_t,c_t0,c_t1,r_t0⟩⟩:=hts.ty j hj2;go_wp2_with fail
      ·((try simp only[Exit.inBlock,Exit.then]);refine zf (by simp only[results,Tryz.results131];go_simp;rfl) rfl gw ?_)
       rw[Hs.out,if_neg];rintro⟨z1,z2⟩;have:=Hg_t.out
       obtain rfl|rfl:j=0∨j=1:=om;all_goals (simp[ze] at this;subst this;go_light;grind)
      ·go_round
       case rel=>exact⟨j+1,by omega,by go_num,fun q hq z hz=>by
        by_cases e:q=j
        ·subst e;rw[Hg_t.out] at hz;injection hz with hz;subst hz;go_light;grind
        ·exact Hj.out q om z hz⟩
       case measure=>exact me
     ·obtain rfl:j=2:=om;have e1:=Hj.out 0 om (opTy ts a).1 (by simp[ze]);have e2:=Hj.out 1 om (opTy ts b).1 (by simp[ze]);have Hs2:Hid (rvTy ts ⟨2,op,bo,a,b,pl⟩=(⟨1,0⟩,0)):=by show _=_;rw[Hs.out,if_pos ⟨e1,e2⟩]
      clear e1 e2;go_wp2_with fail
      ((try simp only[Exit.inBlock,Exit.then]);refine zf (by simp only[results,Tryz.results131];go_simp;rfl) rfl gw ?_)
      rw[Hs2.out]
   ·obtain rfl:n2=2:=by rw[Hn2.out];simp[ze]
    have Ha2:=Hall.out a (by simp[ze]);have Hb2:=Hall.out b (by simp[ze]);have Hs:Hid (rvTy ts ⟨3,op,bo,a,b,pl⟩=if (opTy ts a).1.kind=1∧(opTy ts b).1.kind=1 then (⟨2,0⟩,0) else (⟨0,0⟩,42)):=by
     show _=_;unfold rvTy;rw[if_neg (by show ¬(3:Int)=1;decide),if_pos rfl,zqt Ha2 Hb2];split<;>rfl
    clear Ha2 Hb2;go_wp2_with fail;go_loop [11] (fun i=>∃ j:Nat,j≤2∧i = .int .i64 j∧Hid (∀ q:Nat,q<j→∀ z,((ze ⟨3,op,bo,a,b,pl⟩).map fun o=>(opTy ts o).1)[q]?=some z→z.kind=1)) (fun i=>2 - (intOf i).toNat)
    case atStart=>exact⟨0,by omega,rfl,fun q hq=>by omega⟩
    case round =>
     obtain⟨j,hj,rfl,Hj⟩:=hrel;by_cases hj2:j<2
     ·obtain⟨b_t,off_t,t,rfl,⟨Hg_t,hl_t,hw_t,c_t0,c_t1,r_t0⟩⟩:=hts.ty j hj2;go_wp2_with fail
      ·((try simp only[Exit.inBlock,Exit.then]);refine zf (by simp only[results,Tryz.results131];go_simp;rfl) rfl gw ?_)
       rw[Hs.out,if_neg];rintro⟨z1,z2⟩;have:=Hg_t.out
       obtain rfl|rfl:j=0∨j=1:=om;all_goals (simp[ze] at this;subst this;go_light;grind)
      ·go_round
       case rel=>exact⟨j+1,by omega,by go_num,fun q hq z hz=>by
        by_cases e:q=j
        ·subst e;rw[Hg_t.out] at hz;injection hz with hz;subst hz;go_light;grind
        ·exact Hj.out q om z hz⟩
       case measure=>exact me
     ·obtain rfl:j=2:=om;have e1:=Hj.out 0 om (opTy ts a).1 (by simp[ze]);have e2:=Hj.out 1 om (opTy ts b).1 (by simp[ze]);have Hs2:Hid (rvTy ts ⟨3,op,bo,a,b,pl⟩=(⟨2,0⟩,0)):=by show _=_;rw[Hs.out,if_pos ⟨e1,e2⟩]
      clear e1 e2;go_wp2_with fail
      ((try simp only[Exit.inBlock,Exit.then]);refine zf (by simp only[results,Tryz.results131];go_simp;rfl) rfl gw ?_)
      rw[Hs2.out]
   ·obtain rfl:n2=0:=by rw[Hn2.out];simp[ze]
    have Hs:Hid (rvTy ts ⟨4,op,bo,a,b,pl⟩=borTy ts ⟨4,op,bo,a,b,pl⟩):=by
     show _=_;unfold rvTy;rw[if_neg (by show ¬(4:Int)=1;decide),if_neg (by show ¬(4:Int)=3;decide),if_neg (by show ¬(4:Int)=2;decide)]
    have Ht:=@ziq ts pl;have HT:=Lib.hid Ht;clear Ht;go_wp2_with (first|(go_at_call 177;((with_reducible refine(zf1 _ ts pl _ hv.m).mono ?_);rw[zmf ts pl Hpf.out];rintro e w3 ⟨rfl,hb3⟩;obtain⟨x3,rfl⟩:=za hb3;clear hb3))|(go_at_call 178;((with_reducible refine(zhm _ ts pl _ hv.m).mono ?_);rw[zjm ts pl Hpf.out];rintro e w4 ⟨rfl,hb4⟩;obtain⟨x4,rfl⟩:=za hb4;clear hb4)));all_goals ((try simp only[Exit.inBlock,Exit.then]);refine zf (by simp only[results,Tryz.results131];go_simp;rfl) rfl gw ?_)
    all_goals (rw[Hs.out];go_light;have hT:=HT.out;clear hts Hn2 hw Hok Hall Hs HT;grind [borTy])
   ·obtain rfl:n2=0:=by rw[Hn2.out];simp[ze]
    have Hs:Hid (rvTy ts ⟨5,op,bo,a,b,pl⟩=borTy ts ⟨5,op,bo,a,b,pl⟩):=by
     show _=_;unfold rvTy;rw[if_neg (by show ¬(5:Int)=1;decide),if_neg (by show ¬(5:Int)=3;decide),if_neg (by show ¬(5:Int)=2;decide)]
    have Ht:=@ziq ts pl;have HT:=Lib.hid Ht;clear Ht;go_wp2_with (first|(go_at_call 177;((with_reducible refine(zf1 _ ts pl _ hv.m).mono ?_);rw[zmf ts pl Hpf.out];rintro e w3 ⟨rfl,hb3⟩;obtain⟨x3,rfl⟩:=za hb3;clear hb3))|(go_at_call 178;((with_reducible refine(zhm _ ts pl _ hv.m).mono ?_);rw[zjm ts pl Hpf.out];rintro e w4 ⟨rfl,hb4⟩;obtain⟨x4,rfl⟩:=za hb4;clear hb4)));all_goals ((try simp only[Exit.inBlock,Exit.then]);refine zf (by simp only[results,Tryz.results131];go_simp;rfl) rfl gw ?_)
    all_goals (rw[Hs.out];go_light;have hT:=HT.out;clear hts Hn2 hw Hok Hall Hs HT;grind [borTy])
def zga (ts : List Ty)(p : Pl)(t : Ty): Int:=if plaWr ts p≠0 then plaWr ts p else if (plaTy ts p).1.kind=t.kind∧(plaTy ts p).1.to=t.to then 0 else 42
theorem zks (v : Value)(ts : List Ty)(p : Pl)(t : Ty)(w : World){F : Nat→Prop}(hv : Sl F w v ts):
  Calls Tryz.prog 111 #[v,p.v,t.v] w (Ret w (.int .i64 (zga ts p t))):=by
 go_enter Tryz.func111,Tryz.ntmps111
 go_wp2_with (first|(go_at_call 159;((with_reducible refine armV (zix _ ts p _ hv.m) ?_);intro x1))|(go_at_call 154;((with_reducible refine armV (zc1 _ ts p _ hv.m) ?_);intro x2)));all_goals go_ret
 all_goals (refine Ret.int ?_ gw)
 all_goals (go_light;unfold zga;grind)
theorem zmh (v : Value)(ts : List Ty)(p : Pl)(t : Ty)(w : World){F : Nat→Prop}(hv : Sl F w v ts)(hp : p.wf):
  Calls Tryz.prog 132 #[v,p.v,t.v] w (Ret w (.int .i64 (zga ts p t))):=by
 have Hpf:=Lib.hid hp.field.1;go_enter Tryz.func132,Tryz.ntmps132
 go_wp2_with (first|(go_at_call 177;((with_reducible refine(zf1 _ ts p _ hv.m).mono ?_);rw[zmf ts p Hpf.out];rintro e w3 ⟨rfl,hb3⟩;obtain⟨x3,rfl⟩:=za hb3;clear hb3))|(go_at_call 178;((with_reducible refine(zhm _ ts p _ hv.m).mono ?_);rw[zjm ts p Hpf.out];rintro e w4 ⟨rfl,hb4⟩;obtain⟨x4,rfl⟩:=za hb4;clear hb4)));all_goals go_ret
 all_goals (refine Ret.int ?_ gw)
 all_goals (go_light;unfold zga;grind)
def zgs (ts : List Ty)(o : Opd): Int:=zbq ts [o]
theorem zwt {ts : List Ty}{o : Opd}: zgs ts o=if (opTy ts o).2=0 then (if (opTy ts o).1.kind=1 then 0 else 42) else (opTy ts o).2:=by
 unfold zgs zbq;by_cases h:(opTy ts o).2=0
 ·have:=zj4 h
  simp only[intsL,h];generalize (opTy ts o).1=x at *;grind
 ·simp[intsL,h]
theorem zjn (v : Value)(ts : List Ty)(o : Opd)(w : World){F : Nat→Prop}(hv : Sl F w v ts)(hw : o.wf)(hk : o.kind=1∨o.kind=2∨o.kind=3):
  Calls Tryz.prog 133 #[v,o.v] w (Ret w (.int .i64 (zgs ts o))):=by
 have Hk:=Lib.hid hk;clear hk;go_enter Tryz.func133,Tryz.ntmps133
 go_wp2_with (first|(go_at_call 134;((with_reducible refine armV (zdr _ ts o _ hv.m hw Hk.out) ?_);intro x1)));all_goals go_ret
 all_goals (refine Ret.int ?_ gw)
 all_goals (go_light;rw[zwt];grind)
def stTy (ts : List Ty)(s : St): Int :=
 if s.kind=1 then (if (rvTy ts s.r).2≠0 then (rvTy ts s.r).2 else zga ts s.pl (rvTy ts s.r).1)
 else if s.kind=3 then (if (ts.length:Int)≤s.loc then 6 else 0)
 else zgs ts s.a
def zds (ts : List Ty)(s : St): Int:=if zbh ts≠0 then zbh ts else if stErr s≠0 then stErr s else stTy ts s
theorem z2y {s : St}(h : stOk s=true)(h1 : s.kind≠1)(h3 : s.kind≠3): s.a.kind=1∨s.a.kind=2∨s.a.kind=3:=by
 have:zn s.a=0:=by unfold stOk at h;grind
 have:=(zck s.a).1 this;rcases this with q|q;exact Or.inl q.1;exact Or.inr q.1
theorem st_rv {s : St}(h : stOk s=true)(h1 : s.kind=1): rvOk s.r=true:=by unfold stOk at h;grind
theorem zmi (v : Value)(ts : List Ty)(s : St)(w : World){F : Nat→Prop}(hv : Sl F w v ts)(hw : s.wf)(hok : stOk s=true):
  Calls Tryz.prog 90 #[v,s.v] w (Ret w (.int .i64 (stTy ts s))):=by
 obtain⟨a,n,cap,rfl,Hn,hm,hcap,hcm,hv⟩:=hv.open;have hr:=hw.r;have hp:=hw.pl;have ha:=hw.a;have Hok:=Lib.hid hok;clear hok;by_cases h1:s.kind=1
 ·have Hr:=Lib.hid (st_rv Hok.out h1);have H1:=Lib.hid h1;have h1:(s.kind==1)=true:=by simpa using h1
  go_enter Tryz.func90,Tryz.ntmps90
  go_wp2_with (first|(go_at_call 131;((with_reducible refine armV (zr9 _ ts s.r _ hv.m hr Hr.out) ?_);intro x1))|(go_at_call 132;((with_reducible refine armV (zmh _ ts s.pl (rvTy ts s.r).1 _ hv.m hp) ?_);intro x2)));all_goals go_ret
  all_goals (refine Ret.int ?_ gw)
  all_goals (go_light;have q1:=H1.out;unfold stTy;grind)
 ·have H1:=Lib.hid h1;have h1:(s.kind==1)=false:=by simpa using h1
  by_cases h3:s.kind=3
  ·have H3:=Lib.hid h3;have h3:(s.kind==3)=true:=by simpa using h3
   go_enter Tryz.func90,Tryz.ntmps90
   go_wp2_with fail;all_goals go_ret
   all_goals (refine Ret.int ?_ gw)
   all_goals (go_light;have q1:=H1.out;have q2:=H3.out;have q3:=Hn.out;unfold stTy;rw[←q3];grind)
  ·have H3:=Lib.hid h3;have Hk:=Lib.hid (z2y Hok.out H1.out H3.out);have h3:(s.kind==3)=false:=by simpa using h3
   go_enter Tryz.func90,Tryz.ntmps90
   go_wp2_with (first|(go_at_call 133;((with_reducible refine armV (zjn _ ts s.a _ hv.m ha Hk.out) ?_);intro x1)));all_goals go_ret
   all_goals (refine Ret.int ?_ gw)
   all_goals (go_light;have q1:=H1.out;have q2:=H3.out;unfold stTy;grind)
end Go.Proofs.YtacmoaeglbggjaaGreat
