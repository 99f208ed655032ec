/- A part of the proof. -/
import Derived.Test.YtllodfoldffonaaGreatDoorQ01
namespace Go.Proofs.YtllodfoldffonaaGreatDoor.AM
open Go.RowKit
set_option linter.unusedSimpArgs false
set_option linter.unusedVariables false
set_option maxRecDepth 100000
set_option maxHeartbeats 16000000
variable {H:Hp}{P:Program}{X:Nat->Prop}{d:Nat}{ps:List (Nat×AV)}{qs:List (Nat×Value)}{run:Result Next}{t:TypeId}{u:Value}{w:World}{x:AV}
def mkS:Id:=.l 1000000007
def xw (P:Program)(d:Nat)(H:Hp)(t:TypeId)(x y:AV): Eff:=match P.underlying t with
 |some (.slice e)=>(match xN P e,vq P e with
  |some s,some z=>(match qc H s y with
   |some (c,yr)=>.req (c/\0<s/\z.cells.size=s/\yr.all (·.all xW)=true) (match x with
    |.nils=>.req (H (.l d)=none/\yr.length<=2147483648) (.mk (.l d) (λb c=>⟨b,c,s,e,yr,false⟩) (λb c=>.sl (.l d) b s yr.length c))
    |.sl i b sz n cap=>if i=mkS then .req (n=0/\cap=0/\H (.l d)=none/\yr.length<=2147483648) (.mk (.l d) (λb c=>⟨b,c,s,e,yr,false⟩) (λb c=>.sl (.l d) b s yr.length c)) else(match H i with
     |some o=>.req (o.b=b/\o.cap=cap/\o.sz=sz/\sz=s/\o.ty=e/\o.fz=false/\n<=o.rows.length/\n+yr.length<=2147483648)
       (.mk i (λa f=>⟨a,f,s,e,o.rows.take n++yr,false⟩) (λa f=>.sl i a s (n+yr.length) f))
     |none=>.no)
    |.so i b sz r n cap=>(match H i with
     |some o=>.req (r=0/\o.b=b/\o.cap=cap/\o.sz=sz/\sz=s/\o.ty=e/\o.fz=false/\n+yr.length<=o.rows.length) (.wr i { o with rows:=o.rows.take n++(yr++o.rows.drop (n+yr.length)) } (.so i b sz 0 (n+yr.length) cap))
     |none=>.no)
    |_=>.no)
   |none=>.no)
  |_,_=>.no)
 |_=>.no
theorem RL.onec_flat{l:List (List AV)}{cs:List Value}(h:RL X w l.flatten cs)(c:l.all (·.all xW)=true): ∀u∈cs,u.oneCell'=true:=by
 refine h.one_all ?_;simp only[List.all_eq_true] at c ⊢;intro a b;obtain⟨r,e,b⟩:=List.mem_flatten.1 b;exact c r e a b
theorem cC (off:Nat): ∀(a:List Value)(k:Nat) (c:Array Value),off+k+a.length<=c.size ->
  ((a.zipIdx k).foldl (λcs (x:Value×Nat)=>cs.setIfInBounds (off+x.2) x.1) c).toList=c.toList.take (off+k)++(a++c.toList.drop (off+k+a.length))
 |[],k,c,h=>by simp
 |v::a,k,c,h=>by
  simp only[List.zipIdx_cons,List.foldl_cons];simp only[List.length_cons] at h;rw[cC off a (k+1) _ (by simp;omega)];have b:off+k<c.toList.length:=by simp;omega
  simp only[Array.toList_setIfInBounds];rw[show off+(k+1)=(off+k)+1 by omega,List.take_add_one,List.take_set_of_le (Nat.le_refl _)];simp only[List.getElem?_set_self b,Option.toList_some,List.append_assoc,List.singleton_append,List.cons_append,List.length_cons,List.nil_append];rw[List.drop_set_of_lt (by omega),show off+k+1+a.length=off+k+(a.length+1) by omega]
def oO (a:Nat->Option (Nat×Nat)): List AV->List (Nat×AV)->Option (List AV)
 |l,[]=>some l
 |l,(i,v)::rest=>match a i,yo v with
  |some (off,sz),some c=>if c.length=sz/\off+sz<=l.length then oO a (l.take off++(c++l.drop (off+sz))) rest else none
  |_,_=>none
def RP (F:Nat->Prop)(w:World): List (Nat×AV)->List (Nat×Value)->Prop
 |[],q=>q = []
 |(i,a)::p,q=>∃v r,q=(i,v)::r/\RV F w a v/\RP F w p r
theorem ms {F:Nat->Prop}{w:World}{b:Nat->Option (Nat×Nat)}: ∀ {p:List (Nat×AV)} {q:List (Nat×Value)} {l l':List AV} {c:Array Value},RP F w p q->RL F w l c.toList->oO b l p=some l' ->
  ∃f,Instr.fill b c q=some f/\RL F w l' f.toList/\f.size=c.size
 |[],q,l,l',c,hp,hl,h=>by
  simp only[RP] at hp;subst hp;simp only[oO] at h;injection h with h;subst h;exact⟨c,rfl,hl,rfl⟩
 |(i,a)::p,q,l,l',c,hp,hl,h=>by
  simp only[RP] at hp;obtain⟨v,r,rfl,y,z⟩:=hp;simp only[oO] at h;split at h
  ·rename_i off sz s hpl j;split at h
   ·rename_i hle;obtain⟨o,C⟩:=y.cells j;have m:=hl.length;have k:=o.length;simp only[Array.length_toList] at m k;have n:=cC off v.cells.toList 0 c (by simp;omega);simp only[Nat.add_zero] at n;have e:(v.cells.zipIdx.foldl (λcs (x:Value×Nat)=>cs.setIfInBounds (off+x.2) x.1) c).toList=c.toList.take off++(v.cells.toList++c.toList.drop (off+v.cells.toList.length)):=by
     rw[<-Array.foldl_toList,Array.toList_zipIdx];exact n
    have g:RL F w (l.take off++(s++l.drop (off+sz))) (v.cells.zipIdx.foldl (λcs (x:Value×Nat)=>cs.setIfInBounds (off+x.2) x.1) c).toList:=by
     rw[e];have hx:off+v.cells.toList.length=off+sz:=by simp;omega
     rw[hx];exact(hl.take off).append (o.append (hl.drop (off+sz)))
    obtain⟨f,k1,A,B⟩:=ms z g h;refine⟨f,?_,A,?_⟩
    ·simp only[Instr.fill,hpl];rw[if_neg (by simp;omega)];exact k1
    ·rw[B,<-Array.length_toList,e];simp;omega
   ·cases h
  ·cases h
def nH (P:Program): List Field->Option (List (Nat×Nat))
 |[]=>some []
 |f::fs=>match xN P f.type,nH P fs with
  |some n,some l=>some ((f.offset,n)::l)
  |_,_=>none
theorem gE {P:Program}(w:World): ∀ {fs:List Field} {l:List (Nat×Nat)},nH P fs=some l->(fs.mapM (λf=>do pure (f.offset,<-sizeOf f.type)):Sem (List (Nat×Nat))).run P w = .ok l w
 |[],l,h=>by simp only[nH] at h;injection h with h;subst h;rfl
 |f::fs,l,h=>by
  simp only[nH] at h;split at h
  ·rename_i n l' a b;injection h with h;subst h;have:=gE w b
   simp only[List.mapM_cons,Sem.run_bind,yC a,Result.andThen_ok,Sem.run_pure,this]
  ·cases h
def ux (P:Program)(t:TypeId): Option (List AV):=(vq P t).map λz=>z.cells.toList.map av1
def pR (P:Program)(t:TypeId)(ps:List (Nat×AV)): Eff:=match ux P t,P.underlying t with
 |some z,some (.struct fs)=>(match nH P fs.toList with
  |some pl=>(match oO (pl[·]?) z ps with|some l=>.val (.agg l)|none=>.no)
  |none=>.no)
 |some z,some (.array _ e)=>(match xN P e with
  |some s=>(match oO (λi=>some (i*s,s)) z ps with|some l=>.val (.agg l)|none=>.no)
  |none=>.no)
 |_,_=>.no
theorem Te(hp:RP (zp X H) w ps qs)
  (c:run=(do let z <-Instr.build t qs.toArray;pure (Next.value z):Sem Next).run P w):(pR P t ps).Ok P X H w run:=by
 unfold pR;split<;>try trivial
 ·rename_i z fs a h;split<;>try trivial
  rename_i pl hpl;split<;>try trivial
  rename_i l hl;unfold ux at a;cases b:vq P t with
  |none=>rw[b] at a;cases a
  |some k =>
   rw[b] at a;injection a with a;subst a;obtain⟨f,k1,i,j⟩:=ms hp (RL.av1 _ _ _) hl;refine⟨.agg f,?_,by simp only[RV];exact⟨f.toList,by simp,i⟩⟩;have g:=gE w hpl;rw[c];simp only[Instr.build,Sem.run_bind,vx b,run_underlying h,Result.andThen_ok,Array.mapM_eq_mapM_toList,Sem.run_map,g];simp[k1]
 ·rename_i z n e a h;split<;>try trivial
  rename_i s hs;split<;>try trivial
  rename_i l hl;unfold ux at a;cases b:vq P t with
  |none=>rw[b] at a;cases a
  |some k =>
   rw[b] at a;injection a with a;subst a;obtain⟨f,k1,i,j⟩:=ms hp (RL.av1 _ _ _) hl;refine⟨.agg f,?_,by simp only[RV];exact⟨f.toList,by simp,i⟩⟩;rw[c];simp[Instr.build,vx b,run_underlying h,yC hs,k1]
def tI {a:Type}(s:Nat): Nat->List a->List (List a)
 |0,_=>[]
 |n+1,l=>l.take s::tI s n (l.drop s)
theorem ia {f:Type}{s:Nat}: ∀ {n:Nat} {l:List f},l.length=n*s->(tI s n l).flatten=l/\(tI s n l).length=n/\∀r∈tI s n l,r.length=s
 |0,l,h=>by
  have:l = []:=List.eq_nil_of_length_eq_zero (by simpa using h)
  subst this;simp[tI]
 |n+1,l,h=>by
  rw[Nat.succ_mul] at h;obtain⟨b,c,e⟩:=ia (s:=s) (n:=n) (l:=l.drop s) (by simp;omega);refine⟨by simp[tI,b],by simp[tI,c],λr a=>?_⟩;simp only[tI,List.mem_cons] at a;rcases a with rfl|a
  ·simp;omega
  ·exact e r a
theorem qy {a:Array Value}{s:Nat}(b:a.size=s)(hs:0<s)(n:Nat): ((Array.range (n*s)).map (λi=>a[i%a.size]!)).toList=(List.replicate n a.toList).flatten:=by
 apply List.ext_getElem
 ·simp[b]
 ·intro i f g;simp at f;have e:∀(n i:Nat)(h:i<(List.replicate n a.toList).flatten.length),(List.replicate n a.toList).flatten[i]=a[i%s]!:=by
   intro n;induction n with
   |zero=>intro i h;simp at h
   |succ n ih =>
    intro i h;simp only[List.replicate_succ,List.flatten_cons];by_cases c:i<a.toList.length
    ·rw[List.getElem_append_left c,Nat.mod_eq_of_lt (by simp at c;omega)];simp at c;rw[getElem!_pos a i c];simp
    ·rw[List.getElem_append_right (by omega),ih];simp only[Array.length_toList] at c ⊢;rw[b] at c ⊢;congr 1
     exact(Nat.mod_eq_sub_mod (by omega)).symm
  rw[e];simp[b]
theorem nI (n:Nat)(l:List Value): (List.replicate n l).flatten.map av1=(List.replicate n (l.map av1)).flatten:=by simp[List.map_flatten,List.map_replicate]
def tJ (P:Program)(d:Nat)(H:Hp)(t:TypeId)(n:Nat)(ps:List (Nat×AV)): Eff:=match P.underlying t with
 |some (.slice e)=>(match xN P e,ux P e with
  |some s,some z=>(match oO (λi=>some (i*s,s)) (List.replicate n z).flatten ps with
   |some l=>.req (H (.l d)=none/\0<s/\z.length=s/\n*s<=16777216)
     (.mk (.l d) (λb _=>⟨b,n,s,e,tI s n l,false⟩) (λb _=>.sl (.l d) b s n n))
   |none=>.no)
  |_,_=>.no)
 |_=>.no
theorem VM{n:Nat}(M:HOk X H w)(hp:RP (zp X H) w ps qs)
  (r:run=(do let z <-Instr.buildSlice t n qs.toArray;pure (Next.value z):Sem Next).run P w):(tJ P d H t n ps).Ok P X H w run:=by
 unfold tJ;split<;>try trivial
 rename_i e J;split<;>try trivial
 rename_i s z hs k;split<;>try trivial
 rename_i l hl;rintro⟨N,g,E,D⟩;unfold ux at k;cases m:vq P e with
 |none=>rw[m] at k;cases k
 |some v =>
  rw[m] at k;injection k with k;subst k;have G:v.cells.size=s:=by simpa using E
  have L:RL (zp X H) w (List.replicate n (v.cells.toList.map av1)).flatten ((Array.range (n*s)).map (λi=>v.cells[i%v.cells.size]!)).toList:=by
   rw[qy G g,<-nI];exact RL.av1 _ _ _
  obtain⟨p,k1,K,Q⟩:=ms hp L hl;have a:p.size=n*s:=by rw[Q];simp
  have A:l.length=n*s:=by rw[K.length];simp[a]
  obtain⟨R,S,T⟩:=ia (s:=s) (n:=n) (l:=l) A;obtain⟨U,V⟩:=HOk.new (i:=.l d) (o:=⟨w.heap.size,n,s,e,tI s n l,false⟩) (c:=p) M N rfl rfl w ⟨rfl,rfl,rfl,rfl⟩ (λh=>by simp at h;subst h;rfl) a (by simp[S])
   (λF w' y hb=>uU (cs:=p.toList) T (by rw[R];exact RL.mono y _ _ K) (by rw[xD hb];intro j W;simp))
  have hn:n<=16777216:=Nat.le_trans (Nat.le_mul_of_pos_right n g) D;refine⟨w.heap.size,0,.slice (some ⟨w.heap.size,0,none⟩) n n,w.alloc (.cells p e),?_,U,V,by simp only[RV];exact⟨Nat.le_refl _,by omega,_,rfl,Or.inl rfl⟩⟩;rw[r];have O:¬(n*s>2 ^ 24):=(by omega)
  have b:∀f:Nat->Value,Array.map f (Array.range 0) = #[]:=λf=>Array.eq_empty_of_size_eq_zero (by simp);by_cases B:n=0
  ·subst B;have I:Instr.fill (λi=>some (i*s,s)) #[] qs=some p:=by rw[Nat.zero_mul,b] at k1;exact k1
   simp[Instr.buildSlice,run_underlying J,yC hs,b,I,newRow]
  ·have C:¬(n*s=0):=Nat.ne_of_gt (Nat.mul_pos (by omega) g);have q:¬(16777216<n*s):=(by omega)
   simp[Instr.buildSlice,run_underlying J,yC hs,vx m,q,C,k1,newRow]
def kV (P:Program)(d:Nat)(H:Hp)(t:TypeId)(a c:Int): Eff:=match P.underlying t with
 |some (.slice e)=>(match xN P e,ux P e with
  |some s,some z=>.req (H (.l d)=none/\0<s/\z.length=s/\0<=a/\a<=c/\c<=2147483648)
    (.mk (.l d) (λb _=>⟨b,c.toNat,s,e,List.replicate a.toNat z,false⟩) (λb _=>.sl (.l d) b s a.toNat c.toNat))
  |_,_=>.no)
 |_=>.no
theorem Tf {n:Int}(h:-9223372036854775808<=n/\n<=9223372036854775807): IntKind.i64.wrap n=n:=by
 simp only[IntKind.wrap,IntKind.bits,IntKind.signed];simp;omega
theorem Rl(S:∀t,(P.types[t]?).isSome=true->P.bytesOf t<=65536){k k':IntKind}{a c:Int}(T:HOk X H w)
  (C:run=(do let z <-Instr.makeSlice t (.int k a) (.int k' c);pure (Next.value z):Sem Next).run P w):(kV P d H t a c).Ok P X H w run:=by
 unfold kV;split<;>try trivial
 rename_i e N;split<;>try trivial
 rename_i s z hs p;rintro⟨Y,D,L,h0,U,W⟩;unfold ux at p;cases m:vq P e with
 |none=>rw[m] at p;cases p
 |some b =>
  rw[m] at p;injection p with p;subst p;have y:b.cells.size=s:=by simpa using L
  obtain⟨i,z,hi,p,h2,V,_⟩:=(SlP.mk' S N hs m y).ex;have g:(((Array.range (c.toNat*s)).map (λi=>b.cells[i%b.cells.size]!))).size=c.toNat*s:=by simp
  obtain⟨q1,q2⟩:=HOk.new (i:=.l d) (o:=⟨w.heap.size,c.toNat,s,e,List.replicate a.toNat (b.cells.toList.map av1),false⟩) (c:=(Array.range (c.toNat*s)).map (λi=>b.cells[i%b.cells.size]!)) T Y rfl rfl w ⟨rfl,rfl,rfl,rfl⟩
   (λh=>by
     simp at h;have:a.toNat=0:=(by omega)
     simp[this]) g (by simp;omega)
   (λF w' Z hb=>uU (cs:=(List.replicate a.toNat b.cells.toList).flatten) (λr O=>by simp at O;rw[O.2];simp[y]) (by rw[<-nI];exact RL.av1 _ _ _) (by
    rw[xD hb];intro j hj;have Q:c.toNat=a.toNat+(c.toNat-a.toNat):=(by omega)
    have M:=qy y D c.toNat
    have R:(List.replicate c.toNat b.cells.toList).flatten=(List.replicate a.toNat b.cells.toList).flatten++(List.replicate (c.toNat-a.toNat) b.cells.toList).flatten:=by
     rw[<-List.flatten_append,List.replicate_append_replicate,<-Q]
    rw[R] at M;rw[Nat.zero_add,<-Array.getElem?_toList,M,List.getElem?_append_left hj]))
  refine⟨w.heap.size,0,.slice (some ⟨w.heap.size,0,none⟩) a.toNat c.toNat,w.alloc (.cells ((Array.range (c.toNat*s)).map (λi=>b.cells[i%b.cells.size]!)) e),?_,q1,q2,by simp only[RV];exact⟨by omega,by omega,_,rfl,Or.inl rfl⟩⟩;rw[C];have J:=Tf (n:=a) (by omega);have K:=Tf (n:=c) (by omega);have I:∀w,(typeInfo e).run P w = .ok i w:=λw=>by simp[typeInfo,hi,pC]
  have A:¬((i.bytes:Int)*c>281474976710656):=by
   have h1:(i.bytes:Int)*c<=65536*2147483648:=Int.mul_le_mul (by omega) W (by omega) (by omega);omega
  have v:∀w,(askRoom (c.toNat*i.bytes)).run P w = .ok () w:=λw=>by unfold askRoom;split<;>rfl
  have q:(decide (c<0)||decide ((i.bytes:Int)*c>2 ^ 48)||decide (a<0)||decide (a>c))=false:=by
   simp only[Bool.or_eq_false_iff,decide_eq_false_iff_not];exact⟨⟨⟨by omega,by simpa using A⟩,by omega⟩,by omega⟩
  have B:∀f:Nat->Value,Array.map f (Array.range 0) = #[]:=λf=>Array.eq_empty_of_size_eq_zero (by simp);simp only[Instr.makeSlice,Sem.run_bind,run_underlying N,Result.andThen_ok,asInt,asIntOf,Sem.run_pure,I,J,K,yC hs];simp only[q,Bool.false_eq_true,if_false,Sem.run_bind,v,Result.andThen_ok,yC hs];by_cases E:c.toNat=0
  ·simp[E,newRow,B]
  ·have G:¬(c.toNat*s=0):=Nat.ne_of_gt (Nat.mul_pos (by omega) D);simp[G,vx m,newRow]
theorem cD {b:Type}{sz:Nat}: ∀ {l:List (List b)} (_:∀q∈l,q.length=sz) (r:Nat),(l.take r).flatten=l.flatten.take (r*sz)
 |[],_,r=>by simp
 |q::l,h,0=>by simp
 |q::l,h,r+1=>by
  have a:=h q (by simp);simp only[List.take_succ_cons,List.flatten_cons];rw[cD (λq a=>h q (by simp[a])) r,List.take_append,a];rw[List.take_of_length_le (l:=q) (by rw[a,Nat.succ_mul];omega),show(r+1)*sz-sz=r*sz by rw[Nat.succ_mul];omega]
theorem cE {b:Type}{sz:Nat}: ∀ {l:List (List b)} (_:∀q∈l,q.length=sz) (r:Nat),(l.drop r).flatten=l.flatten.drop (r*sz)
 |[],_,r=>by simp
 |q::l,h,0=>by simp
 |q::l,h,r+1=>by
  have a:=h q (by simp);simp only[List.drop_succ_cons,List.flatten_cons];rw[cE (λq a=>h q (by simp[a])) r,List.drop_append,a];rw[List.drop_of_length_le (l:=q) (by rw[a,Nat.succ_mul];omega),List.nil_append,show(r+1)*sz-sz=r*sz by rw[Nat.succ_mul];omega]
theorem pS{i:Id}{o:Ob}(J:HOk X H w)(F:H i=some o)(g:o.cap≠0)(hfz:o.fz=false){r:Nat}{yr:List (List AV)}{xs:List Value}(R:r+yr.length<=o.rows.length)
  (D:∀q∈yr,q.length=o.sz) (C:RL (zp X H) w yr.flatten xs) (z:∀u∈xs,u.oneCell'=true) :
  ∃w',(storeCells ⟨o.b,r*o.sz,none⟩ xs).run P w = .ok () w'/\HOk X (ze H i { o with rows:=o.rows.take r++(yr++o.rows.drop (r+yr.length)) }) w' /\
   Ev (own H) w (own (ze H i { o with rows:=o.rows.take r++(yr++o.rows.drop (r+yr.length)) })) w':=by
 obtain⟨c,E,N,O,I⟩:=(J.ob i o F).2 g;obtain⟨cs,k1,K,U⟩:=I.flat
 have f:=I.rows;have B:xs.length=yr.length*o.sz:=by
  rw[<-C.length,List.length_flatten];have:yr.map List.length=List.replicate yr.length o.sz:=by
   apply List.ext_getElem
   ·simp
   ·intro j a b;simp;exact D _ (List.getElem_mem _)
  rw[this];simp
 have hle:r*o.sz+xs.length<=o.rows.length*o.sz:=by rw[B,<-Nat.add_mul];exact Nat.mul_le_mul_right _ R
 have S:o.rows.length*o.sz<=c.size:=by rw[N];exact Nat.mul_le_mul_right _ O
 have A:=run_storeCells_at (P:=P) o.b (r*o.sz) o.ty xs 0 c w E (by omega) z;simp only[Nat.add_zero] at A;rw[xD E] at K;refine⟨_,A,?_⟩;have m:=setRow_heap w o.b c (c.toList.take (r*o.sz)++xs++c.toList.drop (r*o.sz+xs.length)).toArray o.ty (0,0) E;have s:∀k,k≠o.b->(w.setRow o.b (c.toList.take (r*o.sz)++xs++c.toList.drop (r*o.sz+xs.length)).toArray).heap[k]?=w.heap[k]?:=λk v=>setRow_other w o.b k _ v;refine HOk.put (i:=i) (o:={ o with rows:=o.rows.take r++(yr++o.rows.drop (r+yr.length)) }) J (w':=w.setRow o.b (c.toList.take (r*o.sz)++xs++c.toList.drop (r*o.sz+xs.length)).toArray) rfl rfl rfl (by simp) hfz
  (λb hb T Q=>s b (λe=>Q g e.symm)) (λ_=>Or.inr ⟨o,F,g,hfz,rfl⟩) (λp hp _=>by rw[F] at hp;injection hp with hp;subst hp;exact hfz) ?_
 intro n;refine⟨λh=>absurd h g,λ_=>⟨_,m,?_,?_,?_⟩⟩
 ·simp only[List.size_toArray,List.length_append,List.length_take,List.length_drop,Array.length_toList];omega
 ·simp only[List.length_append,List.length_take,List.length_drop];omega
 ·refine uU (cs:=cs.take (r*o.sz)++(xs++cs.drop ((r+yr.length)*o.sz))) (λq l=>?_) ?_ ?_
  ·rcases List.mem_append.1 l with l|l
   ·exact f q (List.mem_of_mem_take l)
   ·rcases List.mem_append.1 l with l|l
    ·exact D q l
    ·exact f q (List.mem_of_mem_drop l)
  ·rw[List.flatten_append,List.flatten_append,cD f,cE f];exact(RL.mono n _ _ (k1.take _)).append ((RL.mono n _ _ C).append (RL.mono n _ _ (k1.drop _)))
  ·rw[xD m];intro q l;have y:(r+yr.length)*o.sz=r*o.sz+xs.length:=by rw[B,Nat.add_mul]
   have G:q<cs.length:=by simp only[List.length_append,List.length_take,List.length_drop] at l;omega
   have v:=K q G;rw[Nat.zero_add] at v ⊢;rw[y];simp only[List.append_assoc,List.getElem?_toArray];have L:(c.toList.take (r*o.sz)).length=r*o.sz:=by simp;omega
   have M:(cs.take (r*o.sz)).length=r*o.sz:=by simp;omega
   by_cases c1:q<r*o.sz
   ·rw[List.getElem?_append_left (by omega),List.getElem?_append_left (by omega),List.getElem?_take_of_lt c1,List.getElem?_take_of_lt c1,<-v];simp
   ·rw[List.getElem?_append_right (l₁:=List.take (r*o.sz) c.toList) (by omega),List.getElem?_append_right (l₁:=List.take (r*o.sz) cs) (by omega),L,M];by_cases c2:q-r*o.sz<xs.length
    ·rw[List.getElem?_append_left c2,List.getElem?_append_left c2]
    ·rw[List.getElem?_append_right (l₁:=xs) (by omega),List.getElem?_append_right (l₁:=xs) (by omega),List.getElem?_drop,List.getElem?_drop];rw[show r*o.sz+xs.length+(q-r*o.sz-xs.length)=q by omega,<-v];simp
def gF (P:Program)(H:Hp)(t:TypeId)(x:AV): Eff:=match P.underlying t with
 |some (.slice e)=>(match ux P e,xN P e,x with
  |some z,some s,.sl i b sz n cap=>(match H i with
   |some o=>.req (o.b=b/\o.sz=sz/\sz=s/\z.length=s/\0<s/\o.cap=cap/\o.fz=false/\n<=o.rows.length/\z.all xW=true) (.wr i { o with rows:=List.replicate n z++o.rows.drop n } (.tup []))
   |none=>.no)
  |some z,some s,.so i b sz r n cap=>(match H i with
   |some o=>.req (o.b=b/\o.sz=sz/\sz=s/\z.length=s/\0<s/\o.cap=r+cap/\o.fz=false/\r+n<=o.rows.length/\z.all xW=true) (.wr i { o with rows:=o.rows.take r++(List.replicate n z++o.rows.drop (r+n)) } (.tup []))
   |none=>.no)
  |_,_,_=>.no)
 |_=>.no
theorem wS{i:Id}{o:Ob}(h:H i=some o): ze H i o=H:=by funext j;unfold ze;split<;>simp_all
theorem Tg{t ty:TypeId}(D:HOk X H w)(hx:RV (zp X H) w x u)
  (j:run=(do let z <-Builtin.clear_ #[t] ty #[u];pure (Next.value z):Sem Next).run P w):(gF P H t x).Ok P X H w run:=by
 unfold gF;split<;>try trivial
 rename_i e E;split<;>try trivial
 rename_i z s i b sz n cap g hs
 ·split<;>try trivial
  rename_i o v;rintro⟨rfl,rfl,rfl,m,J,rfl,hfz,hn,l⟩;unfold ux at g;cases h:vq P e with
  |none=>rw[h] at g;cases g
  |some f =>
   rw[h] at g;injection g with g;subst g;have B:f.cells.size=o.sz:=by simpa using m
   simp only[RV] at hx;obtain⟨L,M,a,rfl,p⟩:=hx;have k:RL (zp X H) w (List.replicate n (f.cells.toList.map av1)).flatten (List.replicate n f.cells.toList).flatten:=by rw[<-nI];exact RL.av1 _ _ _
   by_cases c:o.cap=0
   ·have O:=(D.ob i o v).1 c;obtain rfl:n=0:=(by omega)
    refine⟨.tuple #[],w,Or.inl ?_,?_,?_,?_⟩
    ·rw[j];cases a<;>simp[Builtin.clear_,run_underlying E]
    ·simp only[List.replicate_zero,List.drop_zero,List.nil_append];rw[wS v];exact D
    ·simp only[List.replicate_zero,List.drop_zero,List.nil_append];rw[wS v];exact Ev.refl _ _
    ·simp only[RV,RL];exact⟨[],rfl,rfl⟩
   ·have I:a=some ⟨o.b,0,none⟩:=by rcases p with p|p;exact p;exact absurd p c
    subst I;obtain⟨w',C,F,G⟩:=pS (P:=P) D v c hfz (r:=0) (yr:=List.replicate n (f.cells.toList.map av1)) (xs:=(List.replicate n f.cells.toList).flatten) (by simpa using hn) (λq y=>by simp at y;rw[y.2];simpa using m)
     k (k.onec_flat (List.all_eq_true.2 λq y=>by rw[(List.mem_replicate.1 y).2];exact l))
    simp only[Nat.zero_mul,List.take_zero,List.nil_append,Nat.zero_add,List.length_replicate] at C F G;refine⟨.tuple #[],w',Or.inl ?_,F,G,?_⟩
    ·rw[j];have A:(Builtin.zeroCells f.cells n).toList=(List.replicate n f.cells.toList).flatten:=qy (B▸rfl) (by omega) n;cases n with
     |zero =>
      simp only[List.replicate_zero,List.flatten_nil,storeCells,Sem.run_pure] at C;simp[Builtin.clear_,run_underlying E];injection C
     |succ n=>simp[Builtin.clear_,run_underlying E,vx h,A,C]
    ·simp only[RV,RL];exact⟨[],rfl,rfl⟩
 ·rename_i z s i b sz r n cap g hs;split<;>try trivial
  rename_i o v;rintro⟨rfl,rfl,rfl,m,J,N,hfz,hn,l⟩;unfold ux at g;cases h:vq P e with
  |none=>rw[h] at g;cases g
  |some f =>
   rw[h] at g;injection g with g;subst g;have B:f.cells.size=o.sz:=by simpa using m
   simp only[RV] at hx;obtain⟨L,M,a,rfl,p⟩:=hx;have k:RL (zp X H) w (List.replicate n (f.cells.toList.map av1)).flatten (List.replicate n f.cells.toList).flatten:=by rw[<-nI];exact RL.av1 _ _ _
   cases n with
   |zero =>
    have K:o.rows.take r++(List.replicate 0 (f.cells.toList.map av1)++o.rows.drop (r+0))=o.rows:=by simp
    rw[K];refine⟨.tuple #[],w,Or.inl ?_,(show HOk X (ze H i o) w by rw[wS v];exact D),(show Ev (own H) w (own (ze H i o)) w by rw[wS v];exact Ev.refl _ _),?_⟩
    ·rw[j];cases a<;>simp[Builtin.clear_,run_underlying E]
    ·simp only[RV,RL];exact⟨[],rfl,rfl⟩
   |succ n =>
    have c:o.cap≠0:=(by omega)
    have I:a=some ⟨o.b,r*o.sz,none⟩:=by rcases p with p|p;exact p;omega
    subst I;obtain⟨w',C,F,G⟩:=pS (P:=P) D v c hfz (r:=r) (yr:=List.replicate (n+1) (f.cells.toList.map av1)) (xs:=(List.replicate (n+1) f.cells.toList).flatten) (by simpa using hn) (λq y=>by rw[(List.mem_replicate.1 y).2];simpa using m)
     k (k.onec_flat (List.all_eq_true.2 λq y=>by rw[(List.mem_replicate.1 y).2];exact l))
    simp only[List.length_replicate] at C F G;refine⟨.tuple #[],w',Or.inl ?_,F,G,?_⟩
    ·rw[j];have A:(Builtin.zeroCells f.cells (n+1)).toList=(List.replicate (n+1) f.cells.toList).flatten:=qy (B▸rfl) (by omega) (n+1);simp[Builtin.clear_,run_underlying E,vx h,A,C]
    ·simp only[RV,RL];exact⟨[],rfl,rfl⟩
def bU (P:Program)(H:Hp)(t:TypeId)(x y:AV): Eff:=match P.underlying t with
 |some (.slice e)=>(match xN P e with
  |some s=>(match qc H s y,x with
   |some (c,yr),.sl i b sz n cap=>(match H i with
    |some o=>.req (c/\o.b=b/\o.sz=sz/\sz=s/\o.cap=cap/\o.fz=false/\n<=o.rows.length/\yr.length<=n/\yr.all (·.all xW)=true) (.wr i { o with rows:=yr++o.rows.drop yr.length } (.int .i64 yr.length))
    |none=>.no)
   |some (c,yr),.so i b sz r n cap=>(match H i with
    |some o=>.req (c/\o.b=b/\o.sz=sz/\sz=s/\o.cap=r+cap/\o.fz=false/\r+n<=o.rows.length/\yr.length<=n/\yr.all (·.all xW)=true) (.wr i { o with rows:=o.rows.take r++(yr++o.rows.drop (r+yr.length)) } (.int .i64 yr.length))
    |none=>.no)
   |_,_=>.no)
  |_=>.no)
 |_=>.no
theorem Rm{t ty:TypeId}{x y:AV}{u v:Value}(D:HOk X H w)(hx:RV (zp X H) w x u)(T:RV (zp X H) w y v)
  (h:run=(do let z <-Builtin.copy_ #[t,t] ty #[u,v];pure (Next.value z):Sem Next).run P w):(bU P H t x y).Ok P X H w run:=by
 unfold bU;split<;>try trivial
 rename_i e G;split<;>try trivial
 rename_i s hs;split<;>try trivial
 ·rename_i c yr i b sz n cap C;split<;>try trivial
  rename_i o q;rintro⟨N,rfl,rfl,rfl,rfl,hfz,hn,B,l⟩;obtain⟨L,c2,rfl,hm,A⟩:=jZ D T C N;simp only[RV] at hx;obtain⟨V,W,a,rfl,m⟩:=hx;by_cases f:yr = []
  ·subst f;refine⟨goInt 0,w,Or.inl ?_,?_,?_,?_⟩
   ·rw[h];cases a<;>cases L<;>simp[Builtin.copy_,run_underlying G,Builtin.lenOf,yC hs,Builtin.firstCells,loadCells,loadCellsFrom,storeCells]
   ·simp only[List.length_nil,List.drop_zero,List.nil_append];rw[wS q];exact D
   ·simp only[List.length_nil,List.drop_zero,List.nil_append];rw[wS q];exact Ev.refl _ _
   ·simp only[RV];rfl
  ·obtain⟨E,off,rfl,F⟩:=A f;obtain⟨cs,k1,R,S⟩:=F.flat
   have hl:0<yr.length:=List.length_pos_iff.2 f;have g:o.cap≠0:=(by omega)
   have M:a=some ⟨o.b,0,none⟩:=by rcases m with m|m;exact m;exact absurd m g
   subst M;obtain⟨w',I,J,K⟩:=pS (P:=P) D q g hfz (r:=0) (yr:=yr) (xs:=cs) (by omega) F.rows k1 (k1.onec_flat l);simp only[Nat.zero_mul,List.take_zero,List.nil_append,Nat.zero_add] at I J K;refine⟨goInt yr.length,w',Or.inl ?_,J,K,by simp only[RV];rfl⟩;rw[h];have p:(loadCells ⟨E,off,none⟩ (yr.length*o.sz)).run P w = .ok cs.toArray w:=by
    have:=run_loadCells_list (P:=P) w ⟨E,off,none⟩ cs (λj v Q=>by
     obtain⟨O,rfl⟩:=List.getElem?_eq_some_iff.1 Q;rw[Addr.add_lit];exact R j O)
    rw[S] at this;exact this
   have k:Nat.min yr.length n=yr.length:=Nat.min_eq_left B;simp[Builtin.copy_,run_underlying G,Builtin.lenOf,yC hs,Builtin.firstCells,k,p,I]
 ·rename_i c yr i b sz r n cap C;split<;>try trivial
  rename_i o q;rintro⟨N,rfl,rfl,rfl,Y,hfz,hn,B,l⟩;obtain⟨L,c2,rfl,hm,A⟩:=jZ D T C N;simp only[RV] at hx;obtain⟨V,W,a,rfl,m⟩:=hx;by_cases f:yr = []
  ·subst f;have U:o.rows.take r++([]++o.rows.drop (r+([]:List (List AV)).length))=o.rows:=by simp
   rw[U];refine⟨goInt 0,w,Or.inl ?_,(show HOk X (ze H i o) w by rw[wS q];exact D),(show Ev (own H) w (own (ze H i o)) w by rw[wS q];exact Ev.refl _ _),?_⟩
   ·rw[h];cases a<;>cases L<;>simp[Builtin.copy_,run_underlying G,Builtin.lenOf,yC hs,Builtin.firstCells,loadCells,loadCellsFrom,storeCells]
   ·simp only[RV];rfl
  ·obtain⟨E,off,rfl,F⟩:=A f;obtain⟨cs,k1,R,S⟩:=F.flat
   have hl:0<yr.length:=List.length_pos_iff.2 f;have g:o.cap≠0:=(by omega)
   have M:a=some ⟨o.b,r*o.sz,none⟩:=by rcases m with m|m;exact m;omega
   subst M;obtain⟨w',I,J,K⟩:=pS (P:=P) D q g hfz (r:=r) (yr:=yr) (xs:=cs) (by omega) F.rows k1 (k1.onec_flat l);refine⟨goInt yr.length,w',Or.inl ?_,J,K,by simp only[RV];rfl⟩;rw[h];have p:(loadCells ⟨E,off,none⟩ (yr.length*o.sz)).run P w = .ok cs.toArray w:=by
    have:=run_loadCells_list (P:=P) w ⟨E,off,none⟩ cs (λj v Q=>by
     obtain⟨O,rfl⟩:=List.getElem?_eq_some_iff.1 Q;rw[Addr.add_lit];exact R j O)
    rw[S] at this;exact this
   have k:Nat.min yr.length n=yr.length:=Nat.min_eq_left B;simp[Builtin.copy_,run_underlying G,Builtin.lenOf,yC hs,Builtin.firstCells,k,p,I]
theorem VN(hB:∀t,(P.types[t]?).isSome=true->P.bytesOf t<=65536){t ty:TypeId}{x y:AV}{u v:Value}(J:HOk X H w)(hx:RV (zp X H) w x u)(hy:RV (zp X H) w y v)
  (G:run=(do let z <-Builtin.append_ #[t,t] ty #[u,v];pure (Next.value z):Sem Next).run P w):(xw P d H t x y).Ok P X H w run:=by
 unfold xw;split<;>try trivial
 rename_i e he;split<;>try trivial
 rename_i s z hs hz;split<;>try trivial
 rename_i c yr xl;rintro⟨hc,xa,xn,h7⟩;have T:=SlP.mk' hB he hs hz xn;obtain⟨a2,c2,rfl,hm,xj⟩:=jZ J hy xl hc;obtain⟨M,Z,h4,hb,Q⟩:∃M,RL (zp X H) w yr.flatten M/\M.length=yr.length*s/\(M≠[]->∃b off,a2=some ⟨b,off,none⟩/\yL w b off M)/\(∀r∈yr,r.length=s):=by
  by_cases A:yr = []
  ·subst A;exact⟨[],by simp[RL],by simp,λh=>absurd rfl h,by simp⟩
  ·obtain⟨b,off,rfl,C⟩:=xj A;obtain⟨cs,k1,k2,k3⟩:=C.flat
   exact⟨cs,k1,k3,λ_=>⟨b,off,rfl,k2⟩,C.rows⟩
 have h9:=Z.onec_flat h7;have L:∀(i:Id)(rows:List (List AV)) (xs:List Value) (a:Option Addr) (n cap:Nat),rows.length=n->(∀r∈rows,r.length=s)->RL (zp X H) w rows.flatten xs->xs.length=n*s->n<=cap->(cap:Int)<=9223372036854775807 ->
   ((∃g m,a=some ⟨g,0,none⟩/\w.heap[g]?=some (.cells m e (0,0))/\m.size=cap*s/\m.toList.take (n*s)=xs/\0<cap)\/cap=0) ->
   (∀p,H i=some p->p.cap≠0->p.fz=false/\cap≠0/\a=some ⟨p.b,0,none⟩)->(cap≠0->∃p,H i=some p/\p.cap≠0/\p.fz=false/\a=some ⟨p.b,0,none⟩)->n+yr.length<=2147483648 ->
   u = .slice a n cap->∃b c cv w',run = .ok (.value cv) w'/\HOk X (ze H i ⟨b,c,s,e,rows++yr,false⟩) w'/\Ev (own H) w (own (ze H i ⟨b,c,s,e,rows++yr,false⟩)) w'/\RV (zp X (ze H i ⟨b,c,s,e,rows++yr,false⟩)) w' (.sl i b s (n+yr.length) c) cv:=by
  intro i rows xs a n cap x1 x2 xc xd hw hf xf hpi W K hu;subst hu;obtain⟨a',D,w',C,R,q2,q3,q4,q5,q6,q7,q8⟩:=Od T w ty a n cap xs a2 yr.length c2 M xd h4 hw hf xf hb hm xa h9 K;have I:run = .ok (.value (.slice a' (n+yr.length) D)) w':=by rw[G];simp[C]
  rcases q8 with⟨rfl,S⟩|⟨g,m,y2,rfl,k1,k2,k3,k4⟩
  ·-- nothing at all
   let b:=0
   have Y:rows++yr = []:=by
    have h1:rows.length=0:=(by omega)
    have U:yr.length=0:=(by omega)
    rw[List.eq_nil_of_length_eq_zero h1,List.eq_nil_of_length_eq_zero U];rfl
   have:=HOk.put (i:=i) (o:=⟨b,0,s,e,rows++yr,false⟩) J q3 q4 q5 q6 rfl (λk hk h5 h6=>q7 k hk (λV g q e=>by
     obtain⟨p,p1,p2,p3,p4⟩:=W V;rw[p4] at q;injection q with q;injection q with q;exact(h5 p p1 p2).2 (by rw[q,e]))) (λh=>absurd rfl h) (λp hp B=>(hpi p hp B).1) (λ_=>⟨λ_=>Y,λh=>absurd rfl h⟩)
   refine⟨b,0,_,w',I,this.1,this.2,?_⟩;simp only[RV];exact⟨by omega,by omega,a',rfl,Or.inr trivial⟩
  ·have:=HOk.put (i:=i) (o:=⟨g,D,s,e,rows++yr,false⟩) J q3 q4 q5 q6 rfl (λk hk h5 h6=>q7 k hk (λV g' q e=>by
     obtain⟨p,p1,p2,p3,p4⟩:=W V;rw[p4] at q;injection q with q;injection q with q;exact(h5 p p1 p2).2 (by rw[q,e]))) (λ_=>by
     rcases k4 with k4|⟨k4,k5⟩
     ·exact Or.inl k4
     ·obtain⟨p,p1,p2,p3,p4⟩:=W k4;rw[p4] at k5;injection k5 with k5;injection k5 with k5;exact Or.inr ⟨p,p1,p2,p3,k5⟩) (λp hp B=>(hpi p hp B).1)
     (λhq=>⟨λh=>by simp at h;omega,λ_=>⟨m,k1,k2,by simp only[List.length_append,x1];exact R,?_⟩⟩)
   ·refine⟨g,D,_,w',I,this.1,this.2,?_⟩;simp only[RV];exact⟨R,q2,_,rfl,Or.inl rfl⟩
   ·refine uU (cs:=xs++M) (λr C=>?_) ?_ ?_
    ·rcases List.mem_append.1 C with C|C
     ·exact x2 r C
     ·exact Q r C
    ·rw[List.flatten_append];exact RL.mono hq _ _ (xc.append Z)
    ·rw[xD k1];intro j hj;rw[<-k3,List.getElem?_take_of_lt (by rw[<-k3] at hj;simp at hj;omega)];simp
 split<;>try trivial
 ·rintro⟨hd,hl⟩;simp only[RV] at hx;subst hx;have:=L (.l d) [] [] none 0 0 rfl (by simp) (by simp[RL]) (by simp) (Nat.le_refl _) (by omega) (Or.inr rfl) (λp hp=>by rw[hd] at hp;cases hp) (λh=>absurd rfl h) (by omega) rfl
  simpa[Eff.Ok] using this
 ·rename_i i b sz n cap;split
  ·rintro⟨rfl,rfl,hd,hl⟩;simp only[RV] at hx;obtain⟨_,_,a,rfl,_⟩:=hx;have:=L (.l d) [] [] a 0 0 rfl (by simp) (by simp[RL]) (by simp) (Nat.le_refl _) (by omega) (Or.inr rfl) (λp hp=>by rw[hd] at hp;cases hp) (λh=>absurd rfl h) (by omega) rfl
   simpa[Eff.Ok] using this
  split<;>try trivial
  rename_i o E;rintro⟨rfl,rfl,rfl,rfl,rfl,hfz,hn,K⟩;simp only[RV] at hx;obtain⟨h1,U,a,rfl,N⟩:=hx;by_cases f:o.cap=0
  ·have C:=(J.ob i o E).1 f;have hv:n=0:=(by omega)
   subst hv;have:=L i [] [] a 0 o.cap rfl (by simp) (by simp[RL]) (by simp) (Nat.zero_le _) U (Or.inr f) (λp hp B=>by rw[E] at hp;injection hp with hp;subst hp;exact absurd f B) (λh=>absurd f h) K rfl
   simpa[Eff.Ok] using this
  ·obtain⟨m,R,q2,q3,q4⟩:=(J.ob i o E).2 f;rcases N with rfl|e
   ·obtain⟨cs,k1,k2,k3⟩:=(q4.take n).flat
    have O:(o.rows.take n).length=n:=by simp;omega
    rw[O] at k3;refine L i (o.rows.take n) cs _ n o.cap O (λr C=>q4.rows r (List.mem_of_mem_take C)) k1 k3 h1 U (Or.inl ⟨o.b,m,rfl,R,q2,?_,by omega⟩) (λp hp B=>by rw[E] at hp;injection hp with hp;subst hp;exact⟨hfz,f,rfl⟩) (λ_=>⟨o,E,f,hfz,rfl⟩) K rfl;rw[xD R] at k2;apply List.ext_getElem?;intro j;by_cases hj:j<n*o.sz
    ·rw[List.getElem?_take_of_lt hj,<-k2 j (by omega)];simp
    ·rw[List.getElem?_take_eq_none (by omega),List.getElem?_eq_none (by omega)]
   ·exact absurd e f
 ·rename_i i b sz r n cap;split<;>try trivial
  rename_i o E;rintro⟨rfl,rfl,rfl,rfl,rfl,rfl,hfz,hn⟩;simp only[RV] at hx;obtain⟨h1,U,a,rfl,N⟩:=hx;obtain⟨ii,zz,hi,y3,h8,y1,xr⟩:=T.ex;by_cases A:yr = []
  ·subst A;have e1:o.rows.take n++([]++o.rows.drop (n+([]:List (List AV)).length))=o.rows:=by simp
   rw[e1];refine⟨.slice a n o.cap,w,Or.inl ?_,(show HOk X (ze H i o) w by rw[wS E];exact J),(show Ev (own H) w (own (ze H i o)) w by rw[wS E];exact Ev.refl _ _),?_⟩
   ·rw[G];cases a<;>cases a2<;>simp[Builtin.append_,run_underlying he,sizeOf,typeInfo,hi,Builtin.lenOf,h1,Builtin.firstCells,loadCells,loadCellsFrom,storeCells]
   ·simp only[RV];exact⟨h1,U,a,rfl,N⟩
  ·obtain⟨b2,off,rfl,xk⟩:=hb (λe=>A (by
    have S:yr.length*o.sz=0:=by rw[<-h4,e];rfl
    rcases Nat.mul_eq_zero.1 S with S|S
    ·exact List.eq_nil_of_length_eq_zero S
    ·omega))
   have hl:0<yr.length:=List.length_pos_iff.2 A;have f:o.cap≠0:=λe=>by have S:=(J.ob i o E).1 e;rw[S,List.length_nil] at hn;omega
   have ha:a=some ⟨o.b,0*o.sz,none⟩:=by rcases N with N|N;exact N;exact absurd N f
   subst ha;obtain⟨w',R,q2,q3⟩:=pS (P:=P) J E f hfz (r:=n) (yr:=yr) (xs:=M) hn Q Z h9;have F:n+yr.length<=o.cap:=by
    obtain⟨m,p1,p2,p3,p4⟩:=(J.ob i o E).2 f;omega
   refine⟨.slice (some ⟨o.b,0*o.sz,none⟩) (n+yr.length) o.cap,w',Or.inl ?_,q2,q3,?_⟩
   ·rw[G];have ht:=run_firstCells_some (P:=P) w ii.size yr.length ⟨b2,off,none⟩ yr.length c2 M (by rw[h8];exact h4) (λj u hu=>by
     obtain⟨hj,rfl⟩:=List.getElem?_eq_some_iff.1 hu;rw[Addr.add_lit];exact xk j hj)
    rw[<-h8] at R;simp[Builtin.append_,run_underlying he,sizeOf,typeInfo,hi,Builtin.lenOf,F,ht,Addr.add_lit,R]
   ·simp only[RV];exact⟨F,U,_,rfl,Or.inl rfl⟩
def VP (P:Program)(d:Nat)(H:Hp)(t a:TypeId)(n:Int): Eff:=match P.underlying t,P.underlying a with
 |some (.slice e),some (.int _)=>(match xN P e,ux P e with
  |some s,some z=>.req (H (.l d)=none/\0<s/\z.length=s/\0<n/\n<=2147483648) (.mk (.l d) (λb c=>⟨b,c,s,e,List.replicate n.toNat z,false⟩) (λb c=>.sl (.l d) b s n.toNat c))
  |_,_=>.no)
 |_,_=>.no
theorem Oe(L:∀t,(P.types[t]?).isSome=true->P.bytesOf t<=65536){t G ty:TypeId}{k:IntKind}{n:Int}(M:HOk X H w)
  (q:run=(do let z <-Builtin.append_ #[t,G] ty #[.slice none 0 0,.int k n];pure (Next.value z):Sem Next).run P w):(VP P d H t G n).Ok P X H w run:=by
 unfold VP;split<;>try trivial
 rename_i e U I R;split<;>try trivial
 rename_i s z hs b;rintro⟨N,S,E,Y,hn⟩;unfold ux at b;cases p:vq P e with
 |none=>rw[p] at b;cases b
 |some a =>
  rw[p] at b;injection b with b;subst b;have g:a.cells.size=s:=by simpa using E
  obtain⟨i,z,hi,b,T,B,J⟩:=(SlP.mk' L I hs p g).ex;obtain⟨m,rfl⟩:∃m:Nat,n=m:=⟨n.toNat,by omega⟩
  simp only[Int.toNat_natCast];have v:a=z:=by
   have A:=vx p default;simp only[zeroValue,typeInfo,Sem.run_bind,pC,Result.andThen,hi] at A;simp[b] at A;exact A.symm
  subst v;have y:=Lib.run_append_nil_zeros (P:=P) w t G ty e i a k U I R hi b m (by omega) (by omega) (by omega) (by
   have:m*i.bytes<=2147483648*65536:=Nat.mul_le_mul (by omega) B
   omega)
  have D:=grownCap_ge w m 0 e;have C:=grownCap_le_maxLen w m 0 e (by unfold maxLen;omega);have f:(Builtin.zeroCells a.cells m++Builtin.zeroCells a.cells (grownCap w m 0 e-m)).size=grownCap w m 0 e*s:=by
   simp only[Array.size_append,size_zeroCells,g,<-Nat.add_mul];congr 1;omega
  obtain⟨V,W⟩:=HOk.new (i:=.l d) (o:=⟨w.heap.size,grownCap w m 0 e,s,e,List.replicate m (a.cells.toList.map av1),false⟩) (c:=Builtin.zeroCells a.cells m++Builtin.zeroCells a.cells (grownCap w m 0 e-m)) M N rfl rfl w.drew ⟨rfl,rfl,rfl,rfl⟩
   (λh=>by simp at h;omega) f (by simp;omega)
   (λF w' O hb=>uU (cs:=(List.replicate m a.cells.toList).flatten) (λr y=>by simp at y;rw[y.2];simp[g]) (by rw[<-nI];exact RL.av1 _ _ _) (by
    rw[xD hb];intro j Q;have K:(Builtin.zeroCells a.cells m).toList=(List.replicate m a.cells.toList).flatten:=qy (g▸rfl) (by omega) m;rw[Nat.zero_add,<-Array.getElem?_toList,Array.toList_append,K,List.getElem?_append_left Q]))
  refine⟨w.heap.size,grownCap w m 0 e,.slice (some ⟨w.heap.size,0,none⟩) m (grownCap w m 0 e),_,?_,V,W,by simp only[RV];exact⟨D,by unfold maxLen at C;omega,_,rfl,Or.inl rfl⟩⟩;rw[q];simp[y]
def VQ (P:Program)(t:TypeId)(x:AV): Eff:=match P.underlying t with
 |some (.slice _)=>(match x with
  |.sl _ _ _ _ c=>.val (.int .i64 c)
  |.nils=>.val (.int .i64 0)
  |_=>.no)
 |_=>.no
theorem Of{t ty:TypeId}(hx:RV (zp X H) w x u)
  (b:run=(do let z <-Builtin.cap_ #[t] ty #[u];pure (Next.value z):Sem Next).run P w):(VQ P t x).Ok P X H w run:=by
 unfold VQ;split<;>try trivial
 rename_i e c;cases x<;>try trivial
 all_goals simp only[RV] at hx
 ·subst hx;refine okI (P:=P) ?_;rw[b];simp[Builtin.cap_,run_underlying c,goInt]
 ·obtain⟨_,_,a,rfl,_⟩:=hx;refine okI (P:=P) ?_;rw[b];simp[Builtin.cap_,run_underlying c,goInt]
def t8 (P:Program)(t:TypeId)(x:AV)(lo hi:Option Int): Eff:=match P.underlying t with
 |some (.slice e)=>(match xN P e with
  |some s=>(match x with
   |.vec sz l=>.req (s=sz/\0<=lo.getD 0/\lo.getD 0<=hi.getD l.length/\hi.getD l.length<=l.length) (.val (.vec sz ((l.take (hi.getD l.length).toNat).drop (lo.getD 0).toNat)))
   |.nils=>.req (lo.getD 0=0/\hi.getD 0=0) (.val .nils)
   |.sl i b sz n cap=>(match lo with
    |none=>.req (0<=hi.getD n/\hi.getD n<=n) (.val (.sl i b sz (hi.getD n).toNat cap))
    |some x=>.req (s=sz/\0<=x/\x<=hi.getD n/\hi.getD n<=n) (.val (.so i b sz x.toNat ((hi.getD n).toNat-x.toNat) (cap-x.toNat))))
   |.so i b sz r n cap=>(match lo with
    |none=>.req (0<=hi.getD n/\hi.getD n<=n) (.val (.so i b sz r (hi.getD n).toNat cap))
    |_=>.no)
   |_=>.no)
  |none=>.no)
 |_=>.no
theorem Th(hx:RV (zp X H) w x u){lo hi:Option Int}{vl A:Option Value}
  (D:(lo=none/\vl=none)\/∃k n,lo=some n/\vl=some (.int k n)) (C:(hi=none/\A=none)\/∃k n,hi=some n/\A=some (.int k n))
  (v:run=(do let z <-Instr.sliceAt t u vl A none;pure (Next.value z):Sem Next).run P w):(t8 P t x lo hi).Ok P X H w run:=by
 unfold t8;split<;>try trivial
 rename_i e L;split<;>try trivial
 rename_i s hs;have g:∀(a:Option Addr)(n cap:Nat),u = .slice a n cap->0<=lo.getD 0->lo.getD 0<=hi.getD n->hi.getD n<=n->n<=cap ->
   run = .ok (.value (.slice (if cap=(lo.getD 0).toNat then a else a.map (·.add ((lo.getD 0).toNat*s))) ((hi.getD n).toNat-(lo.getD 0).toNat) (cap-(lo.getD 0).toNat))) w:=by
  intro a n cap M h f c m;subst M;have hb:(Instr.sliceBounds true n cap vl A none).run P w = .ok ((lo.getD 0).toNat,(hi.getD n).toNat,cap) w:=by
   rcases D with⟨rfl,rfl⟩|⟨k,p,rfl,rfl⟩<;>rcases C with⟨rfl,rfl⟩|⟨k',q,rfl,rfl⟩
   ·simp[Instr.sliceBounds]
   ·simp only[Option.getD_some,Option.getD_none] at h f c;have:q<=(cap:Int):=(by omega)
    simp[Instr.sliceBounds,Instr.sliceBound,asIntOf,f,this]
   ·simp only[Option.getD_some,Option.getD_none] at h f c;simp[Instr.sliceBounds,Instr.sliceBound,asIntOf,h,f]
   ·simp only[Option.getD_some] at h f c;have:q<=(cap:Int):=(by omega)
    have I:0<=q:=(by omega)
    have J:p<=max q 0:=(by omega)
    simp[Instr.sliceBounds,Instr.sliceBound,asIntOf,h,f,I,this,J]
  rw[v];simp only[Instr.sliceAt,Instr.slice,Sem.run_bind,run_underlying L,Result.andThen_ok,hb,yC hs,Sem.run_pure]
 cases x<;>try trivial
 ·rintro⟨f,c⟩;simp only[RV] at hx;subst hx;have:=g none 0 0 rfl (by omega) (by simp only[f];cases hi<;>simp_all) (by cases hi<;>simp_all) (Nat.le_refl _)
  refine⟨_,this,?_⟩;simp only[RV,f];simp;cases hi<;>simp_all
 ·rename_i sz l;rintro⟨rfl,h,f,c⟩;simp only[RV] at hx;obtain⟨a,cap,rfl,k1,y,j,N⟩:=hx;refine⟨_,g a l.length cap rfl h f c k1,?_⟩;have hl:((l.take (hi.getD l.length).toNat).drop (lo.getD 0).toNat).length=(hi.getD l.length).toNat-(lo.getD 0).toNat:=by simp;omega
  simp only[RV];refine⟨_,_,by rw[hl],by rw[hl];omega,by omega,?_,?_⟩
  ·intro hn;split at hn
   ·subst hn;rw[j rfl];omega
   ·cases a with
    |none=>rw[j rfl];omega
    |some p=>cases hn
  ·intro p hp E;have o:l≠[]:=λe=>E (by rw[e];simp);cases a with
   |none=>split at hp<;>cases hp
   |some q =>
    obtain⟨b,off,rfl,F,G,O⟩:=N q rfl o;split at hp
    ·rename_i K;injection hp with hp;subst hp;refine⟨b,off,rfl,F,G,?_⟩;have:(l.take (hi.getD l.length).toNat).drop (lo.getD 0).toNat = []:=List.eq_nil_of_length_eq_zero (by rw[hl];omega)
     rw[this];simp[RR]
    ·simp only[Option.map_some,Addr.add_lit] at hp;injection hp with hp;subst hp;exact⟨b,_,rfl,F,G,(O.take _).drop _ (by simp;omega)⟩
 ·rename_i i b sz n cap;simp only[RV] at hx;obtain⟨k1,y,a,rfl,j⟩:=hx;cases lo with
  |none =>
   rintro⟨c,m⟩;refine⟨_,g a n cap rfl (by simp) (by simpa using c) m k1,?_⟩;have B:∀z:Addr,z.add 0=z:=λz=>by simp[Addr.add]
   simp only[RV,Option.getD_none,Int.toNat_zero,Nat.zero_mul,Nat.sub_zero];refine⟨by omega,y,a,?_,j⟩;congr 1
   split
   ·rfl
   ·cases a<;>simp[B]
  |some x =>
   rintro⟨rfl,h,c,m⟩;refine⟨_,g a n cap rfl h c m k1,?_⟩;simp only[RV,Option.getD_some];refine⟨by omega,by omega,_,rfl,?_⟩;split
   ·right;omega
   ·rcases j with rfl|j
    ·left;simp[Addr.add_lit]
    ·right;omega
 ·rename_i i b sz r n cap;simp only[RV] at hx;obtain⟨k1,y,a,rfl,j⟩:=hx;cases lo with
  |some x=>trivial
  |none =>
   rintro⟨c,m⟩;refine⟨_,g a n cap rfl (by simp) (by simpa using c) m k1,?_⟩;have B:∀z:Addr,z.add 0=z:=λz=>by simp[Addr.add]
   simp only[RV,Option.getD_none,Int.toNat_zero,Nat.zero_mul,Nat.sub_zero];refine⟨by omega,y,a,?_,j⟩;congr 1
   split
   ·rfl
   ·cases a<;>simp[B]
def eT (P:Program)(t:TypeId)(x:AV): Eff:=match P.underlying t with
 |some (.slice _)=>(match x with
  |.vec _ l=>.val (.int .i64 l.length)
  |.sl _ _ _ n _=>.val (.int .i64 n)
  |.so _ _ _ _ n _=>.val (.int .i64 n)
  |.nils=>.val (.int .i64 0)
  |_=>.no)
 |some (.array n _)=>.val (.int .i64 n)
 |some .string=>(match x with|.str s=>.val (.int .i64 s.size)|_=>.no)
 |_=>.no
theorem Og{t ty:TypeId}(hx:RV (zp X H) w x u)
  (b:run=(do let z <-Builtin.len_ #[t] ty #[u];pure (Next.value z):Sem Next).run P w):(eT P t x).Ok P X H w run:=by
 unfold eT;split<;>try trivial
 ·rename_i e c;cases x<;>try trivial
  all_goals simp only[RV] at hx
  ·subst hx;refine okI (P:=P) ?_;rw[b];simp[Builtin.len_,run_underlying c,goInt]
  ·obtain⟨a,cap,rfl,_⟩:=hx;refine okI (P:=P) ?_;rw[b];simp[Builtin.len_,run_underlying c,goInt]
  ·obtain⟨_,_,a,rfl,_⟩:=hx;refine okI (P:=P) ?_;rw[b];simp[Builtin.len_,run_underlying c,goInt]
  ·obtain⟨_,_,a,rfl,_⟩:=hx;refine okI (P:=P) ?_;rw[b];simp[Builtin.len_,run_underlying c,goInt]
 ·rename_i n e c;refine okI (P:=P) ?_;rw[b];simp[Builtin.len_,run_underlying c,goInt]
 ·rename_i c;cases x<;>try trivial
  simp only[RV] at hx;subst hx;refine okI (P:=P) ?_;rw[b];simp[Builtin.len_,run_underlying c,goInt]
def vQ (P:Program)(f:Nat): Prop:=∀args w,(callFunc f args).run P w = .ok (.enter f args) w
def ws (P:Program)(d:Nat)(H:Hp)(b:Builtin)(ts:Array TypeId)(l:List AV): Eff:=match b with
 |.len=>(match ts.toList,l with|[t],[x]=>eT P t x|_,_=>.no)
 |.append=>(match ts.toList,l with
  |[t,t'],[.nils,.int _ n]=>VP P d H t t' n
  |[t,t'],[x,y]=>.req (t'=t) (xw P d H t x y)
  |_,_=>.no)
 |.cap=>(match ts.toList,l with|[t],[x]=>VQ P t x|_,_=>.no)
 |.clear=>(match ts.toList,l with|[t],[x]=>gF P H t x|_,_=>.no)
 |.copy=>(match ts.toList,l with|[t,t'],[x,y]=>.req (t'=t) (bU P H t x y)|_,_=>.no)
 |.max=>(match l with|[.int k a,.int _ b]=>.val (.int k (if b>a then b else a))|_=>.no)
 |.min=>(match l with|[.int k a,.int _ b]=>.val (.int k (if b<a then b else a))|_=>.no)
 |_=>.no
theorem Xp(j:∀t,(P.types[t]?).isSome=true->P.bytesOf t<=65536){b:Builtin}{ts:Array TypeId}{ty:TypeId}{cs:Array Bool}{l:List AV}{us:List Value}(h:HOk X H w)(hx:RL (zp X H) w l us)
  (a:run=(builtin b ts ty cs us.toArray).run P w):(ws P d H b ts l).Ok P X H w run:=by
 unfold ws;split<;>try trivial
 ·split<;>try trivial
  rename_i t x e;obtain rfl:ts = #[t]:=by rw[<-Array.toArray_toList (xs:=ts),e]
  simp only[RL] at hx;obtain⟨c,r,rfl,k,rfl⟩:=hx;exact Og (ty:=ty) k (by rw[a];rfl)
 ·split<;>try trivial
  ·rename_i t f m n e;obtain rfl:ts = #[t,f]:=by rw[<-Array.toArray_toList (xs:=ts),e]
   simp only[RL] at hx;obtain⟨c,r,rfl,k,g,i,rfl,k',rfl⟩:=hx;simp only[RV] at k k';subst k k';exact Oe j (ty:=ty) h (by rw[a];rfl)
  ·rename_i t f x y _ e;obtain rfl:ts = #[t,f]:=by rw[<-Array.toArray_toList (xs:=ts),e]
   simp only[RL] at hx;obtain⟨c,r,rfl,k,g,i,rfl,k',rfl⟩:=hx;rintro rfl;exact VN j (ty:=ty) h k k' (by rw[a];rfl)
 ·split<;>try trivial
  rename_i t x e;obtain rfl:ts = #[t]:=by rw[<-Array.toArray_toList (xs:=ts),e]
  simp only[RL] at hx;obtain⟨c,r,rfl,k,rfl⟩:=hx;exact Of (ty:=ty) k (by rw[a];rfl)
 ·split<;>try trivial
  rename_i t x e;obtain rfl:ts = #[t]:=by rw[<-Array.toArray_toList (xs:=ts),e]
  simp only[RL] at hx;obtain⟨c,r,rfl,k,rfl⟩:=hx;exact Tg (ty:=ty) h k (by rw[a];rfl)
 ·split<;>try trivial
  rename_i t f x y e;obtain rfl:ts = #[t,f]:=by rw[<-Array.toArray_toList (xs:=ts),e]
  simp only[RL] at hx;obtain⟨c,r,rfl,k,g,i,rfl,k',rfl⟩:=hx;rintro rfl;exact Rm (ty:=ty) h k k' (by rw[a];rfl)
 ·split<;>try trivial
  simp only[RL,RV] at hx;obtain⟨c,r,rfl,rfl,g,i,rfl,rfl,rfl⟩:=hx;refine okI (P:=P) ?_;rw[a];simp[builtin,Builtin.max_,Builtin.max2]
 ·split<;>try trivial
  simp only[RL,RV] at hx;obtain⟨c,r,rfl,rfl,g,i,rfl,rfl,rfl⟩:=hx;refine okI (P:=P) ?_;rw[a];simp[builtin,Builtin.min_,Builtin.min2]
def nj (P:Program)(t:TypeId)(x:AV)(hi mx:Option Int): Eff:=match P.underlying t with
 |some (.slice e)=>(match xN P e,x with
  |some s,.vec sz l=>if hi=some 0/\mx=some 0 then .req (s=sz) (.val (.sl mkS 0 sz 0 0)) else .req (s=sz/\0<=hi.getD l.length/\hi.getD l.length<=mx.getD l.length/\mx.getD l.length<=l.length/\hi.isSome/\mx.isSome) (.val (.vec sz (l.take (hi.getD l.length).toNat)))
  |some s,.so i b sz r n cap=>.req (0<=hi.getD n/\hi.getD n<=mx.getD n/\mx.getD n<=n/\hi.isSome/\mx.isSome) (.val (.so i b sz r (hi.getD n).toNat (mx.getD n).toNat))
  |_,_=>.no)
 |some (.array n e)=>(match xN P e,x with
  |some s,.rp l=>.req (l.length=n*s/\0<=hi.getD n/\hi.getD n<=mx.getD n/\mx.getD n<=n/\n<=1000000/\(mx.isSome->hi.isSome)) (.val (.vec s ((tI s n l).take (hi.getD n).toNat)))
  |_,_=>.no)
 |_=>.no
theorem Oh(hx:RV (zp X H) w x u){hi mx:Option Int}{K L:Option Value}
  (j:(hi=none/\K=none)\/∃k n,hi=some n/\K=some (.int k n)) (m:(mx=none/\L=none)\/∃k n,mx=some n/\L=some (.int k n))
  (c:run=(do let z <-Instr.sliceAt t u none K L;pure (Next.value z):Sem Next).run P w):(nj P t x hi mx).Ok P X H w run:=by
 unfold nj;split
 ·rename_i e F;cases hs:xN P e with
  |none=>trivial
  |some s =>
   cases x<;>try trivial
   case so i bb sz r n cap =>
    rintro⟨f,g,A,N,O⟩;simp only[RV] at hx;obtain⟨k1,I,a,rfl,C⟩:=hx;rcases j with⟨rfl,rfl⟩|⟨k,p,rfl,rfl⟩
    ·simp at N
    rcases m with⟨rfl,rfl⟩|⟨k',q,rfl,rfl⟩
    ·simp at O
    simp only[Option.getD_some] at f g A ⊢;have hb:(Instr.sliceBounds true n cap none (some (.int k p)) (some (.int k' q))).run P w = .ok (0,p.toNat,q.toNat) w:=by
     have D:0<=q:=(by omega)
     have Q:q<=(cap:Int):=(by omega)
     have E:p<=max q 0:=(by omega)
     simp[Instr.sliceBounds,Instr.sliceBound,asIntOf,f,g,D,Q,E]
    refine⟨.slice (if q.toNat=0 then a else a.map (·.add 0)) p.toNat q.toNat,?_,?_⟩
    ·rw[c];simp only[Instr.sliceAt,Instr.slice,Sem.run_bind,run_underlying F,Result.andThen_ok,hb,yC hs,Sem.run_pure,Nat.zero_mul,Nat.sub_zero]
    ·have e:(if q.toNat=0 then a else a.map (·.add 0))=a:=by
      split
      ·rfl
      ·cases a with
       |none=>rfl
       |some z=>obtain⟨b,o,v⟩:=z;simp[Addr.add]
     rw[e];simp only[RV];exact⟨by omega,by omega,a,rfl,C.imp id λz=>by omega⟩
   rename_i sz l;show(if hi=some 0/\mx=some 0 then _ else _:Eff).Ok _ _ _ _ _;split
   ·rename_i B;obtain⟨rfl,rfl⟩:=B;rintro rfl;simp only[RV] at hx;obtain⟨a,cap,rfl,k1,I,C,J⟩:=hx;rcases j with⟨h,_⟩|⟨k,p,e,rfl⟩
    ·cases h
    rcases m with⟨h,_⟩|⟨k',q,M,rfl⟩
    ·cases h
    injection e with e;subst e;injection M with M;subst M;have hb:(Instr.sliceBounds true l.length cap none (some (.int k 0)) (some (.int k' 0))).run P w = .ok (0,0,0) w:=by
     simp[Instr.sliceBounds,Instr.sliceBound,asIntOf]
    refine⟨.slice a 0 0,?_,?_⟩
    ·rw[c];simp only[Instr.sliceAt,Instr.slice,Sem.run_bind,run_underlying F,Result.andThen_ok,hb,yC hs,Sem.run_pure,Nat.zero_mul,Nat.sub_zero];rfl
    ·simp only[RV];exact⟨Nat.le_refl _,by omega,a,rfl,Or.inr trivial⟩
   rintro⟨rfl,f,g,A,N,O⟩;simp only[RV] at hx;obtain⟨a,cap,rfl,k1,I,C,J⟩:=hx;rcases j with⟨rfl,rfl⟩|⟨k,p,rfl,rfl⟩
   ·simp at N
   rcases m with⟨rfl,rfl⟩|⟨k',q,rfl,rfl⟩
   ·simp at O
   simp only[Option.getD_some] at f g A ⊢;have hb:(Instr.sliceBounds true l.length cap none (some (.int k p)) (some (.int k' q))).run P w = .ok (0,p.toNat,q.toNat) w:=by
    have D:0<=q:=(by omega)
    have Q:q<=(cap:Int):=(by omega)
    have E:p<=max q 0:=(by omega)
    simp[Instr.sliceBounds,Instr.sliceBound,asIntOf,f,g,D,Q,E]
   refine⟨.slice (if q.toNat=0 then a else a.map (·.add 0)) p.toNat q.toNat,?_,?_⟩
   ·rw[c];simp only[Instr.sliceAt,Instr.slice,Sem.run_bind,run_underlying F,Result.andThen_ok,hb,yC hs,Sem.run_pure,Nat.zero_mul,Nat.sub_zero]
   ·have e:(if q.toNat=0 then a else a.map (·.add 0))=a:=by
     split
     ·rfl
     ·cases a with
      |none=>rfl
      |some z=>obtain⟨b,o,v⟩:=z;simp[Addr.add]
    rw[e];have hl:(l.take p.toNat).length=p.toNat:=by simp;omega
    simp only[RV];refine⟨a,q.toNat,by rw[hl],by rw[hl];omega,by omega,λhn=>?_,λz B G=>?_⟩
    ·have:=C hn;omega
    ·obtain⟨b,off,rfl,V,W,Y⟩:=J z B (λe=>G (by rw[e];simp));exact⟨b,off,rfl,V,W,Y.take _⟩
 ·rename_i n e F;cases hs:xN P e with
  |none=>trivial
  |some s =>
   cases x<;>try trivial
   rename_i l;rintro⟨hl,f,g,A,hn,R⟩;simp only[RV] at hx;obtain⟨b,o,cs,rfl,k1,I,C,J⟩:=hx;obtain⟨c1,c2,S⟩:=ia hl;have hb:(Instr.sliceBounds false n n none K L).run P w = .ok (0,(hi.getD n).toNat,(mx.getD n).toNat) w:=by
    have T:(n:Int)<=n:=Int.le_refl _;rcases j with⟨rfl,rfl⟩|⟨k,p,rfl,rfl⟩<;>rcases m with⟨rfl,rfl⟩|⟨k',q,rfl,rfl⟩
    ·simp[Instr.sliceBounds]
    ·simp at R
    ·simp only[Option.getD_some,Option.getD_none] at f g A;simp[Instr.sliceBounds,Instr.sliceBound,asIntOf,f,g]
    ·simp only[Option.getD_some] at f g A;have D:0<=q:=(by omega)
     have E:p<=max q 0:=(by omega)
     simp[Instr.sliceBounds,Instr.sliceBound,asIntOf,f,g,A,D,E]
   refine⟨.slice (some ⟨b,o,none⟩) (hi.getD n).toNat (mx.getD n).toNat,?_,?_⟩
   ·rw[c];simp only[Instr.sliceAt,Sem.run_bind,run_underlying F,Instr.sureAddr,Result.andThen_ok,hb,yC hs,Sem.run_pure,Nat.zero_mul,Nat.sub_zero];split
    ·rfl
    ·simp[Addr.add]
   ·have y:((tI s n l).take (hi.getD n).toNat).length=(hi.getD n).toNat:=by rw[List.length_take,c2];omega
    simp only[RV];refine⟨_,_,by rw[y],by rw[y];omega,by omega,by simp,λz B G=>?_⟩;injection B with B;subst B;refine⟨b,o,rfl,k1,I,?_⟩;exact(uU (λr U=>S r U) (by rw[c1];exact C) J).take _
 ·trivial
def nk:Option Operand->List AV->Option (Option Int×List AV)
 |none,l=>some (none,l)
 |some _,.int _ n::l=>some (some n,l)
 |_,_=>none
def on1 (k:AV->Eff): List AV->Eff
 |[a]=>k a
 |_=>.no
def on2 (k:AV->AV->Eff): List AV->Eff
 |[a,b]=>k a b
 |_=>.no
def on3 (k:AV->AV->AV->Eff): List AV->Eff
 |[a,b,c]=>k a b c
 |_=>.no
def mt:AV->AV->AV->Eff
 |.bool c,a,b=>.val (if c then a else b)
 |_,_,_=>.no
def Ro:AV->Eff
 |.ptr i b s r j=>.val (.ptr i b s r j)
 |.rp l=>.val (.rp l)
 |.fn f l=>.val (.fn f l)
 |_=>.no
def afa (P:Program)(t:TypeId)(k:Nat): AV->Eff
 |.ptr i b s r j=>t7 P t k (.ptr i b s r j)
 |.rp l=>t7 P t k (.rp l)
 |_=>.no
def afi (P:Program)(t:TypeId)(k:Nat): AV->Eff
 |.agg l=>t7 P t k (.agg l)
 |_=>.no
def aia (P:Program)(t:TypeId)(x:AV): AV->Eff
 |.int _ i=>(match x with
  |.vec s l=>vH P t (.vec s l) i
  |.sl j b s n c=>vH P t (.sl j b s n c) i
  |.ptr j b s r o=>vH P t (.ptr j b s r o) i
  |.rp l=>vH P t (.rp l) i
  |_=>.no)
 |_=>.no
def aix (P:Program)(t:TypeId)(x:AV): AV->Eff
 |.int _ i=>(match x with
  |.agg l=>vH P t (.agg l) i
  |_=>.no)
 |_=>.no
def aex (k:Nat): AV->Eff
 |.tup l=>(match l[k]? with|some v=>.val v|none=>.no)
 |_=>.no
def amk (P:Program)(d:Nat)(H:Hp)(t:TypeId): AV->AV->Eff
 |.int _ a,.int _ c=>kV P d H t a c
 |_,_=>.no
def sV (P:Program)(t:TypeId)(x:AV)(a b c:Option Int): Eff:=match a,c,x with
 |a,none,.rp r=>(match a with|none=>nj P t (.rp r) b none|_=>.no)
 |a,none,x=>t8 P t x a b
 |none,c,x=>nj P t x b c
 |_,_,_=>.no
def aM (P:Program)(t:TypeId)(lo hi mx:Option Operand): List AV->Eff
 |[]=>.no
 |x::l=>(match nk lo l with
  |some (a,l')=>(match nk hi l' with
   |some (b,l'')=>(match nk mx l'' with
    |some (c,[])=>sV P t x a b c
    |_=>.no)
   |none=>.no)
  |none=>.no)
def acv (P:Program)(s t:TypeId): AV->Eff
 |.int _ n=>(match P.underlying s,P.underlying t with|some _,some (.int k)=>.val (.int k (k.wrap n))|_,_=>.no)
 |_=>.no
def acl (P:Program): List AV->Eff
 |.fn f caps::args=>.req (vQ P f) (.call f (args++caps))
 |.bm f fs::args=>.req (vQ P f) (.call f (fs++args))
 |_=>.no
def z8 (P:Program)(d:Nat)(H:Hp)(op:Op)(l:List AV): Eff:=match op with
 |.move _=>on1 .val l
 |.assign _=>on1 .val l
 |.pick _ _ _=>on3 mt l
 |.binOp op t _ _ _=>on2 (tQ P t op) l
 |.unOp op _ _=>on1 (aun op) l
 |.box t _=>on1 (ni d H t) l
 |.alloc t=>(match l with|[]=>sU P d H t|_=>.no)
 |.load t _=>on1 (yT P t H) l
 |.store t _ _=>on2 (t6 P t H) l
 |.nilCheck _=>on1 Ro l
 |.fieldAddr t _ k=>on1 (afa P t k) l
 |.field t _ k=>on1 (afi P t k) l
 |.indexAddr t _ _=>on2 (aia P t) l
 |.index t _ _=>on2 (aix P t) l
 |.extract _ k=>on1 (aex k) l
 |.build t ps=>pR P t ((ps.toList.map (·.1)).zip l)
 |.buildSlice t n ps=>tJ P d H t n ((ps.toList.map (·.1)).zip l)
 |.makeSlice t _ _=>on2 (amk P d H t) l
 |.slice t _ lo hi mx=>aM P t lo hi mx l
 |.convert s t _=>on1 (acv P s t) l
 |.makeFunc f first cap=>(match f with|.func g=>if first.size=0 then .val (.fn g l) else if cap.size=0 then .val (.bm g l) else .no|_=>.no)
 |.call c=>(match c.callee with
  |.builtin b=>ws P d H b c.argTypes l
  |.value _=>acl P l
  |_=>.no)
 |_=>.no
end Go.Proofs.YtllodfoldffonaaGreatDoor.AM
