/- A part of the proof. -/
import Derived.RangeFuncNested
import Derived.RangeFuncBound
import Derived.RangeFuncCalls
import Derived.RangeFuncLeaves
import Derived.Shelf.Abstract
import Derived.Shelf.RegionOpen
import Derived.OwnWalkIn
import Derived.TacticsInMore
import Derived.LoopNIn
import Derived.LoopIn
import Derived.Laws.EntriesVeiled
import Derived.Test.YtllodfoldffonaaGreatDoorQ07
namespace Go.Proofs.YtllodfoldffonaaGreatDoor
open Tryz AM Go.RowKit Go.Shelf
set_option linter.unusedSimpArgs false
set_option linter.unusedVariables false
set_option linter.defProp false
set_option maxRecDepth 100000
set_option maxHeartbeats 16000000
variable {i:Nat}{l:List Int}{n:Nat}{s:List It}{α:Type}
attribute [local go_sem] Oper.semAt_some
def itV (x:It): Value:=.agg #[.int .u8 x.perm,.int .i64 x.tag,.int .i64 x.call]
def Zt (x:It)(tag:Int)(w:Bool): zK 448 [x.a,.rp [.int .i64 tag],.rp [.bool w]] (.bool (xH tag w x)):=by
 obtain⟨a,b,c⟩:=x;unfold xH;refine eK [] func448 λX=>?_;go_simp;all_goals grind
def qL(f:Nat->α)(k:Nat): List α:=(List.range k).map f
def qA(f:Nat->α)(k:Nat): qL f (k+1)=qL f k++[f k]:=by simp[qL,List.range_succ]
def X7(f:Nat->α)(k:Nat): (qL f k).length=k:=by simp[qL]
def vb (s:List It)(j:Nat): Int×It:=((s.length:Int)-1-j,s[s.length-1-j]?.getD ⟨0,0,0⟩)
def gO {w:World}: ∀ {s:List It} {b o:Nat},RR (λ_=>False) w b o 3 (s.map It.c)->∀k (a:k<s.length),w.cell? ⟨b,o+k*3,none⟩=some (.int .u8 s[k].perm)/\w.cell? ⟨b,o+k*3+1,none⟩=some (.int .i64 s[k].tag)/\w.cell? ⟨b,o+k*3+2,none⟩=some (.int .i64 s[k].call)
 |[],_,_,_,k,a=>by simp at a
 |x::s,b,o,h,k,a=>by
  simp only[List.map_cons,RR] at h;obtain⟨_,⟨cs,d,e⟩,m⟩:=h;cases k with
  |zero =>
   unfold It.c at d;simp only[RL,RV] at d;obtain⟨_,_,rfl,rfl,_,_,rfl,rfl,_,_,rfl,rfl,rfl⟩:=d;have f:=e 0 sm;have g:=e 1 sm;have j:=e 2 sm;simpa using And.intro f (And.intro g j)
  |succ k =>
   have:=gO m k (by simpa using a)
   rw[show o+(k+1)*3=o+3+k*3 by omega];simpa using this
def RI (F:Fence)(n:Nat)(I:F.fn 459)(B:F.round=none)(hn:1<=n)(l r a b off cap:Nat)(s:List It)(t:s.length<1000000)(hb:b<a)(J D:List (Int×It)->World->Prop)
  (L:∀pre x W,J pre W->pre.length<s.length->YieldAt F (n-1) Tryz.prog l #[.int .i64 x.1,itV x.2] W λe g =>
   (e = .returned (.bool true)/\J (pre++[x]) g/\Below a W g)\/(e = .returned (.bool false)/\D (pre++[x]) g))
  (W:World) (w:W.cell? ⟨r,0,none⟩=some (.slice (some ⟨b,off,none⟩) s.length cap)) (u:r<a) (M:RR (λ_=>False) W b off 3 (s.map It.c)) (H:J [] W) :
  CallsIn F n Tryz.prog 459 #[.func (.yield l) #[] #[],.pointer (some ⟨r,0,none⟩)] W λe g=>(∃v,e = .returned v) /\
   ((∃G,G=qL (vb s) s.length/\J G g)\/(∃pre,(∃k,k<=s.length/\pre=qL (vb s) k)/\D pre g)):=by
 refine callsIn_of_wp func459 rfl I ?_ B;simp only[Tryz.ntmps459,List.size_toArray,List.length_cons,List.length_nil,Nat.reduceAdd,Nat.reduceSub,Array.replicate_succ,Array.replicate_zero,List.push_toArray,List.append_toArray,List.nil_append,List.cons_append];have N:IntKind.i64.wrap ((s.length:Int)-1)=(s.length:Int)-1:=AM.Tf om;gi_wp2
 gi_loopw [3] (λi wr=>∃k:Nat,k<=s.length/\i = .int .i64 ((s.length:Int)-1-k)/\J (qL (vb s) k) wr/\Below a W wr)
  (λi _=>(intOf i+1).toNat)
 case atStart=>exact⟨0,Nat.zero_le _,sm,H,Below.refl _ _⟩
 case round =>
  obtain⟨k,U,rfl,h,d⟩:=hrel;by_cases A:k<s.length
  ·obtain⟨m,hm⟩:∃m:Nat,m=s.length-1-k:=⟨_,rfl⟩
   have q:m<s.length:=om;have f:(s.length:Int)-1-k=(m:Int):=om;obtain⟨E,c1,c2⟩:=gO M m q;have Q:=(d.cell (p:=⟨b,off+m*3,none⟩) hb).trans E;have R:=(d.cell (p:=⟨b,off+m*3+1,none⟩) hb).trans c1;have S:=(d.cell (p:=⟨b,off+m*3+2,none⟩) hb).trans c2;have T:=(d.cell (p:=⟨r,0,none⟩) u).trans w;have o:vb s k=((m:Int),s[m]):=by
    unfold vb;rw[<-hm,zE q,f];rfl
   obtain⟨fn,tmps,assign,body,O,K⟩:=L _ ((m:Int),s[m]) wr h (by rw[X7];exact A);rw[f];dsimp only[itV] at O;have C:Hid (m+k+1=s.length):=show _ from(by omega:m+k+1=s.length)
   clear hm f E c1 c2;gi_wp2
   refine K.mono ?_;rintro e P (⟨rfl,y,z⟩|⟨rfl,j⟩)
   ·gi_wp2
    go_roundw
    case rel=>exact⟨k+1,om,by have:=C.out;congr 1;omega,by rw[qA,o];exact y,d.trans z⟩
    case measure=>have:=C.out;simp only[intOf];omega
   ·gi_wp2
    refine bodyPost_ret (results_none rfl _ _ _) rfl ?_;exact⟨⟨_,rfl⟩,.inr ⟨_,⟨k+1,om,(by rw[qA,o])⟩,j⟩⟩
  ·obtain rfl:k=s.length:=om;gi_wp2
   go_end0
   exact⟨⟨_,rfl⟩,.inl ⟨_,rfl,h⟩⟩
def Zu (F:Fence)(n:Nat)(h:F.fn 459)(c:F.round=none)(l d:Nat)(a:Option Addr)(cap:Nat)(J:List (Int×It)->World->Prop)(W:World)(j:W.cell? ⟨d,0,none⟩=some (.slice a 0 cap))(g:J [] W):
  CallsIn F n Tryz.prog 459 #[.func (.yield l) #[] #[],.pointer (some ⟨d,0,none⟩)] W λe f=>(∃v,e = .returned v)/\J [] f:=by
 refine callsIn_of_wp func459 rfl h ?_ c;simp only[Tryz.ntmps459,List.size_toArray,List.length_cons,List.length_nil,Nat.reduceAdd,Nat.reduceSub,Array.replicate_succ,Array.replicate_zero,List.push_toArray,List.append_toArray,List.nil_append,List.cons_append];gi_wp2
 gi_loopw [3] (λi wr=>i = .int .i64 (-1)/\J [] wr) (λ_ _=>0)
 case atStart=>exact⟨rfl,g⟩
 case round =>
  obtain⟨rfl,b⟩:=hrel;gi_wp2
  go_end0
  exact⟨⟨_,rfl⟩,b⟩
def OJ (F:Fence)(n:Nat)(c:F.fn 449)(b:F.round=none)(a:Option Addr)(len cap:Nat)(w:World):
  CallsIn F n Tryz.prog 449 #[.slice a len cap] w λe w'=>e = .returned (.func (.func 459) #[] #[.pointer (some ⟨w.heap.size,0,none⟩)])/\w'=w.alloc (.cells #[.slice a len cap] 126):=by
 refine callsIn_of_wp func449 rfl c ?_ b;simp only[Tryz.ntmps449,List.size_toArray,List.length_cons,List.length_nil,Nat.reduceAdd,Nat.reduceSub,Array.replicate_succ,Array.replicate_zero,List.push_toArray,List.append_toArray,List.nil_append,List.cons_append];gi_wp2
 go_ret
 exact⟨rfl,rfl⟩
def Uj (F:Fence)(n:Nat)(v:F.fn 459)(t:F.round=none)(hn:1<=n)(g d:Nat)(a:Option Addr)(cap:Nat)(s:List It)(hl:s.length<1000000)(w:World)(m:g<d)(f:d<=w.heap.size)
  (B:w.cell? ⟨g,0,none⟩=some (.slice a s.length cap)) (z:s≠[]->∃b off,a=some ⟨b,off,none⟩/\b<d/\RR (λ_=>False) w b off 3 (s.map It.c)) :
  SeqStopsK F n Tryz.prog 459 #[.pointer (some ⟨g,0,none⟩)] (λx:Int×It=>#[Value.int .i64 x.1,itV x.2]) (Below d) (λG=>G=qL (vb s) s.length)
   (λpre=>∃k,k<=s.length/\pre=qL (vb s) k) s.length w:=λl J y W j _ _ A u=>by
 have q:=(j.cell (p:=⟨g,0,none⟩) (Nat.lt_of_lt_of_le m f)).trans B;by_cases hs:s = []
 ·subst hs;exact(Zu F n v t l g a cap J W q u).mono λe H ⟨C,D⟩=>⟨C,.inl ⟨_,rfl,D⟩⟩
 ·obtain⟨b,off,rfl,hb,E⟩:=z hs;have r:Ev (λ_=>False) w (λ_=>False) W:=⟨j.os,j.tape,j.output,j.size,λb hb _=>⟨id,j.block b hb⟩⟩
  exact RI F n v t hn l g d b off cap s hl hb J y A W q m (RR.mono r b off 3 (λo cs h=>r.cells (b:=b) (Nat.lt_of_lt_of_le hb f) id h) _ E) u
def lj {w w':World}(h:Ev (λ_=>False) w (λ_=>False) w'): Below w.heap.size w w':=⟨h.os,h.tape,h.output,h.size,λb hb=>(h.block b hb id).2⟩
def Boxed.ev {w w':World}(h:Ev (λ_=>False) w (λ_=>False) w'){B:Nat}{t:TypeId}{v:Value}(b:Boxed w B t v): Boxed w' B t v:=(h.block B b.lt id).2.trans b
def Below.ev {w W:World}(h:Below w.heap.size w W): Ev (λ_=>False) w (λ_=>False) W:=⟨h.os,h.tape,h.output,h.size,λb hb _=>⟨id,h.block b hb⟩⟩
def Zv {W:World}{B:Nat}{t:TypeId}{v:Value}{x:AV}(b:Boxed W B t v)(h:RV (λ_=>False) W x v): RV (λ_=>False) W (.rp [x]) (.pointer (some ⟨B,0,none⟩)):=by
 simp only[RV,RL];refine⟨B,0,[v],rfl,b.lt,id,⟨_,_,rfl,h,rfl⟩,λj a=>?_⟩;obtain rfl:j=0:=by simpa using a
 exact b.cell
def Xo {w w':World}(h:Ev (λ_=>False) w (λ_=>False) w')(B:Nat): KeepsFrom B w w':=⟨h.size,λk o _ a _=>(h.block k (Array.getElem?_eq_some_iff.1 a).1 id).2.trans a⟩
def Zw {fn:Func}{tmps:Array Value}{w W:World}{B D:Nat}{x y:Int}(h:∀W:World,W.cell? ⟨B,0,none⟩=some (.int .i64 x)->W.cell? ⟨B+1,0,none⟩=some (.int .i64 y)->(results fn tmps).run Tryz.prog W = .ok (.tuple #[.int .i64 x,.int .i64 y]) W)
  (d:Boxed W B 3 (.int .i64 x)) (f:Boxed W (B+1) 40 (.int .i64 y)) (j:w.heap.size<=D) (a:W.heap[D]?=some (.deferred (some []))) (g:Below w.heap.size w W) {r:Int×Int} (k:r=(x,y)) :
  bodyPostM Fence.wide 3 Tryz.prog fn (λe b=>e = .returned (.tuple #[.int .i64 r.1,.int .i64 r.2])/\Below w.heap.size w b) .ret { tmps:=tmps,defers:=[{ target:=.collected D,args:=#[] }] } W:=by
 refine⟨sm,.inl ⟨_,_,rfl,run_takeDeferred a,?_⟩⟩;have c2:=cell_kept d.cell (grownBy_putObj' _ D (.deferred none)) (λr e=>by cases e;exact⟨_,a,rfl⟩);have c:=cell_kept f.cell (grownBy_putObj' _ D (.deferred none)) (λr e=>by cases e;exact⟨_,a,rfl⟩);subst k;exact⟨_,h _ c2 c,rfl,g.trans (belowK_b (w:=w) (Nat.le_refl _) _ D _ _ j a rfl rfl)⟩
def MI (W:World)(B:Nat)(x:It): Prop:=W.heap[B]?=some (.cells #[.int .u8 x.perm,.int .i64 x.tag,.int .i64 x.call] 179 (0,0))
def gP (s:List It){k:Nat}(a:k<s.length): vb s k=(((s.length-1-k:Nat):Int),s[s.length-1-k]'om):=by
 unfold vb;rw[zE om,zH];exact congrArg (·,_) om
def cJ (p:It->Bool)(s:List It){k:Nat}(a:k<s.length): qh p s (s.length-k)=if p (vb s k).2=true then(vb s k).1 else qh p s (s.length-(k+1)):=by
 rw[gP s a,show s.length-k=s.length-1-k+1 by omega,show s.length-(k+1)=s.length-1-k by omega];rw[qh,zE om]
def iq (p:It->Bool)(s:List It): ∀k,k<=s.length->(∀q∈qL (vb s) k,p q.2=false)->uc p s=qh p s (s.length-k)
 |0,_,_=>rfl
 |k+1,hk,h=>by
  rw[iq p s k om λq a=>h q (by rw[qA];exact List.mem_append_left _ a),cJ p s om,if_neg];rw[h (vb s k) (by rw[qA];simp)];simp
def ir (tag:Int)(wr:Bool)(s:List It): Int×Int:=if yz s=0 then(if uc (xH tag wr) s<0 then(0,6) else(uc (xH tag wr) s,0)) else(0,yz s)
def OK (w:World)(a:Option Addr)(cap:Nat)(s:List It)(tag:Int)(wr:Bool)(hl:s.length<1000000)(hX:XOk (λ_=>False) w)(hv:RV (λ_=>False) w (vIt_ s) (.slice a s.length cap)):
  CallsIn Fence.wide 3 Tryz.prog 430 #[.slice a s.length cap,.int .i64 tag,.bool wr] w λe W'=>e = .returned (.tuple #[.int .i64 (ir tag wr s).1,.int .i64 (ir tag wr s).2])/\Below w.heap.size w W':=by
 have h1:1<=3:=om;refine callsIn_of_wp_marks func430 rfl trivial ?_ rfl;simp only[Tryz.ntmps430,List.size_toArray,List.length_cons,List.length_nil,Nat.reduceAdd,Nat.reduceSub,Array.replicate_succ,Array.replicate_zero,List.push_toArray,List.append_toArray,List.nil_append,List.cons_append];obtain⟨F,z⟩:∃F,(((w.alloc (.cells #[.int .i64 tag] 3)).alloc (.cells #[.bool wr] 4)).alloc (.cells #[.int .i64 0] 3)).alloc (.cells #[.int .i64 0] 40)=F:=⟨_,rfl⟩
 have v:Below w.heap.size w F:=by
  rw[<-z];exact((((Below.refl _ w).alloc (Nat.le_refl _) _).alloc sm _).alloc (by simp;omega) _).alloc (by simp;omega) _
 have P:Ev (λ_=>False) w (λ_=>False) F:=⟨v.os,v.tape,v.output,v.size,λb hb _=>⟨id,v.block b hb⟩⟩
 have V:XOk (λ_=>False) F:=⟨λ_ h=>h.elim,hX.2.mono P⟩
 have E:=th s hl (λ_=>False) F [.slice a s.length cap] V (RL.one (RV.mono P _ _ hv));have b0:Boxed F w.heap.size 3 (.int .i64 tag):=by rw[<-z];exact(((Boxed.new w 3 _).alloc _).alloc _).alloc _
 have b1:Boxed F (w.heap.size+1) 4 (.bool wr):=by
  have:=Boxed.new (w.alloc (.cells #[.int .i64 tag] 3)) 4 (.bool wr)
  rw[World.size_alloc] at this;rw[<-z];exact(this.alloc _).alloc _
 have R:Boxed F (w.heap.size+1+1) 3 (.int .i64 0):=by
  have:=Boxed.new ((w.alloc (.cells #[.int .i64 tag] 3)).alloc (.cells #[.bool wr] 4)) 3 (.int .i64 0)
  rw[World.size_alloc,World.size_alloc] at this;rw[<-z];exact this.alloc _
 have S:Boxed F (w.heap.size+1+1+1) 40 (.int .i64 0):=by
  have:=Boxed.new (((w.alloc (.cells #[.int .i64 tag] 3)).alloc (.cells #[.bool wr] 4)).alloc (.cells #[.int .i64 0] 3)) 40 (.int .i64 0)
  rw[World.size_alloc,World.size_alloc,World.size_alloc] at this;rw[<-z];exact this
 have ht:F.heap.size=w.heap.size+4:=by rw[<-z];simp
 by_cases I:yz s=0
 ·rw[I] at E;gi_wp2_with (first|(refine⟨trivial,?_⟩;gi_at_call 373;refine(callsIn_wide.2 E).mono ?_;rintro e t ⟨cv,rfl,g,d⟩;simp only[RV] at g;subst g;have c2:=(Boxed.ev d R).cell;have c3:=(Boxed.ev d S).cell;have nf:=Boxed.new t 329 Value.nilFunc;have h7:=nf.cell;have h8:=nf.frozen)|(refine⟨trivial,?_⟩;gi_at_call 449;refine(OJ Fence.wide 2 trivial rfl _ _ _ _).mono ?_;rintro e w3 ⟨rfl,rfl⟩))
  have M:Below w.heap.size w t:=v.trans ((lj d).mono om);have ha:w.heap.size+4<=t.heap.size:=by have:=d.size;omega
  have e0:=Boxed.ev d b0;have e1:=Boxed.ev d b1;have e2:=Boxed.ev d R;have e3:=Boxed.ev d S;obtain⟨N,Z⟩:∃N,Value.func (Fn.func 448) #[] #[.pointer (some ⟨w.heap.size,0,none⟩),.pointer (some ⟨w.heap.size+1,0,none⟩)]=N:=⟨_,rfl⟩
  obtain⟨u,m⟩:∃u,(t.alloc (.cells #[N] 329)).alloc (.cells #[.slice a s.length cap] 126)=u:=⟨_,rfl⟩
  have g0:Boxed u t.heap.size 329 N:=by rw[<-m];exact(Boxed.new t 329 N).alloc _
  have gs:Boxed u (t.heap.size+1) 126 (.slice a s.length cap):=by
   have:=Boxed.new (t.alloc (.cells #[N] 329)) 126 (.slice a s.length cap)
   rw[World.size_alloc] at this;rw[<-m];exact this
  have hu:u.heap.size=t.heap.size+2:=by rw[<-m];simp
  have d0:Boxed u w.heap.size 3 (.int .i64 tag):=by rw[<-m];exact(e0.alloc _).alloc _
  have d1:Boxed u (w.heap.size+1) 4 (.bool wr):=by rw[<-m];exact(e1.alloc _).alloc _
  have d2:Boxed u (w.heap.size+1+1) 3 (.int .i64 0):=by rw[<-m];exact(e2.alloc _).alloc _
  have d3:Boxed u (w.heap.size+1+1+1) 40 (.int .i64 0):=by rw[<-m];exact(e3.alloc _).alloc _
  have O:Below w.heap.size w u:=by rw[<-m];exact(M.alloc om _).alloc (by simp;omega) _
  rw[Z,m];clear m z E b0 b1 R S e0 e1 e2 e3 c2 c3 nf h7 h8 V P d v M;have hI:s≠[]->∃b off,a=some ⟨b,off,none⟩/\b<u.heap.size/\RR (λ_=>False) u b off 3 (s.map It.c):=λhs=>by
   have h2:=RV.mono (Below.ev O) _ _ hv;simp only[RV] at h2;obtain⟨a',h9,he,Q,_,h6,h5⟩:=h2;injection he with h4 hf hi;cases a' with
   |none =>
    rw[h6 rfl] at Q;simp at Q;exact absurd Q hs
   |some q =>
    obtain⟨b,off,rfl,k1,_,C⟩:=h5 q rfl (by simpa using hs);exact⟨b,off,h4,k1,C⟩
  refine wpIn_rangeFunc_ownH rfl h1 (gf:=459) (lb:=#[.pointer (some ⟨t.heap.size+1,0,none⟩)]) rfl trivial (enters_of func459 (by kernel_rfl) rfl)
   (Uj Fence.wide (3-1) trivial rfl om (t.heap.size+1) u.heap.size a cap s hl u om (Nat.le_refl _) gs.cell hI) belowK_t (belowK_b (Nat.le_refl _)) (Below.refl _ _) (λ_=>rfl)
   (λpre W=>(∀p∈pre,xH tag wr p.2=false)/\Below u.heap.size u W)
   (λc pre W=>(c = .ret/\∃J j,pre=J++[j]/\(∀p∈J,xH tag wr p.2=false)/\xH tag wr j.2=true/\Boxed W (w.heap.size+1+1) 3 (.int .i64 j.1)/\Boxed W (w.heap.size+1+1+1) 40 (.int .i64 0))/\Below w.heap.size w W)
   (OwnFrom.and (ownFrom_pure _ _) (ownFrom_below (Nat.le_refl _) (Nat.le_refl _)))
   (λc=>OwnFrom.and (Own.from (λs A B row hs hg hr=>by obtain⟨hc,J,j,k1,C,L,k4,k5⟩:=hs;exact⟨hc,J,j,k1,C,L,boxed_own _ _ (fun (_:Unit)=>_) () _ _ _ k4 hg hr,boxed_own _ _ (fun (_:Unit)=>_) () _ _ _ k5 hg hr⟩) _) (ownFrom_below (Nat.le_refl _) om))
   ⟨sm,Below.refl _ _⟩
   (λx a' W=>∃y,w.heap.size+4<=y/\MI W y x.2/\a' = { tmps:=#[.slice a s.length cap,.int .i64 tag,.bool wr,undef,.pointer (some ⟨w.heap.size,0,none⟩),.pointer (some ⟨w.heap.size+1,0,none⟩),.pointer (some ⟨w.heap.size+1+1,0,none⟩),.pointer (some ⟨w.heap.size+1+1+1,0,none⟩),.int .i64 0,.pointer (some ⟨t.heap.size,0,none⟩),.int .i64 x.1,.pointer (some ⟨y,0,none⟩),.slice a s.length cap,.int .i64 0,.int .i64 0,.bool false,undef,N,.slice a s.length cap,.func (.func 459) #[] #[.pointer (some ⟨t.heap.size+1,0,none⟩)],.int .i64 x.1,itV x.2,undef,undef,undef,undef],defers:=[] })
   (λx a' _ X Y row hs hg hr=>by
    obtain⟨y,k1,C,L⟩:=hs;refine⟨y,k1,(hg.block y (Array.getElem?_eq_some_iff.1 C).1 (λe=>?_)).trans C,L⟩;obtain⟨_,o,ho,hc⟩:=hr y e.symm;rw[show X.heap[y]?=_ from C] at ho;cases ho;cases hc)
   ?assign ?body ?done ?stop
  case assign =>
   rintro l pre x W K ⟨hp,r⟩ T;simp only[itV];gi_wp2
   exact T _ _ ((KeepsOthers.alloc _ _).from _) ((Below.refl _ W).alloc r.size _) ⟨hp,r.alloc r.size _⟩ ⟨W.heap.size,by have:=r.size;omega,World.alloc_heap_new W _,rfl⟩
  case body =>
   rintro l pre x a' W _ _ ⟨hp,r⟩ ⟨y,hd,bX,rfl⟩ hj;subst Z;have k0:Boxed W w.heap.size 3 (.int .i64 tag):=(r.block _ om).trans d0;have k1:Boxed W (w.heap.size+1) 4 (.bool wr):=(r.block _ om).trans d1;have C:Boxed W (w.heap.size+1+1) 3 (.int .i64 0):=(r.block _ om).trans d2;have L:Boxed W (w.heap.size+1+1+1) 40 (.int .i64 0):=(r.block _ om).trans d3;have kg:Boxed W t.heap.size 329 _:=(r.block _ om).trans g0;have cg:=kg.cell;have x0:W.cell? ⟨y,0,none⟩=some (.int .u8 x.2.perm):=by simp[World.cell?,show W.heap[y]?=_ from bX]
   have x1:W.cell? ⟨y,1,none⟩=some (.int .i64 x.2.tag):=by simp[World.cell?,show W.heap[y]?=_ from bX]
   have x2:W.cell? ⟨y,2,none⟩=some (.int .i64 x.2.call):=by simp[World.cell?,show W.heap[y]?=_ from bX]
   have G:Below w.heap.size w W:=O.trans (r.mono om);have h3:XOk (λ_=>False) W:=⟨λ_ h=>h.elim,hX.2.mono (Below.ev G)⟩
   have H:=Zt x.2 tag wr (λ_=>False) W [itV x.2,.pointer (some ⟨w.heap.size,0,none⟩),.pointer (some ⟨w.heap.size+1,0,none⟩)] h3 (by
    simp only[RL];exact⟨_,_,rfl,by unfold It.a It.c itV;simp only[RV,RL];exact⟨_,rfl,_,_,rfl,rfl,_,_,rfl,rfl,_,_,rfl,rfl,rfl⟩,_,_,rfl,Zv k0 (by simp only[RV]),_,_,rfl,Zv k1 (by simp only[RV]),rfl⟩)
   simp only[itV] at H ⊢;clear k0 k1 kg;cases hq:xH tag wr x.2 with
   |true =>
    rw[hq] at H;gi_wp2_with (refine⟨trivial,?_⟩;gi_at_call 448;refine(CallsIn.inRound l (callsIn_wide.2 H)).mono ?_;rintro e w4 ⟨cv,rfl,g,f⟩;simp only[RV] at g;subst g;have c2:=(Boxed.ev f C).cell;have c3:=(Boxed.ev f L).cell;have f2:=(Boxed.ev f C).frozen;have f3:=(Boxed.ev f L).frozen)
    have z2:Boxed w4 (w.heap.size+1+1) 3 (.int .i64 0):=Boxed.ev f C;have z3:Boxed w4 (w.heap.size+1+1+1) 40 (.int .i64 0):=Boxed.ev f L;exact⟨((Xo f _).trans ((KeepsOthers.setCell _ _ _).from _)).trans ((KeepsOthers.setCell _ _ _).from _),⟨rfl,pre,x,rfl,hp,hq,(z2.set _).other om _,(z3.other om _).set _⟩,
     ((G.trans ((lj f).mono G.size)).setCell (p:=⟨w.heap.size+1+1,0,none⟩) (by simp only;omega) _).setCell (p:=⟨w.heap.size+1+1+1,0,none⟩) (by simp only;omega) _⟩
   |false =>
    rw[hq] at H;gi_wp2_with (refine⟨trivial,?_⟩;gi_at_call 448;refine(CallsIn.inRound l (callsIn_wide.2 H)).mono ?_;rintro e w4 ⟨cv,rfl,g,f⟩;simp only[RV] at g;subst g)
    have U:Below u.heap.size W w4:=(lj f).mono r.size;exact⟨Xo f _,U,λp hm=>(zJ.1 hm).elim (hp p) λh=>by rw[zX.1 h];exact hq,r.trans U⟩
  case done =>
   rintro D ys W hD rfl ⟨hp,r⟩ T;have C:Boxed W (w.heap.size+1+1) 3 (.int .i64 0):=(r.block _ om).trans d2;have L:Boxed W (w.heap.size+1+1+1) 40 (.int .i64 0):=(r.block _ om).trans d3;have c2:=C.cell;have c3:=L.cell;have f2:=C.frozen;have f3:=L.frozen;have G:Below w.heap.size w W:=O.trans (r.mono om);gi_wp2
   refine Zw (λWx y2 y3=>?_) ((C.set _).other om _) ((L.other om _).set _) om ((KeepsOthers.setCell _ _ _).same D _ ((KeepsOthers.setCell _ _ _).same D _ T rfl) rfl)
    ((G.setCell (p:=⟨w.heap.size+1+1,0,none⟩) (by simp only;omega) _).setCell (p:=⟨w.heap.size+1+1+1,0,none⟩) (by simp only;omega) _) ?_
   ·simp[results,Tryz.f430,go_sem,y2,y3]
   ·unfold ir;rw[if_pos I,iq _ s s.length (Nat.le_refl _) hp,Nat.sub_self];rfl
  case stop =>
   rintro D c pre W hD ⟨k,hk,rfl⟩ ⟨⟨rfl,J,j,q1,q2,q3,q4,q5⟩,r⟩ T;gi_wp2
   refine Zw (λWx y2 y3=>?_) q4 q5 om T r ?_
   ·simp[results,Tryz.f430,go_sem,y2,y3]
   ·obtain⟨k',rfl⟩:∃k',k=k'+1:=by
     cases k with
     |zero=>simp[qL] at q1
     |succ k'=>exact⟨k',rfl⟩
    rw[qA] at q1;obtain⟨rfl,e5⟩:=List.append_inj' q1 rfl;obtain rfl:vb s k'=j:=by simpa using e5
    unfold ir;rw[if_pos I,iq _ s k' om q2,cJ _ s om,if_pos q3,if_neg];rw[gP s om];simp only;omega
 ·have hn:(yz s != 0)=true:=by simpa using I
  gi_wp2_with (refine⟨trivial,?_⟩;gi_at_call 373;refine(callsIn_wide.2 E).mono ?_;rintro e t ⟨cv,rfl,g,d⟩;simp only[RV] at g;subst g;have c2:=(Boxed.ev d R).cell;have c3:=(Boxed.ev d S).cell;have f2:=(Boxed.ev d R).frozen;have f3:=(Boxed.ev d S).frozen)
  have z2:Boxed t (w.heap.size+1+1) 3 (.int .i64 0):=Boxed.ev d R;have z3:Boxed t (w.heap.size+1+1+1) 40 (.int .i64 0):=Boxed.ev d S;have M:Below w.heap.size w t:=v.trans ((lj d).mono om);have y2:=((z2.set (.int .i64 0)).other (B':=w.heap.size+1+1+1) om (.int .i64 (yz s))).cell;have y3:=((z3.other (B':=w.heap.size+1+1) om (.int .i64 0)).set (.int .i64 (yz s))).cell;refine⟨_,?_,rfl,(M.setCell (p:=⟨w.heap.size+1+1,0,none⟩) (by simp only;omega) _).setCell (p:=⟨w.heap.size+1+1+1,0,none⟩) (by simp only;omega) _⟩;unfold ir;rw[if_neg I];simp[results,Tryz.f430,go_sem,y2,y3]
def Uk (s:List It)(tag:Int)(w:Bool)(hl:s.length<1000000): zK 430 [vIt_ s,.int .i64 tag,.bool w] (.tup [.int .i64 (if yz s=0 then(if uc (xH tag w) s<0 then 0 else uc (xH tag w) s) else 0),.int .i64 (if yz s=0 then(if uc (xH tag w) s<0 then 6 else 0) else yz s)]):=by
 intro X W cl f b;simp only[RL,RV] at b;obtain⟨v,_,rfl,c,_,_,rfl,rfl,_,_,rfl,rfl,rfl⟩:=b;have d:RV (λ_=>False) W (vIt_ s) v:=RV.wide (X:=X) (λ_ h=>h.elim) (by simp only[RV];exact c);obtain⟨a,cap,rfl,_⟩:=c;rw[zU] at d ⊢;refine(callsIn_wide.1 (OK W a cap s tag w hl ⟨λ_ h=>h.elim,f.2.wide λ_ h=>h.elim⟩ d)).mono λe j ⟨g,hb⟩=>?_;subst g;refine⟨_,rfl,?_,Below.ev hb⟩;simp only[RV,RL];refine⟨_,rfl,_,_,rfl,?_,_,_,rfl,?_,rfl⟩
 ·unfold ir;split<;>(try split)<;>rfl
 ·unfold ir;split<;>(try split)<;>rfl
def RJ {T:Type}{p:T->Bool}{l:List T}(hn:n<=l.length): qh p l n = -1\/∃k:Nat,qh p l n=k/\k<l.length:=by
 induction n with
 |zero=>exact Or.inl rfl
 |succ n ih =>
  unfold qh;split
  ·split
   ·exact Or.inr ⟨n,rfl,om⟩
   ·exact ih om
  ·split
   ·exact Or.inr ⟨n,rfl,om⟩
   ·exact ih om
def Zx {T:Type}{p:T->Bool}{l:List T}(h:¬uc p l<0): ∃k:Nat,uc p l=k/\k<l.length:=by
 rcases RJ (p:=p) (l:=l) (Nat.le_refl _) with a|a
 ·exact absurd (by unfold uc;omega) h
 ·exact a
def wup (x:It): It:=if x.perm=2 then { x with perm:=1 } else x
def isU (x:It): Bool:=x.perm==1
def t3 (s:List It)(n:Nat)(w:Bool): List It:=if w then s.take n++(s[n]?.map wup).toList else s.take (n+1)++(s.drop (n+1)).filter λx=>!isU x
def pq (s:List It)(n:Nat)(w:Bool): List It:=if w then s.drop (n+1) else(s.drop (n+1)).filter isU
def yv (s:List It)(tag:Int)(w:Bool): List It×List It×Int×Int :=
 if ¬yz s=0 then([],[],0,yz s) else if uc (xH tag w) s<0 then([],[],1,0) else(t3 s (uc (xH tag w) s).toNat w,pq s (uc (xH tag w) s).toNat w,0,0)
def OL(h:n<s.length)(hp:s[n].perm=2): List.take (min (n+1) s.length) ((List.take (n+1) (s.map It.c)).set n [iU 1,iI s[n].tag,iI s[n].call])=(t3 s n true).map It.c:=by
 unfold t3;rw[if_pos rfl,zE h,show min (n+1) s.length=n+1 by omega,zT (by simp;omega),<-List.map_take,List.take_add_one,zE h];have hl:(s.take n).length=n:=by simp;omega
 simp only[Option.toList_some,Option.map_some,zV,List.map_cons,List.map_nil,wup,if_pos hp];rw[List.set_append_right _ _ (by simp;omega),show n-(List.map It.c (s.take n)).length=0 by simp;omega];rfl
def OM(h:n<s.length)(hp:¬s[n].perm=2): List.take (min (n+1) s.length) (List.take (n+1) (s.map It.c))=(t3 s n true).map It.c:=by
 unfold t3;rw[if_pos rfl,zE h,show min (n+1) s.length=n+1 by omega,List.take_take,Nat.min_self,<-List.map_take,List.take_add_one,zE h];simp only[Option.toList_some,Option.map_some,zV,List.map_cons,List.map_nil,wup,if_neg hp]
def kL (lo hi:List It)(i:Nat): List It:=lo++(hi.take i).filter λx=>!isU x
def kR (hi:List It)(i:Nat): List It:=(hi.take i).filter isU
def WH {lo hi:List It}(h:i<hi.length): kL lo hi (i+1)=if hi[i].perm=1 then kL lo hi i else kL lo hi i++[hi[i]]:=by
 unfold kL;rw[List.take_add_one,zE h,Option.toList_some,List.filter_append];by_cases hp:hi[i].perm=1<;>simp[isU,hp]
def WI {hi:List It}(h:i<hi.length): kR hi (i+1)=if hi[i].perm=1 then kR hi i++[hi[i]] else kR hi i:=by
 unfold kR;rw[List.take_add_one,zE h,Option.toList_some,List.filter_append];by_cases hp:hi[i].perm=1<;>simp[isU,hp]
def Ie {lo hi:List It}{i:Nat}: (kL lo hi i).length<=lo.length+hi.length:=by
 unfold kL;have a:=List.length_filter_le (λx=>!isU x) (hi.take i);simp only[List.length_append,List.length_take] at *;omega
def If {hi:List It}{i:Nat}: (kR hi i).length<=hi.length:=by
 unfold kR;have a:=List.length_filter_le isU (hi.take i);simp only[List.length_take] at *;omega
def gQ (s:List It)(tag:Int)(w:Bool)(hl:s.length<1000000): zK 398 [vIt_ s,iI tag,.bool w]
  (.tup [.vec 3 ((yv s tag w).1.map It.c),.vec 3 ((yv s tag w).2.1.map It.c),iU (yv s tag w).2.2.1,iI (yv s tag w).2.2.2]):=by
 have f:=Uk s tag w hl;by_cases d:yz s=0
 ·by_cases e:uc (xH tag w) s<0
  ·have h:yv s tag w=([],[],1,0):=by unfold yv;rw[if_neg (by simpa using d),if_pos e]
   rw[h];rw[if_pos d,if_pos e,if_pos d,if_pos e] at f;refine eK [] func398 λX=>?_;go_simp;repeat'(first|(apply zd f;try go_simp)|with_reducible first|apply ai|intro)
  ·obtain⟨n,hn,a⟩:=Zx e;have h:yv s tag w=(t3 s n w,pq s n w,0,0):=by unfold yv;rw[if_neg (by simpa using d),if_neg e,hn];rfl
   rw[h];rw[if_pos d,if_neg e,if_pos d,if_neg e,hn] at f;have p:qJ s n=0:=by unfold qJ;rw[if_neg (by simpa using d),if_neg om]
   have r:=Zs s n hl p;have q:=X6 s n hl;have u:qK s n=s.take (n+1):=by unfold qK;rw[if_pos p];rfl
   have v:nr s n=s.drop (n+1):=by unfold nr;rw[if_pos p];rfl
   rw[p,v] at q;rw[u] at r;clear h hn e p;cases w with
   |true =>
    refine eK [] func398 λX=>?_;go_simp;repeat'(first|((first|apply zd f|(refine xu (.l 34) r ?_;intro j k)|apply zd q);try go_simp)|with_reducible first|apply ai|intro)
    all_goals try omega
    ·exact OL a (by assumption)
    ·rw[<-List.map_drop];rfl
    ·exact OM a (by assumption)
    ·rw[<-List.map_drop];rfl
   |false =>
    have m:t3 s n false=kL (s.take (n+1)) (s.drop (n+1)) (s.drop (n+1)).length:=by unfold t3 kL;rw[List.take_length];rfl
    have o:pq s n false=kR (s.drop (n+1)) (s.drop (n+1)).length:=by unfold pq kR;rw[List.take_length];rfl
    rw[m,o];have z:(s.take (n+1)).length<=s.length:=by simp;omega
    have y:(s.drop (n+1)).length<=s.length:=by simp
    clear m o u v d;generalize s.take (n+1)=lo at *;generalize s.drop (n+1)=hi at *;refine eK [] func398 λX=>?_;go_simp;repeat'(first|((first|apply zd f|(refine xu (.l 34) r ?_;intro j k)|apply zd q);try go_simp)|with_reducible first|apply ai|intro)
    refine sS 16 (.l 68) 3 179 (by go_simp) (by go_simp) ?_;refine zf hP (B:=[]) (G:=Nat×(Nat×Nat)×(Nat×Nat)) (λg=>[(12,.sl (.l 34) g.2.1.1 3 (kL lo hi g.1).length g.2.1.2),(16,.sl (.l 68) g.2.2.1 3 (kR hi g.1).length g.2.2.2),(56,vIt_ hi),(57,iI hi.length),(58,iI g.1)])
     (λg=>[(.l 34,⟨g.2.1.1,g.2.1.2,3,179,(kL lo hi g.1).map It.c,false⟩),(.l 68,⟨g.2.2.1,g.2.2.2,3,179,(kR hi g.1).map It.c,false⟩)]) (λg=>g.1<=hi.length) (λg=>hi.length-g.1) (0,(j,k),(0,0)) dk sm ?_ ?_ ?_
    ·go_simp;simp[kL,kR]
    ·go_simp;simp[kL,kR]
    ·rintro⟨i,⟨b,c⟩,⟨A,C⟩⟩ t;go_simp;have e:=@Ie lo hi i;have D:=@If hi i;refine⟨λa=>⟨_,zE a,λhp=>⟨om,λb c=>?_⟩,λhp=>⟨om,λb c=>?_⟩⟩,λx=>?_⟩
     ·refine⟨i+1,om,om,_,_,_,_,⟨⟨rfl,?_,rfl⟩,⟨rfl,?_,rfl⟩,wrS om⟩,⟨rfl,rfl,?_⟩,rfl,rfl,?_⟩;all_goals simp[WH a,WI a,hp,It.c]
     ·refine⟨i+1,om,om,_,_,_,_,⟨⟨rfl,?_,rfl⟩,⟨rfl,?_,rfl⟩,wrS om⟩,⟨rfl,rfl,?_⟩,rfl,rfl,?_⟩;all_goals simp[WH a,WI a,hp,It.c]
     ·obtain rfl:i=hi.length:=by simp only at t;omega
      exact⟨rfl,rfl⟩
 ·have h:yv s tag w=([],[],0,yz s):=by unfold yv;rw[if_pos d]
  have E:¬yz s=6:=by unfold yz;split<;>omega
  rw[h];rw[if_neg d,if_neg d] at f;refine eK [] func398 λX=>?_;go_simp;repeat'(first|(apply zd f;try go_simp)|with_reducible first|apply ai|intro)
def jH (s:List It)(tag:Int)(hl:s.length<1000000): zK 339 [vIt_ s,iI tag]
  (.tup [.vec 3 ((yv s tag false).1.map It.c),.vec 3 ((yv s tag false).2.1.map It.c),iU (yv s tag false).2.2.1,iI (yv s tag false).2.2.2]):=by
 have h:=gQ s tag false hl;refine eK [] func339 λX=>?_;go_simp;repeat'(first|(apply zd h;try go_simp)|with_reducible first|apply ai|intro)
def lR (s:List It)(tag:Int)(hl:s.length<1000000): zK 341 [vIt_ s,iI tag]
  (.tup [.vec 3 ((yv s tag true).1.map It.c),.vec 3 ((yv s tag true).2.1.map It.c),iU (yv s tag true).2.2.1,iI (yv s tag true).2.2.2]):=by
 have h:=gQ s tag true hl;refine eK [] func341 λX=>?_;go_simp;repeat'(first|(apply zd h;try go_simp)|with_reducible first|apply ai|intro)
def iu (n:Int): zK 425 [iI n] (.bool (inT n)):=by
 refine eK [] func425 λX=>?_;go_simp;all_goals grind [inT]
def Ul (x:It): zK 447 [x.a] (.bool (vK x)):=by
 obtain⟨a,b,c⟩:=x;refine eK [] func447 λX=>?_;go_simp;repeat'(first|((first|apply zd (iu b)|apply zd (iu c));try go_simp)|with_reducible first|apply ai|intro)
 all_goals grind [vK]
def X8 (s:List It)(hl:s.length<1000000): zK 426 [vIt_ s] (iI (yz s)):=by
 refine eK [] func426 λX=>?_;go_simp;repeat'(first|with_reducible first|apply ai|intro)
 ·grind [yz,nq]
 refine lN [] (λi=>[(0,vIt_ s),(3,iI i)]) (λi=>[]) (λi=>i<=s.length/\∀x∈s.take i,vK x=true) (λi=>s.length-i) 0 ?_
 rintro i ⟨hi,c⟩;go_simp;refine⟨λa=>⟨_,zE a,?_⟩,λb=>?_⟩
 ·repeat'(first|(apply zd (Ul s[i]);try go_simp)|with_reducible first|apply ai|intro)
  ·have:s.all vK=false:=by rw[List.all_eq_false];exact⟨_,zM a,by simp[*]⟩
   unfold yz nq;rw[this,Bool.and_false];rfl
  ·exact⟨i+1,⟨om,zr c a (by assumption)⟩,om,wrS om⟩
 ·have h:=zA.2 (zx c b);unfold yz nq;rw[h,decide_eq_true om];rfl
def RM{tag:Int}{w:Bool}(h:¬yz s=0): yv s tag w=([],[],0,yz s):=by unfold yv;rw[if_pos h]
def grE (k:Int): Int:=if 1<=k/\k<=4 then 0 else 2
def grW (k:Int): Bool:=k==2||k==4
def uu (k:Int): Int:=if k=1 then 4 else if k=2 then 1 else if k=3 then 2 else 3
def jh (k:Int)(x:It): Bool:=!(grE k==0)||!(x.perm==0)||!inT x.tag||!inT x.call
def xv (s:List It)(k a:Int)(x:It): List It×List It×Int×Int :=
 if ¬yz s=0 then([],[],0,yz s) else if jh k x then([],[],0,2) else if ¬(yv s a (grW k)).2.2.1=0 then([],[],(yv s a (grW k)).2.2.1,0) else
 if(yv s a (grW k)).1.length=600 then([],[],0,18) else((yv s a (grW k)).1++[{ x with perm:=uu k }],(yv s a (grW k)).2.1,0,0)
def sE: yz s=0↔s.length<=600/\∀x∈s,vK x=true:=by
 unfold yz nq;cases h:(decide (s.length<=600)&&s.all vK)<;>simp[zA] at h ⊢
 ·exact h
 ·exact h
def MJ {x:It}(h:vK x=true): vK (wup x)=true:=by
 unfold wup;split
 ·unfold vK at *;simp only[zB] at *;exact⟨⟨rfl,h.1.2⟩,h.2⟩
 ·exact h
def jl{tag:Int}{w:Bool}(h:yz s=0): yz (yv s tag w).1=0/\(∀x∈(yv s tag w).2.1,vK x=true)/\(yv s tag w).1.length<=s.length/\(yv s tag w).2.1.length<=s.length:=by
 obtain⟨k,b⟩:=sE.1 h;by_cases c:uc (xH tag w) s<0
 ·have d:yv s tag w=([],[],1,0):=by unfold yv;rw[if_neg (by simpa using h),if_pos c]
  rw[d];exact⟨by decide,sm,sm,sm⟩
 ·obtain⟨n,hn,a⟩:=Zx c;have d:yv s tag w=(t3 s n w,pq s n w,0,0):=by unfold yv;rw[if_neg (by simpa using h),if_neg c,hn];rfl
  rw[d];have f:∀x∈t3 s n w,vK x=true:=λx hx=>by
   unfold t3 at hx;rw[zE a] at hx;split at hx
   ·simp only[Option.map_some,Option.toList_some,zJ,zX] at hx;rcases hx with hx|rfl
    ·exact b x (List.mem_of_mem_take hx)
    ·exact MJ (b _ (zM a))
   ·rcases zJ.1 hx with hx|hx
    ·exact b x (List.mem_of_mem_take hx)
    ·exact b x (List.mem_of_mem_drop (List.mem_filter.1 hx).1)
  have g:∀x∈pq s n w,vK x=true:=λx hx=>by
   unfold pq at hx;split at hx
   ·exact b x (List.mem_of_mem_drop hx)
   ·exact b x (List.mem_of_mem_drop (List.mem_filter.1 hx).1)
  have hl:(t3 s n w).length<=s.length:=by
   have e:=List.length_filter_le (λx=>!isU x) (s.drop (n+1));unfold t3;rw[zE a];split
   ·simp;omega
   ·simp only[List.length_append,List.length_take,List.length_drop] at *;omega
  have j:(pq s n w).length<=s.length:=by
   have e:=List.length_filter_le isU (s.drop (n+1));unfold pq;split
   ·simp
   ·simp only[List.length_drop] at *;omega
  exact⟨sE.2 ⟨by simp only;omega,f⟩,g,hl,j⟩
def qi (k:Int): zK 238 [iU k] (iI (if k=0\/5<=k then 2 else 0)):=by
 refine eK [] func238 λX=>?_;go_simp;all_goals grind
def Zy (k:Int): zK 400 [iU k] (.tup [.bool (grW k),iI (if k=0\/5<=k then 2 else 0)]):=by
 refine eK [] func400 λX=>?_;go_simp;repeat'(first|(apply zd (qi k);try go_simp)|with_reducible first|apply ai|intro)
 all_goals grind [grW]
def MK (k:Int): grE k=0\/grE k=2:=by unfold grE;split<;>simp
def dj {k:Int}(a:0<=k): (if k=0\/5<=k then(2:Int) else 0)=grE k:=by unfold grE;split<;>split<;>omega
def Ed:grW 1=false:=rfl
def Ee:grW 2=true:=rfl
def Ef:grW 3=false:=rfl
def Eg:grW 4=true:=rfl
def pK1:uu 1=4:=rfl
def pK2:uu 2=1:=rfl
def pK3:uu 3=2:=rfl
def pK4:uu 4=3:=rfl
abbrev rtA (r:List It×List It×Int×Int): AV:=.tup [vIt_ r.1,vIt_ r.2.1,iU r.2.2.1,iI r.2.2.2]
def X9 (s:List It)(k b:Int)(x:It)(hl:s.length<1000000)(B:0<=k): zK 342 [vIt_ s,iU k,iI b,x.a] (rtA (xv s k b x)):=by
 have q:=th s hl;have g:=Zy k;rw[dj B] at g;by_cases y:yz s=0
 ·by_cases hb:jh k x=true
  ·have A:xv s k b x=([],[],0,2):=by unfold xv;rw[if_neg (by simpa using y),if_pos hb]
   rw[A];have H:=MK k;obtain⟨p,D,cl⟩:=x;refine eK [] func342 λX=>?_;go_simp;repeat'(first|((first|apply zd q|apply zd g);try go_simp)|with_reducible first|apply ai|intro)
   all_goals(exfalso;grind [jh,inT])
  ·have e:grW k=false->zK 339 [vIt_ s,iI b] (rtA (yv s b (grW k))):=λh=>by rw[h];exact jH s b hl
   have d:grW k=true->zK 341 [vIt_ s,iI b] (rtA (yv s b (grW k))):=λh=>by rw[h];exact lR s b hl
   have j:grE k=0:=by unfold jh at hb;simp at hb;exact hb.1.1.1
   have t:k=1\/k=2\/k=3\/k=4:=by unfold grE at j;split at j<;>omega
   have m:x.perm=0/\inT x.tag=true/\inT x.call=true:=by unfold jh at hb;simp at hb;exact⟨hb.1.1.2,hb.1.2,hb.2⟩
   have z:0<=x.tag/\x.tag<=1000000/\0<=x.call/\x.call<=1000000:=by have:=m.2;unfold inT at this;simp at this;exact⟨this.1.1,this.1.2,this.2.1,this.2.2⟩
   obtain⟨u1,E,F,G⟩:=jl (tag:=b) (w:=grW k) y;have v:xv s k b x=if ¬(yv s b (grW k)).2.2.1=0 then([],[],(yv s b (grW k)).2.2.1,0) else
     if(yv s b (grW k)).1.length=600 then([],[],0,18) else((yv s b (grW k)).1++[{ x with perm:=uu k }],(yv s b (grW k)).2.1,0,0):=by
    unfold xv;rw[if_neg (by simpa using y),if_neg hb]
   rw[v];have c:=Ui (yv s b (grW k)).1 ⟨uu k,x.tag,x.call⟩ om;have r:vK ⟨uu k,x.tag,x.call⟩=true:=by unfold vK;rw[m.2.1,m.2.2];rcases t with rfl|rfl|rfl|rfl<;>rfl
   have o:gN (yv s b (grW k)).1 ⟨uu k,x.tag,x.call⟩=if(yv s b (grW k)).1.length=600 then 18 else 0:=by unfold gN;rw[if_neg (by simpa using u1),if_neg (by simpa using r)]
   have hpl:ae (yv s b (grW k)).1 ⟨uu k,x.tag,x.call⟩=if(yv s b (grW k)).1.length=600 then [] else(yv s b (grW k)).1++[⟨uu k,x.tag,x.call⟩]:=by
    unfold ae;rw[o];split<;>simp_all
   rw[o,hpl] at c;rw[j] at g;clear o hpl v u1 E F G r j hb;obtain⟨p,D,cl⟩:=x;obtain⟨rfl,C⟩:=m;simp only at z c;generalize yv s b (grW k)=u at *;obtain⟨I,J,L,K⟩:=u;rcases t with rfl|rfl|rfl|rfl
   ·have f:=e rfl;clear e d;simp only[Ed,pK1] at g c ⊢;simp only[rtA] at f;refine eK [] func342 λX=>?_;go_simp;repeat'(first|((first|apply zd q|apply zd g|apply zd f|apply zd c);try go_simp)|with_reducible first|apply ai|intro)
    all_goals(try omega)
    all_goals(try grind)
   ·have f:=d rfl;clear e d;simp only[Ee,pK2] at g c ⊢;simp only[rtA] at f;refine eK [] func342 λX=>?_;go_simp;repeat'(first|((first|apply zd q|apply zd g|apply zd f|apply zd c);try go_simp)|with_reducible first|apply ai|intro)
    all_goals(try omega)
    all_goals(try grind)
   ·have f:=e rfl;clear e d;simp only[Ef,pK3] at g c ⊢;simp only[rtA] at f;refine eK [] func342 λX=>?_;go_simp;repeat'(first|((first|apply zd q|apply zd g|apply zd f|apply zd c);try go_simp)|with_reducible first|apply ai|intro)
    all_goals(try omega)
    all_goals(try grind)
   ·have f:=d rfl;clear e d;simp only[Eg,pK4] at g c ⊢;simp only[rtA] at f;refine eK [] func342 λX=>?_;go_simp;repeat'(first|((first|apply zd q|apply zd g|apply zd f|apply zd c);try go_simp)|with_reducible first|apply ai|intro)
    all_goals(try omega)
    all_goals(try grind)
 ·have A:xv s k b x=([],[],0,yz s):=by unfold xv;rw[if_pos (by simpa using y)]
  rw[A];refine eK [] func342 λX=>?_;go_simp;repeat'(first|(apply zd q;try go_simp)|with_reducible first|apply ai|intro)
def xI (l:List Int)(j:Nat): Int:=if j=0 then 0 else l.getD (j-1) 0
def qj (l:List Int)(j:Nat): Bool:=decide (xI l j<l.getD j 0)&&decide (l.getD j 0<=1000000)
def pW (l:List Int): Bool:=decide (l.length<=32)&&(List.range l.length).all (qj l)
def y9 (l:List Int): Int:=if pW l then 0 else 8
def uH(h:i<l.length): xI l (i+1)=l[i]:=by
 unfold xI;rw[if_neg om,Nat.add_sub_cancel,zD,zE h];rfl
def sF(h:i<l.length): qj l i=(decide (xI l i<l[i])&&decide (l[i]<=1000000)):=by
 unfold qj;rw[zD,zE h];rfl
def ah(h:i<l.length)(k:qj l i=false): y9 l=8:=by
 have:(List.range l.length).all (qj l)=false:=by rw[List.all_eq_false];exact⟨i,by simpa using h,by simp[k]⟩
 unfold y9 pW;rw[this,Bool.and_false];rfl
def Zz(h:∀j,j<l.length->qj l j=true)(hl:l.length<=32): y9 l=0:=by
 have:(List.range l.length).all (qj l)=true:=zA.2 λj a=>h j (by simpa using a)
 unfold y9 pW;rw[this,decide_eq_true hl];rfl
def uV: y9 l=0↔l.length<=32/\∀j,j<l.length->qj l j=true:=by
 constructor
 ·intro h;unfold y9 at h;cases a:pW l with
  |false=>rw[a] at h;simp at h
  |true =>
   unfold pW at a;simp only[zB,zL] at a;exact⟨a.1,λj b=>zA.1 a.2 j (by simpa using b)⟩
 ·exact λh=>Zz h.2 h.1
def vC (l:List Int)(hl:l.length<1000000): zK 291 [vCi_ l] (iI (y9 l)):=by
 refine eK [] func291 λX=>?_;go_simp;repeat'(first|with_reducible first|apply ai|intro)
 ·rename_i h;unfold y9 pW;rw[decide_eq_false om];rfl
 refine lN [] (λi=>[(3,iI (xI l i)),(9,vCi_ l),(10,iI l.length),(11,iI i)]) (λi=>[]) (λi=>i<=l.length/\∀j,j<i->qj l j=true) (λi=>l.length-i) 0 ?_
 rintro i ⟨hi,b⟩;go_simp;refine⟨λa=>⟨_,zE a,?_⟩,λc=>?_⟩
 ·have hs:=sF a;have hp:=uH a;repeat'(first|with_reducible first|apply ai|intro)
  all_goals first
   |exact(ah a (by rw[hs];simp;omega)).symm
   |exact ah a (by rw[hs];simp;omega)
   |exact⟨i+1,⟨om,λj d=>by
     rcases Nat.lt_or_ge j i with h|h
     ·exact b j h
     ·obtain rfl:j=i:=om;rw[hs];simp;omega⟩,om,by rw[hp],wrS om⟩
 ·exact(Zz (λj d=>b j om) om).symm
def XA (l:List Int)(hl:l.length<1000000): zK 321 [vCi_ l] (iI (y9 l)):=by
 refine eK [] func321 λX=>?_;go_simp;repeat'(first|with_reducible first|apply ai|intro)
 ·rename_i h;unfold y9 pW;rw[decide_eq_false om];rfl
 refine lN [] (λi=>[(0,vCi_ l),(3,iI (xI l i)),(4,iI i)]) (λi=>[]) (λi=>i<=l.length/\∀j,j<i->qj l j=true) (λi=>l.length-i) 0 ?_
 rintro i ⟨hi,b⟩;go_simp;refine⟨λa=>?_,λc=>?_⟩
 ·have hs:=sF a;have hp:=uH a;repeat'(first|refine⟨_,zE a,?_⟩|with_reducible first|apply ai|intro)
  all_goals first
   |exact(ah a (by rw[hs];simp;omega)).symm
   |exact ah a (by rw[hs];simp;omega)
   |exact⟨i+1,⟨om,λj d=>by
     rcases Nat.lt_or_ge j i with h|h
     ·exact b j h
     ·obtain rfl:j=i:=om;rw[hs];simp;omega⟩,om,by rw[hp],wrS om⟩
 ·exact(Zz (λj d=>b j om) om).symm
def tL (r:List Int)(x:It): Bool:=r.any (eqI x.call)
def Z0 (a b:Int): zK 444 [iI a,iI b] (.bool (decide (a<b))):=by
 have h:∀n:Int,zK 455 [iI n] (.bool false):=λn=>by
  refine eK [] func455 λX=>?_;go_simp
 refine eK [] func444 λX=>?_;go_simp;repeat'(first|((first|apply zd (h a)|apply zd (h b));try go_simp)|with_reducible first|apply ai|intro)
def dm (l:List Int)(x:Int): Int:=l.findIdx (λy=>decide (x<=y))
def Ig(h:y9 l=0)(hi:i+1<l.length): l[i]<l[i+1]:=by
 have:=(uV.1 h).2 (i+1) hi
 rw[sF hi] at this;simp only[zB,zL] at this;rw[uH om] at this;exact this.1
def rH {l:List Int}(h:y9 l=0): ∀(j i:Nat)(a:j<l.length) (hi:i<=j),l[i]<=l[j]
 |0,i,a,hi=>by
   obtain rfl:i=0:=om;exact Int.le_refl _
 |j+1,i,a,hi=>by
  rcases Nat.lt_or_ge i (j+1) with c|c
  ·have b:=rH h j i om om;have d:=Ig h a;omega
  ·obtain rfl:i=j+1:=om;exact Int.le_refl _
def Z4 (n:Int): zK 445 [iI n] (.bool false):=by
 refine eK [] func445 λX=>?_;go_simp
def T2{x:Int}(a:∀k (h:k<l.length),k<i->l[k]<x)(c:∀h:i<l.length,x<=l[i])(hi:i<=l.length): dm l x=i:=by
 unfold dm;congr 1
 rcases Nat.lt_or_ge i l.length with h|h
 ·refine(List.findIdx_eq h).2 ⟨by simpa using c h,λj d=>?_⟩;have:=a j om d
  simp;omega
 ·obtain rfl:i=l.length:=om;rw[List.findIdx_eq_length];intro y e;obtain⟨k,b,rfl⟩:=List.mem_iff_getElem.1 e;have:=a k b b
  simp;omega
def aj{x:Int}(f:y9 l=0)(d:∀k (h:k<l.length),k<i->l[k]<x)(e:∀k (h:k<l.length),i<=k->x<=l[k])(a:∀h:i<l.length,¬l[i]=x): ∀y∈l,eqI x y=false:=λy g=>by
 obtain⟨k,b,rfl⟩:=List.mem_iff_getElem.1 g;unfold eqI;rcases Nat.lt_or_ge k i with c|c
 ·have:=d k b c
  simp;omega
 ·have j:=rH f k i b c;have m:=e i om (Nat.le_refl _);have o:=a om;simp;omega
def ML (l:List Int)(x:Int)(f:y9 l=0): zK 435 [vCi_ l,iI x] (.tup [iI (dm l x),.bool (l.any (eqI x))]):=by
 have hl:=(uV.1 f).1;refine eK [] func435 λX=>?_;go_simp;refine lG [] (G:=Nat×Nat) (λg=>[(0,vCi_ l),(1,iI x),(6,iI l.length),(7,iI g.1),(8,iI g.2)]) (λg=>[]) (λg=>g.1<=g.2/\g.2<=l.length/\(∀k (h:k<l.length),k<g.1->l[k]<x)/\(∀k (h:k<l.length),g.2<=k->x<=l[k])) (λg=>g.2-g.1) (0,l.length) ?_ (h0:=(by simp;omega))
 rintro⟨i,j⟩ ⟨w,q,b,c⟩;simp only at w q b c;obtain⟨m,hm,C,D⟩:∃m:Nat,IntKind.i64.wrap ((IntKind.u64.wrap (IntKind.i64.wrap ((i:Int)+(j:Int)))).fdiv 2)=(m:Int)/\2*m<=i+j/\i+j<=2*m+1:=by
  refine⟨(i+j)/2,?_,om,om⟩;have t:IntKind.i64.wrap ((i:Int)+(j:Int))=(i:Int)+j:=AM.Tf om;have u:IntKind.u64.wrap ((i:Int)+(j:Int))=(i:Int)+j:=by simp only[IntKind.wrap,IntKind.bits,IntKind.signed];simp;omega
  rw[t,u];have v:((i:Int)+j).fdiv 2=(((i+j)/2:Nat):Int):=by rw[Int.fdiv_eq_ediv_of_nonneg _ om];omega
  rw[v];exact AM.Tf om
 go_simp;clear hm;refine⟨λa=>?_,λB=>?_⟩
 ·have e:m<l.length:=om;have y:=Z0 l[m] x;refine⟨_,zE e,?_⟩;repeat'(first|(apply zd y;try go_simp)|with_reducible first|apply ai|intro)
  ·rename_i A;refine⟨m+1,j,⟨om,om,λk r d=>?_,c⟩,om,wrS om,rfl⟩;have:=rH f m k e om
   omega
  ·rename_i A;refine⟨i,m,⟨om,om,b,λk r d=>?_⟩,om,rfl,rfl⟩;have:=rH f k m r d
   omega
 ·obtain rfl:i=j:=om;have hp:dm l x=i:=T2 b (λh=>c i h (Nat.le_refl _)) q;by_cases a:i<l.length
  ·refine⟨λ_=>⟨_,zE a,λp=>⟨_,zE a,?_⟩,λo=>?_⟩,λh=>absurd a om⟩
   ·have z:=Z4 l[i];repeat'(first|(apply zd z;try go_simp)|with_reducible first|apply ai|intro)
    all_goals first|exact hp.symm|(exact aj f b c (λ_=>p) _ (by assumption))
   ·exact⟨hp.symm,l[i],zM a,by simp[eqI,o]⟩
  ·refine⟨λh=>absurd h a,λ_=>⟨hp.symm,?_⟩⟩;exact aj f b c (λh=>absurd h a)
def XB (l:List It)(r:List Int)(hl:l.length<1000000)(d:y9 r=0): zK 399 [vIt_ l,vCi_ r] (iI (idx (tL r) l)):=by
 have c:yF 434 [.rp [vCi_ r]] It.a (tL r) l:=⟨by go_simp,λx hx=>by
  have h:=ML r x.call d;have b:tL r x=r.any (eqI x.call):=rfl;rw[b];refine eK [] func434 λX=>?_;go_simp;repeat'(first|(apply zd h;try go_simp)|with_reducible first|apply ai|intro)⟩
 refine eK [1] func399 λX=>?_;go_simp;repeat'(first|with_reducible first|apply ai|intro)
 refine z5 [.l 3] 3 (SV.ptr rfl rfl rfl rfl sm rfl) ?_;refine aO [] ?_;go_simp;repeat'(first|(apply zd (RC c hl);try go_simp)|with_reducible first|apply ai|intro)
def pu (r:List Int)(u:List It×List It×Int×Int): List It×Int×Int:=if u.2.2.2=0/\u.2.2.1=0 then(if u.2.1.any (tL r) then([],2,0) else(u.1,0,0)) else(u.1,u.2.2.1,u.2.2.2)
abbrev tlA (r:List It×Int×Int): AV:=.tup [vIt_ r.1,iU r.2.1,iI r.2.2]
def mA (u:List It×List It×Int×Int)(r:List Int)(hl:u.2.1.length<1000000)(e:y9 r=0): zK 340 [vIt_ u.1,vIt_ u.2.1,iU u.2.2.1,iI u.2.2.2,vCi_ r] (tlA (pu r u)):=by
 obtain⟨a,b,c,d⟩:=u;simp only at hl ⊢;have h:=XB b r hl e;have f:=vZ (p:=tL r) (l:=b);refine eK [] func340 λX=>?_;go_simp;repeat'(first|(apply zd h;try go_simp)|with_reducible first|apply ai|intro)
 all_goals grind [pu]
def xe (r:List Int)(u:List It×List It×Int×Int): List It×Int×Int:=if ¬y9 r=0 then([],0,y9 r) else pu r u
def iv {s:List It}{tag:Int}{w:Bool}: (yv s tag w).2.1.length<=s.length:=by
 by_cases h:yz s=0
 ·exact(jl h).2.2.2
 ·rw[RM h];simp
def T3{k a:Int}{x:It}: (xv s k a x).2.1.length<=s.length:=by
 have:=@iv s a (grW k)
 unfold xv;repeat' split
 all_goals simp
 exact this
def Um (s:List It)(tag:Int)(r:List Int)(hl:s.length<1000000)(f:r.length<1000000): zK 221 [vIt_ s,iI tag,vCi_ r] (tlA (xe r (yv s tag false))):=by
 have c:=vC r f;have e:=jH s tag hl;by_cases b:y9 r=0
 ·have d:=mA (yv s tag false) r (Nat.lt_of_le_of_lt iv hl) b;have a:xe r (yv s tag false)=pu r (yv s tag false):=by unfold xe;rw[if_neg (by simpa using b)]
  rw[a];clear a;refine eK [] func221 λX=>?_;go_simp;repeat'(first|((first|apply zd c|apply zd e|apply zd d);try go_simp)|with_reducible first|apply ai|intro)
 ·have a:xe r (yv s tag false)=([],0,y9 r):=by unfold xe;rw[if_pos b]
  rw[a];refine eK [] func221 λX=>?_;go_simp;repeat'(first|(apply zd c;try go_simp)|with_reducible first|apply ai|intro)
def jI (s:List It)(tag:Int)(r:List Int)(hl:s.length<1000000)(f:r.length<1000000): zK 222 [vIt_ s,iI tag,vCi_ r] (tlA (xe r (yv s tag true))):=by
 have c:=vC r f;have e:=lR s tag hl;by_cases b:y9 r=0
 ·have d:=mA (yv s tag true) r (Nat.lt_of_le_of_lt iv hl) b;have a:xe r (yv s tag true)=pu r (yv s tag true):=by unfold xe;rw[if_neg (by simpa using b)]
  rw[a];clear a;refine eK [] func222 λX=>?_;go_simp;repeat'(first|((first|apply zd c|apply zd e|apply zd d);try go_simp)|with_reducible first|apply ai|intro)
 ·have a:xe r (yv s tag true)=([],0,y9 r):=by unfold xe;rw[if_pos b]
  rw[a];refine eK [] func222 λX=>?_;go_simp;repeat'(first|(apply zd c;try go_simp)|with_reducible first|apply ai|intro)
def XC (s:List It)(k b:Int)(x:It)(r:List Int)(hl:s.length<1000000)(j:r.length<1000000)(h:0<=k): zK 223 [vIt_ s,iU k,iI b,x.a,vCi_ r] (tlA (xe r (xv s k b x))):=by
 have e:=vC r j;have f:=X9 s k b x hl h;simp only[rtA] at f;by_cases d:y9 r=0
 ·have g:=mA (xv s k b x) r (Nat.lt_of_le_of_lt T3 hl) d;have c:xe r (xv s k b x)=pu r (xv s k b x):=by unfold xe;rw[if_neg (by simpa using d)]
  rw[c];clear c;generalize xv s k b x=u at *;obtain⟨p,m,cl⟩:=x;refine eK [] func223 λX=>?_;go_simp;repeat'(first|((first|apply zd e|apply zd f|apply zd g);try go_simp)|with_reducible first|apply ai|intro)
 ·have c:xe r (xv s k b x)=([],0,y9 r):=by unfold xe;rw[if_pos d]
  rw[c];obtain⟨p,m,cl⟩:=x;refine eK [] func223 λX=>?_;go_simp;repeat'(first|(apply zd e;try go_simp)|with_reducible first|apply ai|intro)
def qM (x:Ss): Bool:=inT x.num&&decide (1<=x.cells.length)&&decide (x.cells.length<=2)&&x.cells.all nq
def xU (x:Ss): Int:=if qM x then 0 else 8
def wfS (x:Ss): Prop:=x.cells.length<1000000/\∀s∈x.cells,s.length<1000000
def RN (s:List It): yz s=0\/yz s=8:=by unfold yz;split<;>simp
def oR: yz s=0↔nq s=true:=by unfold yz;split<;>simp_all
def Z5 {x:Ss}(h:x.num<0\/1000000<x.num\/x.cells = []\/(2:Int)<x.cells.length): xU x=8:=by
 unfold xU;have:qM x=false:=by
  unfold qM inT;simp only[Bool.and_eq_false_iff,zN];rcases h with h|h|h|h
  ·exact Or.inl (Or.inl (Or.inl om))
  ·exact Or.inl (Or.inl (Or.inl om))
  ·rw[h];exact Or.inl (Or.inl (Or.inr sm))
  ·exact Or.inl (Or.inr om)
 rw[this];rfl
def Pa {x:Ss}(h:s∈x.cells)(k:¬yz s=0): xU x=8:=by
 have:x.cells.all nq=false:=by rw[List.all_eq_false];exact⟨s,h,by rw[oR] at k;exact k⟩
 unfold xU qM;rw[this,Bool.and_false];rfl
def T4 {x:Ss}(a:0<=x.num)(b:x.num<=1000000)(c:¬x.cells = [])(d:(x.cells.length:Int)<=2)(h:∀s∈x.cells,yz s=0): xU x=0:=by
 have:x.cells.all nq=true:=zA.2 λs hs=>oR.1 (h s hs)
 have e:=List.length_pos_iff.2 c;unfold xU qM inT;rw[this,decide_eq_true ⟨a,b⟩,decide_eq_true om,decide_eq_true om];rfl
def pX (x:Ss)(o:wfS x): zK 292 [x.a] (iI (xU x)):=by
 obtain⟨num,cells⟩:=x;obtain⟨hl,hs⟩:=o;simp only at hl hs;refine eK [] func292 λX=>?_;go_simp;repeat'(first|with_reducible first|apply ai|intro)
 all_goals try(exact(Z5 (by simp only;grind)).symm)
 rename_i b g h j k;refine lN [] (λi=>[(27,vSk_ cells),(28,iI cells.length),(29,iI i)]) (λi=>[]) (λi=>i<=cells.length/\∀s∈cells.take i,yz s=0) (λi=>cells.length-i) 0 ?_
 rintro i ⟨hi,f⟩;go_simp;refine⟨λc=>⟨_,zE c,?_⟩,λd=>?_⟩
 ·have m:=th cells[i] (hs _ (zM c));have p:=RN cells[i];repeat'(first|(apply zd m;try go_simp)|with_reducible first|apply ai|intro)
  ·rename_i e;rw[Pa (x:=⟨num,cells⟩) (zM c) e];omega
  ·exact⟨i+1,⟨om,zr f c (by assumption)⟩,om,wrS om⟩
 ·exact(T4 g h j k (zx f d)).symm
def XD (x:Ss)(r:wfS x): zK 386 [x.a] (iI (xU x)):=by
 obtain⟨num,cells⟩:=x;obtain⟨hl,hs⟩:=r;simp only at hl hs;have q:=iu num;refine eK [] func386 λX=>?_;go_simp;repeat'(first|(apply zd q;try go_simp)|with_reducible first|apply ai|intro)
 all_goals try(exact(Z5 (by simp only;grind [inT])).symm)
 ·rename_i b j m o;refine lN [] (λi=>[(1,.ptr (.l 1) b 2 0 0),(3,iI i)]) (λi=>[(.l 1,⟨b,1,2,124,[Ss.c ⟨num,cells⟩],false⟩)]) (λi=>i<=cells.length/\∀s∈cells.take i,yz s=0) (λi=>cells.length-i) 0 ?_
  rintro i ⟨hi,k⟩;go_simp;refine⟨λd=>⟨_,zE d,?_⟩,λf=>?_⟩
  ·have p:=X8 cells[i] (hs _ (zM d));repeat'(first|(apply zd p;try go_simp)|with_reducible first|apply ai|intro)
   ·rename_i g;exact(Pa (x:=⟨num,cells⟩) (zM d) g).symm
   ·exact⟨i+1,⟨om,zr k d (by assumption)⟩,om,wrS om⟩
  ·have hn:0<=num/\num<=1000000:=by unfold inT at j;simpa using j
   exact(T4 hn.1 hn.2 (by simp only;intro e;subst e;simp at m) o (zx k f)).symm
 ·rename_i h;have hn:cells = []:=List.eq_nil_of_length_eq_zero om;exact(Z5 (Or.inr (Or.inr (Or.inl hn)))).symm
def yP (g:Nat->Int): Nat->Int
 |0=>0
 |n+1=>if yP g n=0 then g n else yP g n
def qN (cs:List (List It))(k:Nat)(g:Nat->List It): Nat->List (List It)
 |0=>cs
 |n+1=>(qN cs k g n).set (k+n) (g n)
def xz (u:List It->List It×Int×Int)(cs:List (List It))(k j:Nat): List It×Int×Int:=u (cs.getD (k+j) [])
def xq (u:List It->List It×Int×Int)(x:Ss)(k n:Nat): Ss×Int×Int :=
 if ¬yP (λj=>(xz u x.cells k j).2.2) n=0 then(⟨0,[]⟩,0,yP (λj=>(xz u x.cells k j).2.2) n) else
 if ¬yP (λj=>(xz u x.cells k j).2.1) n=0 then(⟨0,[]⟩,yP (λj=>(xz u x.cells k j).2.1) n,0) else(⟨x.num,qN x.cells k (λj=>(xz u x.cells k j).1) n⟩,0,0)
abbrev eaA (r:Ss×Int×Int): AV:=.tup [r.1.a,iU r.2.1,iI r.2.2]
structure Un (g:Nat)(caps:List AV)(u:List It->List It×Int×Int)(l:List (List It)): Prop where
 cb:vQ Tryz.prog g
 call:∀s∈l,zK g (vIt_ s::caps) (tlA (u s))
def iw {cs:List (List It)}{k:Nat}{g:Nat->List It}: ∀n,(qN cs k g n).length=cs.length
 |0=>rfl
 |n+1=>by unfold qN;rw[List.length_set,iw n]
def T5 {g:Nat->Int}{m n:Nat}(h:m<=n)(k:¬yP g m=0): yP g n=yP g m:=by
 induction n with
 |zero =>
   obtain rfl:m=0:=om;rfl
 |succ n ih =>
  rcases Nat.lt_or_ge m (n+1) with c|c
  ·have:=ih om
   show(if yP g n=0 then g n else yP g n)=_;rw[if_neg (by rw[this];exact k),this]
  ·obtain rfl:m=n+1:=om;rfl
def ns (x:Ss)(k n:Nat){g:Nat}{b:List AV}{u:List It->List It×Int×Int}(h:Un g b u x.cells)(p:wfS x)(J:k+n<=x.cells.length): zK 411 [x.a,iI k,iI n,.fn g b] (eaA (xq u x k n)):=by
 obtain⟨num,cells⟩:=x;obtain⟨hl,hs⟩:=p;simp only at hl hs h J;refine eK [] func411 λX=>?_;go_simp;repeat'(first|with_reducible first|apply ai|intro)
 rename_i r t d;refine wR (.l 11) (.l 34) 1 1 126 rfl rfl rfl ?_;refine lG [5] (G:=Nat×Nat×Nat) (λv=>[(1,iI k),(2,iI n),(3,.fn g b),(4,.ptr (.l 4) r 2 0 0),(8,.ptr (.l 8) t 2 0 0),(11,.ptr (.l 11) d 2 0 0),(23,vSk_ cells),(24,iI cells.length),(25,iI v.1)]) (λv=>[(.l 4,⟨r,1,2,124,[Ss.c ⟨num,cells⟩],false⟩),(.l 8,⟨t,1,2,124,[[iI 0,.nils]],false⟩),(.l 11,⟨d,1,2,124,[[iI num,.sl (.l 34) v.2.1 1 (cells.take v.1).length v.2.2]],false⟩),(.l 34,⟨v.2.1,v.2.2,1,126,(cells.take v.1).map sk,false⟩)]) (λv=>v.1<=cells.length) (λv=>cells.length-v.1) (0,0,0) ?_
 rintro⟨i,c1,c2⟩ hi;go_simp;refine⟨λf=>⟨_,zE f,?_⟩,λA=>?_⟩
 ·have I:=wT (yb It.one cells[i]) (by simpa using hs _ (zM f));refine zh hP ⟨[(29,.l 11,1),(35,.l 11,1)],false⟩ dk ?_;go_simp;repeat'(first|(apply zd I;try go_simp)|with_reducible first|apply ai|intro)
  ·omega
  ·refine⟨i+1,om,om,wrS om,_,_,⟨rfl,om,rfl⟩,rfl,rfl,?_⟩;rw[List.take_take,Nat.min_self,List.take_add_one,List.getElem?_map,zE f];rfl
 ·obtain rfl:i=cells.length:=by simp only at hi;omega
  refine zf hP (B:=[]) (G:=Nat) (λj=>[(1,iI k),(3,.fn g b),(4,.ptr (.l 4) r 2 0 0),(8,.ptr (.l 8) t 2 0 0),(11,.ptr (.l 11) d 2 0 0),(14,iU (yP (λj=>(xz u cells k j).2.1) j)),(37,iI n),(38,iI j)])
   (λj=>[(.l 4,⟨r,1,2,124,[Ss.c ⟨num,cells⟩],false⟩),(.l 8,⟨t,1,2,124,[[iI 0,.nils]],false⟩),(.l 11,⟨d,1,2,124,[[iI num,.sl (.l 34) c1 1 cells.length c2]],false⟩),(.l 34,⟨c1,c2,1,126,(qN cells k (λj=>(xz u cells k j).1) j).map sk,false⟩)])
   (λj=>j<=n/\yP (λj=>(xz u cells k j).2.2) j=0) (λj=>n-j) 0 dk ⟨om,rfl⟩ ?_ ?_ ?_
  ·go_simp;rfl
  ·go_simp;simp[qN]
  ·rintro j ⟨N,z⟩;have M:IntKind.i64.wrap ((k:Int)+(j:Int))=((k+j:Nat):Int):=(AM.Tf om).trans om;have L:=@iw cells k (λj=>(xz u cells k j).1) j;go_simp;refine⟨λf=>?_,λA=>?_⟩
   ·have o:k+j<cells.length:=om;have K:((k:Int)+(j:Int)).toNat=k+j:=om;have C:xz u cells k j=u cells[k+j]:=by unfold xz;rw[zD,zE o];rfl
    have F:=h.call cells[k+j] (zM o);have e:yP (λj=>(xz u cells k j).2.2) (j+1)=(u cells[k+j]).2.2:=by
     show(if yP (λj=>(xz u cells k j).2.2) j=0 then(xz u cells k j).2.2 else _)=_;rw[if_pos z,C]
    have y:yP (λj=>(xz u cells k j).2.1) (j+1)=if yP (λj=>(xz u cells k j).2.1) j=0 then(u cells[k+j]).2.1 else yP (λj=>(xz u cells k j).2.1) j:=by
     show(if yP (λj=>(xz u cells k j).2.1) j=0 then(xz u cells k j).2.1 else _)=_;rw[C]
    have E:qN cells k (λj=>(xz u cells k j).1) (j+1)=(qN cells k (λj=>(xz u cells k j).1) j).set (k+j) (u cells[k+j]).1:=by
     show(qN cells k (λj=>(xz u cells k j).1) j).set (k+j) (xz u cells k j).1=_;rw[C]
    have H:¬(u cells[k+j]).2.2=0->xq u ⟨num,cells⟩ k n=(⟨0,[]⟩,0,(u cells[k+j]).2.2):=λq=>by
     have D:=T5 (g:=λj=>(xz u cells k j).2.2) (m:=j+1) (n:=n) om (by rw[e];exact q);unfold xq;simp only;rw[if_pos (by rw[D,e];exact q),D,e]
    simp only[K];refine⟨om,_,zE o,h.cb,?_⟩;repeat'(first|(apply zd F;try go_simp)|with_reducible first|apply ai|intro)
    all_goals try(rw[H (by assumption)];done)
    all_goals try omega
    all_goals(refine⟨j+1,⟨om,by rw[e];assumption⟩,om,⟨?_,wrS om⟩,?_⟩)
    all_goals first
     |(rw[y];simp[*];done)
     |(rw[E,List.map_set];rfl)
   ·obtain rfl:j=n:=om;by_cases p:yP (λj=>(xz u cells k j).2.1) j=0
    ·have w:xq u ⟨num,cells⟩ k j=(⟨num,qN cells k (λj=>(xz u cells k j).1) j⟩,0,0):=by
      unfold xq;simp only;rw[if_neg (by simpa using z),if_neg (by simpa using p)]
     rw[w];refine⟨λh=>absurd p h,λ_=>⟨⟨rfl,?_⟩,rfl,rfl⟩⟩;exact zT (by simp only[zU];omega)
    ·have w:xq u ⟨num,cells⟩ k j=(⟨0,[]⟩,yP (λj=>(xz u cells k j).2.1) j,0):=by
      unfold xq;simp only;rw[if_neg (by simpa using z),if_pos p]
     rw[w];exact⟨λ_=>⟨⟨rfl,rfl⟩,rfl,rfl⟩,λh=>absurd h p⟩
def uz (x:Ss)(k n:Int)(r:List Int): Int:=if ¬y9 r=0 then y9 r else if ¬xU x=0 then xU x else if k<0\/(x.cells.length:Int)<=k\/n<1\/(x.cells.length:Int)-k<n then 6 else 0
def pY (x:Ss)(k n:Int)(r:List Int)(c:wfS x)(f:r.length<1000000): zK 410 [x.a,iI k,iI n,vCi_ r] (iI (uz x k n r)):=by
 have d:=vC r f;have e:=pX x c;have hl:=c.1;have b:0<=k->k<(x.cells.length:Int)->IntKind.i64.wrap ((x.cells.length:Int)-k)=(x.cells.length:Int)-k:=λg h=>AM.Tf om;obtain⟨num,cells⟩:=x;simp only at hl b;refine eK [] func410 λX=>?_;go_simp;repeat'(first|((first|apply zd d|apply zd e);try go_simp)|with_reducible first|apply ai|intro)
 all_goals(try unfold uz)
 all_goals grind
end Go.Proofs.YtllodfoldffonaaGreatDoor
