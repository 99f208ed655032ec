/- A part of the proof. -/
import Derived.Test.YtacmoaeglbggjaaGreatQ28
namespace Go.Proofs.YtacmoaeglbggjaaGreat
open Go.RowKit
set_option linter.unusedSimpArgs false
set_option linter.unusedVariables false
set_option maxRecDepth 100000
set_option maxHeartbeats 16000000
theorem QzAt.lit1 {base : Nat}{w : World}{g : Nat}{e : TypeId}{x : Int}(hx : I64 x)(hg : w.heap[g]?=some (.cells #[.int .i64 x] e)): QzAt base w g 0 1 [x] where
 new:=Or.inr (by simp)
 lt:=(Array.getElem?_eq_some_iff.1 hg).1
 le:=by simp
 max:=om
 at_ j hj:=by
   obtain rfl:j=0:=by simpa using hj
   simp only[World.cell?,hg];rfl
 fr j hj:=by simp[World.frozen?,hg]
 room j hj:=absurd hj (by simp)
 i64:=one64 hx
theorem agr3 {A : World}{o1 o1' o2 o3 o3' : Obj}{z : Ext}{F : Nat→Prop}(h1 : ¬F A.heap.size)(h3 : ¬F (A.heap.size+2)):
  AgrS F (ext (((A.alloc o1).alloc o2).alloc o3) z) (ext (((A.alloc o1').alloc o2).alloc o3') z):=by
 refine(AgrS.alloc (AgrS.same (AgrS.alloc (AgrS.refl F A) h1 o1 o1') o2) ?_ o3 o3').ext z;rw[show ((A.alloc o1).alloc o2).heap.size=A.heap.size+2 from by simp];exact h3
theorem Qz.turn3 {base : Nat}{A : World}{o1 o1' o2 o3 o3' : Obj}{z : Ext}{v : Value}{xs : List Int}(h : Qz base (ext (((A.alloc o1).alloc o2).alloc o3) z) v xs)
  (hb:∀ k,v.ownBlock=some k→k=A.heap.size+1∨A.heap.size+3≤k):Qz base (ext (((A.alloc o1').alloc o2).alloc o3') z) v xs:=by
 obtain⟨g,off,cap,rfl,hq⟩:=h;have hg:=hb g (by simp[Value.ownBlock]);have ag:=(agr3 (A:=A) (o1:=o1) (o1':=o1') (o2:=o2) (o3:=o3) (o3':=o3') (z:=z) (F:=fun k=>k=A.heap.size+1∨A.heap.size+3≤k) om om).agr;exact⟨g,off,cap,rfl,hq.keep (ag g hg hq.lt)⟩
theorem Sl.turn3 {α : Type}[Rp α]{A : World}{o1 o1' o2 o3 o3' : Obj}{z : Ext}{v : Value}{xs : List α}{s0 s1 : Nat}(h : Sl (fun k=>s0≤k∧k<s1) (ext (((A.alloc o1).alloc o2).alloc o3) z) v xs)(hs : A.heap.size+3≤s0):
  Sl (fun k=>s0≤k∧k<s1) (ext (((A.alloc o1').alloc o2).alloc o3') z) v xs :=
 h.keep (agr3 om om).agr
theorem ztt {α : Type}[Rp α]{A B : World}{v : Value}{xs : List α}(h : Sl (Fresh A) B v xs)(hAB : A.heap.size≤B.heap.size): ∃ s0 s1,s0=A.heap.size∧s0≤s1∧s1=B.heap.size∧Sl (fun k=>s0≤k∧k<s1) B v xs :=
 ⟨_,_,rfl,hAB,rfl,h.wide fun k hk hF=>by rcases hF with hF|hF;exact hF.elim;exact⟨hF,hk⟩⟩
theorem z2w (N : Nat)(M : Nat→Nat→Bool)(seen : Nat→Bool)(work : List Int): muS N M seen work≤2 * (N * 16+N)+work.length:=by
 unfold muS bitsM zj;have h1:=List.countP_le_length (p:=fun j=>M (j / 16) (j % 16)) (l:=List.range (N * 16));have h2:=List.countP_le_length (p:=fun q=>!seen q) (l:=List.range N);simp only[List.length_range] at h1 h2;omega
def nums (f : Fn)(l : List Pt): List Nat:=l.map fun p=>numF f (p.block.toNat,p.index.toNat)
theorem zle {f : Fn}(h : fnErr f=0){q b i : Nat}{x : Bk}(hp : PtAt f q b i x){r : Nat}(hr : r∈nexts f q): r∈nums f (nextS b x i):=by
 rw[hp.nexts] at hr;obtain⟨z,hz,rfl⟩:=List.mem_map.1 hr;refine List.mem_map.2 ⟨ptO z,(znw h hp.hb.out _).2 ⟨z,hz,rfl⟩,?_⟩;simp[ptO]
theorem zio {f : Fn}(h : fnErr f=0){q b i : Nat}{x : Bk}(hp : PtAt f q b i x){p : Pt}(hm : p∈nextS b x i): ∃ (b' i' : Nat) (y : Bk),p=⟨b',i'⟩∧Hid (f.blocks[b']?=some y)∧i'≤y.stmts.length∧numF f (b',i')∈nexts f q:=by
 obtain⟨z,hz,rfl⟩:=(znw h hp.hb.out p).1 hm;obtain⟨y,h1,h2⟩:=zpu h hp.hb.out hz;exact⟨z.1,z.2,y,rfl,Lib.hid h1,h2,by rw[hp.nexts];exact List.mem_map.2 ⟨z,hz,rfl⟩⟩
theorem zjk {b i : Nat}{x : Bk}: (nextS b x i).length≤2:=by
 unfold nextS;split
 ·simp
 ·rw[List.length_map];unfold zpt;rw[zhz];exact zg1 _
theorem zy2 (pn : Nat)(h : pn≤8): ((2 : Int) ^ pn - 1) % 4294967296 * 2 % 4294967296=mk (fun i=>decide (1≤i)&&decide (i≤pn)):=by
 have e0:mk (fun i=>decide (1≤i)&&decide (i≤pn))=mk (fun i=>decide (1≤i∧i≤pn)):=zid fun i _=>by simp
 rw[e0,←zvh pn om];have e:((2 ^ pn:Nat):Int)=(2:Int) ^ pn:=by simp
 have h2:(2:Nat) ^ pn≤2 ^ 8:=Nat.pow_le_pow_right (by decide) h;have h3:1≤(2:Nat) ^ pn:=Nat.one_le_two_pow;rw[←e];clear e;generalize (2:Nat) ^ pn=z at h2 h3 ⊢;have:z≤256:=by simpa using h2
 omega
theorem z02 {f : Fn}{N pn : Nat}{M : Nat→Nat→Bool}{n : Nat}(hn : n=f.locals.length)(hp : f.params=pn)(h1 : ∀ q,q<N→M q=fun i=>decide (i<n)): mA N (up M 0 (fun i=>decide (1≤i)&&decide (i≤pn)))=mA N (allM f):=by
 unfold mA;apply zic;intro q hq;unfold allM up;by_cases e:q=0
 ·rw[if_pos e,if_pos e];congr 2;funext i;rw[hp,Bool.eq_iff_iff];simp only[Bool.and_eq_true,decide_eq_true_eq];omega
 ·rw[if_neg e,if_neg e,h1 q hq,hn]
theorem zwr (f : Fn)(v1 v2 : Value)(w : World){F F' : Nat→Prop}(hf : f.wf)(h1 : Sl F w v1 f.locals)(h2 : Sl F' w v2 f.blocks)(hok : fnErr f=0):
  Calls Tryz.prog 119 #[f.v v1 v2] w (RetP w fun v w'=>∃ u,v = .tuple #[u,.int .i64 0]∧Sl (Fresh w) w' u (mL (zb f) (setM f))):=by
 obtain⟨a,n,cap,rfl,Hn,hm,hcap,hcm,h1⟩:=h1.open;obtain⟨a2,n2,cap2,rfl,Hn2,hm2,hcap2,hcm2,h2⟩:=h2.open;have Hok:=Lib.hid hok;have hok' : (fnErr f != 0)=false:=by simp[hok]
 have hN1:=zah hok;have hN6:=zp hok;have hn16:n≤16:=by rw[Hn.out];exact(zt hok).2.2
 have hpar:=zcc hok;obtain⟨pn,Hpn⟩:∃ pn:Nat,Hid (f.params=pn):=by
  obtain⟨pn,h⟩:=Int.eq_ofNat_of_zero_le hpar.2.2.1;exact⟨pn,Lib.hid h⟩
 have hpn8:pn≤8:=by have:=hpar.2.2.2.1;rw[Hpn.out] at this;omega
 have Hlen:=Lib.hid (zde f);clear hok hpar;go_enter Tryz.func119,Tryz.ntmps119
 go_upto_region 9 with (first|(go_at_call 16;((with_reducible refine armV (za2 f _ _ _ hf h1.m h2.m) ?_);intro x1))|((go_at_call 120;((with_reducible refine armT (zbk f _ _ _ hf h1.m h2.m Hok.out) ?_);intro a5 n5 cap5 x5 Hn5 hm5 hcap5 hcm5 hs5));(have hn5:n5≤600:=by rw[Hn5.out,Hlen.out];exact hN6);(have hn51:1≤n5:=by rw[Hn5.out,Hlen.out];exact hN1))|(at_make;refine zes (bytes:=4) rfl rfl Tryz.underlying127 (by kernel_rfl) rfl rfl om om ?_))
 have hall:((2:Int) ^ n - 1) % 4294967296=mk (fun i=>decide (i<n)):=by
  rw[←z1w n hn16];have e:((2 ^ n:Nat):Int)=(2:Int) ^ n:=by simp
  have h2:(2:Nat) ^ n≤2 ^ 16:=Nat.pow_le_pow_right (by decide) hn16;have h3:1≤(2:Nat) ^ n:=Nat.one_le_two_pow;rw[←e];clear e;generalize (2:Nat) ^ n=z at h2 h3 ⊢;have:z≤65536:=by simpa using h2
  omega
 go_upto_region 10 with fail;rw[hall];clear hall;go_loopw [45] (fun ti wr=>∃ (j:Nat) (M:Nat→Nat→Bool),j≤n5∧ti = .int .i64 j∧Hid (∀ q,q<j→M q=fun i=>decide (i<n))∧Hid (∀ q,j≤q→M q=fun _=>false)∧wr=((ext (ext (w.alloc (bxFn f (.slice a n cap) (.slice a2 n2 cap2))) x1) x5).alloc (.cells (mA n5 M) 131))) (fun ti _=>n5 - (intOf ti).toNat)
 case atStart=>exact⟨0,_,Nat.zero_le _,rfl,Lib.hid (fun q h=>absurd h (Nat.not_lt_zero _)),Lib.hid (fun q _=>rfl),rfl⟩
 case round =>
  obtain⟨j,M,hj,rfl,HM1,HM2,rfl⟩:=hrel;by_cases hltj:j<n5
  ·have hgj:∀ M,(mA n5 M)[j]?=some (.int .u32 (mk (M j))):=fun M=>zd2 n5 M j hltj;have hsj:∀ M T,(mA n5 M).setIfInBounds j (.int .u32 (mk T))=mA n5 (up M j T):=fun M T=>zh5 n5 M j T hltj;go_wp2_with fail;go_roundw
   case rel=>exact⟨j+1,up M j (fun i=>decide (i<n)),by omega,by go_num,Lib.hid (fun q hq=>by
    unfold up;split
    ·rfl
    ·exact HM1.out q om),Lib.hid (fun q hq=>by rw[up_ne _ _ om];exact HM2.out q om),rfl⟩
   case measure=>exact me
  ·obtain rfl:n5=j:=om;have hg0:∀ M,(mA n5 M)[0]?=some (.int .u32 (mk (M 0))):=fun M=>zd2 n5 M 0 om;have hs0:∀ M T,(mA n5 M).setIfInBounds 0 (.int .u32 (mk T))=mA n5 (up M 0 T):=fun M T=>zh5 n5 M 0 T om;have hsft:∀ w,Sem.run Tryz.prog (Op.shift BinOp.shl IntKind.u32 1 IntKind.i64 f.params) w = .ok (.int .u32 (2 ^ pn % 4294967296)) w:=fun w=>by
    rw[Hpn.out];go_simp;first|rfl|(simp[IntKind.wrap,IntKind.signed,IntKind.bits];done)
   have hpar:=zy2 pn hpn8;have hgb0:∀ h,(bA n5 h)[0]?=some (.bool (h 0)):=fun h=>zan n5 h 0 om;have hsb0:∀ h,(bA n5 h).setIfInBounds 0 (.bool true)=bA n5 (up h 0 true):=fun h=>zcm n5 h 0 true om;have Hall:=Lib.hid (z02 (N:=n5) (M:=M) Hn.out Hpn.out HM1.out);go_upto_region 15 with fail;clear hsft hpar hg0 hs0;rw[Hall.out];clear HM1 HM2 Hall;go_upto_region 18 with (at_make;refine zam (bytes:=1) rfl rfl Tryz.underlying66 (by kernel_rfl) rfl rfl om om ?_)
   clear hgb0 hsb0;have HN:Hid (zb f=n5):=Lib.hid (by rw[Hn5.out,Hlen.out]);obtain⟨g5,o5,rfl,hgl5⟩:=hs5.addr om;go_loopg [10] (muS n5 (allM f) (up (fun _=>false) 0 true) [0]) (fun g qv wr=>∃ (M:Nat→Nat→Bool) (seen:Nat→Bool) (work:List Int),Grow ((((ext (ext (w.alloc (bxFn f (.slice a n cap) (.slice a2 n2 cap2))) x1) x5).alloc (.cells (mA n5 M) 131)).alloc (.cells #[.int .i64 0] 3)).alloc (.cells (bA n5 seen) 4)) wr∧Qz (w.heap.size+1+x1.k+x5.k+3) wr qv work∧(∀ k,qv.ownBlock=some k→k=(w.heap.size+1+x1.k+x5.k+1)∨(w.heap.size+1+x1.k+x5.k+3)≤k)∧Hid (SI f M seen work)∧Hid (g=muS n5 M seen work)∧Hid (muS n5 M seen work≤100000))
   case atStart =>
    refine⟨allM f,_,[0],Grow.refl _,⟨_,0,1,rfl,QzAt.lit1 (e:=3) ⟨by decide,by decide⟩ ?_⟩,?_,Lib.hid (SI.start Hok.out),Lib.hid rfl,Lib.hid (by have:=z2w n5 (allM f) (up (fun _=>false) 0 true) [0];simp only[List.length_cons,List.length_nil] at this;omega)⟩
    ·have e:(w.heap.size+1+x1.k+x5.k+1)=((ext (ext (w.alloc (bxFn f (.slice a n cap) (.slice a2 n2 cap2))) x1) x5).alloc (.cells (mA n5 (allM f)) 131)).heap.size:=by simp
     rw[e,(show Grow (((ext (ext (w.alloc (bxFn f (.slice a n cap) (.slice a2 n2 cap2))) x1) x5).alloc (.cells (mA n5 (allM f)) 131)).alloc (.cells #[.int .i64 0] 3)) ((((ext (ext (w.alloc (bxFn f (.slice a n cap) (.slice a2 n2 cap2))) x1) x5).alloc (.cells (mA n5 (allM f)) 131)).alloc (.cells #[.int .i64 0] 3)).alloc (.cells (bA n5 (up (fun _=>false) 0 true)) 4)) from gw).block _ (by simp)];exact Array.getElem?_push_size
    ·intro k hk;left;simp[Value.ownBlock] at hk;omega
   case round =>
    obtain⟨M,seen,work,hgr,hqz,hown,HS,Hg,Hbd⟩:=hrel;obtain⟨x,rfl⟩:=za hgr;cases work with
    |nil =>
     obtain⟨gq,oq,cq,rfl,hq⟩:=hqz;go_wp2_with fail;refine zd (by simp only[results,Tryz.results119];go_simp<;>rfl) rfl gw ⟨_,rfl,?_⟩;have hh:(ext ((((ext (ext (w.alloc (bxFn f (.slice a n cap) (.slice a2 n2 cap2))) x1) x5).alloc (.cells (mA n5 M) 131)).alloc (.cells #[.int .i64 0] 3)).alloc (.cells (bA n5 seen) 4)) x).heap[(ext (ext (w.alloc (bxFn f (.slice a n cap) (.slice a2 n2 cap2))) x1) x5).heap.size]?=some (.cells (mA n5 M) 131):=by
      rw[(show Grow ((ext (ext (w.alloc (bxFn f (.slice a n cap) (.slice a2 n2 cap2))) x1) x5).alloc (.cells (mA n5 M) 131)) (ext ((((ext (ext (w.alloc (bxFn f (.slice a n cap) (.slice a2 n2 cap2))) x1) x5).alloc (.cells (mA n5 M) 131)).alloc (.cells #[.int .i64 0] 3)).alloc (.cells (bA n5 seen) 4)) x) from gw).block _ (by simp)];exact Array.getElem?_push_size
     rw[show (ext (ext (w.alloc (bxFn f (.slice a n cap) (.slice a2 n2 cap2))) x1) x5).heap.size=w.heap.size+1+x1.k+x5.k from by simp] at hh;have e:mL (zb f) (setM f)=mL n5 M:=by
      rw[HN.out];exact List.map_congr_left fun q _=>by rw[HS.out.last Hok.out q]
     rw[e];exact Sl.masks hh (Or.inr om) om
    |cons c ws =>
     obtain⟨k,rfl,hsk⟩:=HS.out.todo c (List.mem_cons_self ..);have hk:k<n5:=by rw[←HN.out];exact(HS.out.way k hsk).lt Hok.out
     have hp:∃ b i x,PtAt f k b i x:=PtAt.of (by rw[HN.out];exact hk);obtain⟨pb,pi,px,hp⟩:=hp;clear hsk;obtain⟨T,HT⟩:∃ T,Hid (bhM (M k) (ddC (coB px pi))=T):=⟨_,Lib.hid rfl⟩
     have Hbe:Hid (∀ w',Sl F w' (.slice a n cap) f.locals→Sl F' w' (.slice a2 n2 cap2) f.blocks→Calls Tryz.prog 121 #[f.v (.slice a n cap) (.slice a2 n2 cap2),(⟨(pb:Int),(pi:Int)⟩:Pt).v,.int .u32 (mk (M k))] w' (RetP w' fun v w''=>∃ bd:Int,v = .tuple #[.int .u32 (mk T),.int .i64 bd])):=Lib.hid fun w' k1 k2=>by
      refine(zjj f _ _ w' hf k1 k2 Hok.out hp.hb hp.hi (M k)).mono ?_;rintro e w1 ⟨v,rfl,⟨bd,rfl,_⟩,hg⟩;rw[HT.out];exact⟨_,rfl,⟨bd,rfl⟩,hg⟩
     have HSJ:Hid (SJ f k T [] M seen ws):=Lib.hid (by have:=HS.out.pop Hok.out;rw[hp.co,HT.out] at this;exact this);have Hmu:Hid (muS n5 M seen ws<muS n5 M seen ((k:Int)::ws)):=Lib.hid z0h;have Hnl:=Lib.hid (zjk (b:=pb) (i:=pi) (x:=px));have hgm:∀ M,(mA n5 M)[k]?=some (.int .u32 (mk (M k))):=fun M=>zd2 n5 M k hk
     (obtain⟨b_pt,off_pt,pt,he_pt,⟨Hg_pt,hl_pt,hw_pt,c_pt0,c_pt1,r_pt0⟩⟩:=hs5.pt k hk;simp only[Option.some.injEq,Addr.mk.injEq,and_true] at he_pt;obtain⟨rfl,rfl⟩:=he_pt)
     obtain rfl:pt=⟨(pb:Int),(pi:Int)⟩:=by
      have e1:=Hg_pt.out;rw[←hp.hq.out,zjy hp.hb.out hp.hi] at e1;injection e1 with e1;exact e1.symm
     obtain⟨gq,oq,cq,rfl,hq⟩:=hqz;have hq0:=hq.at_ 0 (by simp);have hql:=hq.lt;haveI:LtW gq (ext ((((ext (ext (w.alloc (bxFn f (.slice a n cap) (.slice a2 n2 cap2))) x1) x5).alloc (.cells (mA n5 M) 131)).alloc (.cells #[.int .i64 0] 3)).alloc (.cells (bA n5 seen) 4)) x):=⟨hql⟩
     simp only[List.getElem_cons_zero,Nat.add_zero] at hq0;go_upto_region 21 with (refine zqo (v:=.slice (some ⟨gq,oq,none⟩) (ws.length+1) cq) rfl rfl rfl (by kernel_rfl) (by kernel_rfl) rfl ⟨gq,oq,cq,rfl,hq⟩ ?_;intro qv2 hqz2 hob2)
     have Hhd:Hid (∀ k',qv2.ownBlock=some k'→(k'=(w.heap.size+1+x1.k+x5.k+1)∨(w.heap.size+1+x1.k+x5.k+3)≤k')∧k'<(ext ((((ext (ext (w.alloc (bxFn f (.slice a n cap) (.slice a2 n2 cap2))) x1) x5).alloc (.cells (mA n5 M) 131)).alloc (.cells #[.int .i64 0] 3)).alloc (.cells (bA n5 seen) 4)) x).heap.size):=Lib.hid fun k' hk'=>by
      rw[hob2] at hk';exact⟨hown k' hk',by simp[Value.ownBlock] at hk';subst hk';exact hql⟩
     clear hq0 hown hob2
     ((refine zbb 15 (by kernel_rfl) (by rfl) ?_);(iterate 15 (all_goals (first|((first|refine Gq 0 ?_|refine Gq 1 ?_|refine Gq 2 ?_|refine Gq 3 ?_|refine Gq 4 ?_|refine Gq 5 ?_|refine Gq 6 ?_|refine Gq 7 ?_|refine Gq 8 ?_|refine Gq 9 ?_|refine Gq 10 ?_|refine Gq 11 ?_|refine Gq 12 ?_|refine Gq 13 ?_|refine Gq 14 ?_);(first|go_big_quiet_step (fail)|(refine wpQuiet_step (fun K hK=>?_);go_simp;split<;>(refine hK _ ?_;clear hK K)));refine wpQuiet_nil ?_)|((first|refine Gf 0 ?_|refine Gf 1 ?_|refine Gf 2 ?_|refine Gf 3 ?_|refine Gf 4 ?_|refine Gf 5 ?_|refine Gf 6 ?_|refine Gf 7 ?_|refine Gf 8 ?_|refine Gf 9 ?_|refine Gf 10 ?_|refine Gf 11 ?_|refine Gf 12 ?_|refine Gf 13 ?_|refine Gf 14 ?_);intro xg K hK;go_wp2_with ((go_at_call 121;((with_reducible refine(Hbe.out _ h1.m h2.m).mono ?_);rintro e w7 ⟨v7,rfl,⟨bd,rfl⟩,hb7⟩;obtain⟨x7,rfl⟩:=za hb7;clear hb7)));refine hK _ _ gw ?_;clear hK K))));all_goals (refine G_end (by kernel_rfl) ?_;intro xR))
     go_wp2_with fail
     ((refine zbb 11 (by kernel_rfl) (by rfl) ?_);(iterate 11 (all_goals (first|((first|refine Gq 0 ?_|refine Gq 1 ?_|refine Gq 2 ?_|refine Gq 3 ?_|refine Gq 4 ?_|refine Gq 5 ?_|refine Gq 6 ?_|refine Gq 7 ?_|refine Gq 8 ?_|refine Gq 9 ?_|refine Gq 10 ?_);(first|go_big_quiet_step (fail)|(refine wpQuiet_step (fun K hK=>?_);go_simp;split<;>(refine hK _ ?_;clear hK K)));refine wpQuiet_nil ?_)|((first|refine Gf 0 ?_|refine Gf 1 ?_|refine Gf 2 ?_|refine Gf 3 ?_|refine Gf 4 ?_|refine Gf 5 ?_|refine Gf 6 ?_|refine Gf 7 ?_|refine Gf 8 ?_|refine Gf 9 ?_|refine Gf 10 ?_);intro xg K hK;go_wp2_with ((go_at_call 161;((with_reducible refine armT (zin f _ _ _ hf h1.m h2.m Hok.out hp.hb hp.hi) ?_);intro a8 n8 cap8 x8 Hn8 hm8 hcap8 hcm8 hs8)));refine hK _ _ gw ?_;clear hK K))));all_goals (refine G_end (by kernel_rfl) ?_;intro xR))
     go_wp2_with fail;obtain⟨s0,s1,hs0,hs01,hs1,hs8⟩:=ztt hs8 (zw _ _).size;have hs0' : (w.heap.size+1+x1.k+x5.k+3)≤s0∧(∀ k',qv2.ownBlock=some k'→k'<s0):=by
      refine⟨by rw[hs0];simp;omega,fun k' hk'=>?_⟩;have:=(Hhd.out k' hk').2
      rw[hs0];simp at this ⊢;omega
     have hn8:n8≤2:=by rw[Hn8.out];exact Hnl.out
     go_loopw [10,101] (fun qv ti wr=>∃ (j:Nat) (M' : Nat→Nat→Bool) (seen' : Nat→Bool) (work' : List Int),j≤n8∧ti = .int .i64 j∧Grow ((((ext (ext (w.alloc (bxFn f (.slice a n cap) (.slice a2 n2 cap2))) x1) x5).alloc (.cells (mA n5 M') 131)).alloc (.cells #[.int .i64 0] 3)).alloc (.cells (bA n5 seen') 4)) wr∧Qz (w.heap.size+1+x1.k+x5.k+3) wr qv work'∧(∀ k',qv.ownBlock=some k'→(k'=(w.heap.size+1+x1.k+x5.k+1)∨(w.heap.size+1+x1.k+x5.k+3)≤k')∧(k'<s0∨s1≤k'))∧Sl (fun k'=>s0≤k'∧k'<s1) wr (.slice a8 n8 cap8) (nextS pb px pi)∧s1≤wr.heap.size∧Hid (SJ f k T ((nums f (nextS pb px pi)).take j) M' seen' work')∧Hid (muS n5 M' seen' work'<muS n5 M seen ((k:Int)::ws))) (fun _ ti _=>n8 - (intOf ti).toNat)
     case atStart=>exact⟨0,M,seen,ws,Nat.zero_le _,rfl,gw,hqz2.mono gw,fun k' hk'=>⟨(Hhd.out k' hk').1,Or.inl (hs0'.2 k' hk')⟩,hs8.mono gw,by rw[hs1];exact(show Grow _ _ from gw).size,HSJ,Hmu⟩
     case round =>
      obtain⟨j,M',seen',work',hj,rfl,hgr',hqr,hob,hs8r,hs1r,HSJ',Hmu'⟩:=hrel;obtain⟨z,rfl⟩:=za hgr';by_cases hltj8:j<n8
      ·obtain⟨b_pt8,off_pt8,pt8,rfl,⟨Hg_pt8,hl_pt8,hw_pt8,c_pt80,c_pt81,r_pt80⟩⟩:=hs8r.pt j hltj8;obtain⟨qb,qi,qx,rfl,hqb,hqi,hqn⟩:=zio Hok.out hp (List.mem_of_getElem? Hg_pt8.out);obtain⟨rn,Hrn⟩:∃ rn,Hid (numF f (qb,qi)=rn):=⟨_,Lib.hid rfl⟩
       rw[Hrn.out] at hqn;have hrN:rn<n5:=by rw[←HN.out];exact(zar Hok.out hqn).2
       have Hnu:Hid (∀ w',Sl F w' (.slice a n cap) f.locals→Sl F' w' (.slice a2 n2 cap2) f.blocks→Calls Tryz.prog 162 #[f.v (.slice a n cap) (.slice a2 n2 cap2),(⟨(qb:Int),(qi:Int)⟩:Pt).v] w' (Ret w' (.tuple #[.int .i64 (rn:Nat),.int .i64 0]))):=Lib.hid fun w' k1 k2=>by
        have:=zgo f _ _ w' hf k1 k2 Hok.out hqb hqi
        rw[Hrn.out] at this;exact this
       have Htk:Hid ((nums f (nextS pb px pi)).take (j+1)=(nums f (nextS pb px pi)).take j++[rn]):=Lib.hid (by
        unfold nums;rw[←List.map_take,←List.map_take,List.take_add_one,Hg_pt8.out,List.map_append];simp only[Option.toList_some,List.map_cons,List.map_nil,Int.toNat_natCast];rw[Hrn.out])
       have hgm' : ∀ M,(mA n5 M)[rn]?=some (.int .u32 (mk (M rn))):=fun M=>zd2 n5 M rn hrN;have hsm' : ∀ M U,(mA n5 M).setIfInBounds rn (.int .u32 (mk U))=mA n5 (up M rn U):=fun M U=>zh5 n5 M rn U hrN;have hgb' : ∀ h,(bA n5 h)[rn]?=some (.bool (h rn)):=fun h=>zan n5 h rn hrN;have hsb' : ∀ h,(bA n5 h).setIfInBounds rn (.bool true)=bA n5 (up h rn true):=fun h=>zcm n5 h rn true hrN;have h64:I64 (rn:Int):=⟨by omega,by omega⟩
       have hzl:s1≤(ext ((((ext (ext (w.alloc (bxFn f (.slice a n cap) (.slice a2 n2 cap2))) x1) x5).alloc (.cells (mA n5 M') 131)).alloc (.cells #[.int .i64 0] 3)).alloc (.cells (bA n5 seen') 4)) z).heap.size:=hs1r;have hwl:work'.length≤100000:=by
        have h1:=Hmu'.out;have h2:=Hbd.out;have h3:work'.length≤muS n5 M' seen' work':=by unfold muS;omega
        omega
       by_cases hle:∀ i,M' rn i=true→T i=true
       ·have hfe:(fun i=>M' rn i&&T i)=M' rn:=by
         funext i;cases hMi:M' rn i
         ·rfl
         ·rw[hle i hMi];rfl
        have hand:bits .and .u32 (mk (M' rn)) (mk T)=mk (M' rn):=by rw[zpj,hfe]
        obtain⟨sn,Hsn⟩:∃ sn,Hid (seen' rn=sn):=⟨_,Lib.hid rfl⟩
        cases sn
        ·have hse:seen' rn=false:=Hsn.out;have HP:Hid (SJ f k T ((nums f (nextS pb px pi)).take (j+1)) (up M' rn (M' rn)) (up seen' rn true) (work'++[(rn:Int)])):=Lib.hid (by
          have:=HSJ'.out.put hqn;rw[hfe] at this;rw[Htk.out];exact this)
         have HM:Hid (muS n5 (up M' rn (M' rn)) (up seen' rn true) (work'++[(rn:Int)])<muS n5 M seen ((k:Int)::ws)):=Lib.hid (by
          have:=zs6 (M:=M') (T:=T) (seen:=seen') (work:=work') hrN (Or.inl hse);rw[hfe] at this;exact Nat.lt_of_le_of_lt this Hmu'.out)
         clear hle hfe;go_wp2_with (first|(go_at_call 162;((with_reducible refine armV (Hnu.out _ h1.m h2.m) ?_);intro x9))|(at_builtin;refine zkp (W0:=((((ext (ext (w.alloc (bxFn f (.slice a n cap) (.slice a2 n2 cap2))) x1) x5).alloc (.cells (mA n5 (up M' rn (M' rn))) 131)).alloc (.cells #[.int .i64 0] 3)).alloc (.cells (bA n5 (up seen' rn true)) 4))) (x0:=z) zau rfl rfl rfl (hqr.turn3 (fun k' hk'=>by have:=(hob k' hk').1;simp at this ⊢;omega)) gw (by first|exact Nat.le_refl _|(simp;done)|(simp;omega)) (by first|(simp;done)|(simp;omega)) rfl (y:=(rn:Int)) h64 cel om om ?_;intro qv3 x3 hq3 hgr3 hob3));have HsL:Hid (Sl (fun k'=>s0≤k'∧k'<s1) (ext ((((ext (ext (w.alloc (bxFn f (.slice a n cap) (.slice a2 n2 cap2))) x1) x5).alloc (.cells (mA n5 (up M' rn (M' rn))) 131)).alloc (.cells #[.int .i64 0] 3)).alloc (.cells (bA n5 (up seen' rn true)) 4)) x3) (.slice (some ⟨b_pt8,off_pt8,none⟩) n8 cap8) (nextS pb px pi)):=Lib.hid ((hs8r.turn3 (by simp;omega)).keep (Agr.row hgr3 (fun k' hk' _ e=>by have:=(hob k' e).2;omega)));have hsz3:s1≤(ext ((((ext (ext (w.alloc (bxFn f (.slice a n cap) (.slice a2 n2 cap2))) x1) x5).alloc (.cells (mA n5 (up M' rn (M' rn))) 131)).alloc (.cells #[.int .i64 0] 3)).alloc (.cells (bA n5 (up seen' rn true)) 4)) x3).heap.size:=Nat.le_trans (by simp at hzl ⊢;omega) hgr3.size;have hob4:∀ k',qv3.ownBlock=some k'→(k'=(w.heap.size+1+x1.k+x5.k+1)∨(w.heap.size+1+x1.k+x5.k+3)≤k')∧(k'<s0∨s1≤k'):=by
          intro k' hk';rcases hob3 with e|e
          ·rw[e] at hk';exact hob k' hk'
          ·rw[e] at hk';injection hk' with hk';simp at hk' hzl;omega
         go_roundw
         case rel=>exact⟨j+1,up M' rn (M' rn),up seen' rn true,work'++[(rn:Int)],by omega,by go_num,gw,hq3,hob4,HsL.out,hsz3,HP,HM⟩
         case measure=>exact me
        ·have hse:seen' rn=true:=Hsn.out;have HK:Hid (SJ f k T ((nums f (nextS pb px pi)).take (j+1)) M' seen' work'):=Lib.hid (by
          rw[Htk.out];exact HSJ'.out.keep hse hle)
         clear hle hfe;go_wp2_with (first|(go_at_call 162;((with_reducible refine armV (Hnu.out _ h1.m h2.m) ?_);intro x9)));go_roundw
         case rel=>exact⟨j+1,M',seen',work',by omega,by go_num,gw,hqr.mono gw,hob,hs8r.mono gw,Nat.le_trans hs1r (show Grow _ _ from gw).size,HK,Hmu'⟩
         case measure=>exact me
       ·have hU:∃ U,Hid ((fun i=>M' rn i&&T i)=U):=⟨_,Lib.hid rfl⟩
        obtain⟨U,HU⟩:=hU;have hand:bits .and .u32 (mk (M' rn)) (mk T)=mk U:=by rw[zpj,HU.out]
        have hex:∃ i,i<16∧M' rn i=true∧T i=false:=by
         apply Classical.byContradiction;intro hno;apply hle;intro i hi;cases hTi:T i
         ·exact absurd ⟨i,by have:=HSJ'.out.cap rn i hi;have:=Hn.out;omega,hi,hTi⟩ hno
         ·rfl
        have hne:(mk U != mk (M' rn))=true:=by
         obtain⟨i,h1,h2,h3⟩:=hex;rw[bne_iff_ne];intro e;have:=zpi e i h1
         have h4:U i=(M' rn i&&T i):=by rw[←HU.out]
         rw[h4,h2,h3] at this;cases this
        have HP:Hid (SJ f k T ((nums f (nextS pb px pi)).take (j+1)) (up M' rn U) (up seen' rn true) (work'++[(rn:Int)])):=Lib.hid (by
         have:=HSJ'.out.put hqn;rw[HU.out] at this;rw[Htk.out];exact this)
        have HM:Hid (muS n5 (up M' rn U) (up seen' rn true) (work'++[(rn:Int)])<muS n5 M seen ((k:Int)::ws)):=Lib.hid (by
         have:=zs6 (M:=M') (T:=T) (seen:=seen') (work:=work') hrN (Or.inr hex);rw[HU.out] at this;exact Nat.lt_of_le_of_lt this Hmu'.out)
        clear hle hex;go_wp2_with (first|(go_at_call 162;((with_reducible refine armV (Hnu.out _ h1.m h2.m) ?_);intro x9))|(at_builtin;refine zkp (W0:=((((ext (ext (w.alloc (bxFn f (.slice a n cap) (.slice a2 n2 cap2))) x1) x5).alloc (.cells (mA n5 (up M' rn U)) 131)).alloc (.cells #[.int .i64 0] 3)).alloc (.cells (bA n5 (up seen' rn true)) 4))) (x0:=z) zau rfl rfl rfl (hqr.turn3 (fun k' hk'=>by have:=(hob k' hk').1;simp at this ⊢;omega)) gw (by first|exact Nat.le_refl _|(simp;done)|(simp;omega)) (by first|(simp;done)|(simp;omega)) rfl (y:=(rn:Int)) h64 cel om om ?_;intro qv3 x3 hq3 hgr3 hob3));have HsL:Hid (Sl (fun k'=>s0≤k'∧k'<s1) (ext ((((ext (ext (w.alloc (bxFn f (.slice a n cap) (.slice a2 n2 cap2))) x1) x5).alloc (.cells (mA n5 (up M' rn U)) 131)).alloc (.cells #[.int .i64 0] 3)).alloc (.cells (bA n5 (up seen' rn true)) 4)) x3) (.slice (some ⟨b_pt8,off_pt8,none⟩) n8 cap8) (nextS pb px pi)):=Lib.hid ((hs8r.turn3 (by simp;omega)).keep (Agr.row hgr3 (fun k' hk' _ e=>by have:=(hob k' e).2;omega)));have hsz3:s1≤(ext ((((ext (ext (w.alloc (bxFn f (.slice a n cap) (.slice a2 n2 cap2))) x1) x5).alloc (.cells (mA n5 (up M' rn U)) 131)).alloc (.cells #[.int .i64 0] 3)).alloc (.cells (bA n5 (up seen' rn true)) 4)) x3).heap.size:=Nat.le_trans (by simp at hzl ⊢;omega) hgr3.size;have hob4:∀ k',qv3.ownBlock=some k'→(k'=(w.heap.size+1+x1.k+x5.k+1)∨(w.heap.size+1+x1.k+x5.k+3)≤k')∧(k'<s0∨s1≤k'):=by
         intro k' hk';rcases hob3 with e|e
         ·rw[e] at hk';exact hob k' hk'
         ·rw[e] at hk';injection hk' with hk';simp at hk' hzl;omega
        go_roundw
        case rel=>exact⟨j+1,up M' rn U,up seen' rn true,work'++[(rn:Int)],by omega,by go_num,gw,hq3,hob4,HsL.out,hsz3,HP,HM⟩
        case measure=>exact me
      ·have HD:Hid (SI f M' seen' work'):=Lib.hid (HSJ'.out.done fun r hr=>by
        rw[List.take_of_length_le (by unfold nums;rw[List.length_map,←Hn8.out];omega)];exact zle Hok.out hp hr)
       go_wp2_with fail;go_roundg (muS n5 M' seen' work')
       case measure=>rw[Hg.out];exact Hmu'.out
       case rel=>exact⟨M',seen',work',gw,hqr,fun k' hk'=>(hob k' hk').1,HD,Lib.hid rfl,Lib.hid (Nat.le_of_lt (Nat.lt_of_lt_of_le Hmu'.out Hbd.out))⟩
theorem zr7 (f : Fn)(v1 v2 : Value)(w : World){F F' : Nat→Prop}(hf : f.wf)(h1 : Sl F w v1 f.locals)(h2 : Sl F' w v2 f.blocks)(hok : fnErr f=0):
  Calls Tryz.prog 78 #[f.v v1 v2] w (RetP w fun v w'=>∃ x y,v = .tuple #[x,y,.int .i64 (zbp f)]):=by
 obtain⟨a,n,cap,rfl,Hn,hm,hcap,hcm,h1⟩:=h1.open;obtain⟨a2,n2,cap2,rfl,Hn2,hm2,hcap2,hcm2,h2⟩:=h2.open;have Hok:=Lib.hid hok;have hN1:=zah hok;have hN6:=zp hok;clear hok;have Hpt:Hid (∀ q,q<zb f→∃ b i x,PtAt f q b i x):=Lib.hid fun q h=>PtAt.of h;have Hse:=Lib.hid fun (w':World) (k1:Sl F w' (.slice a n cap) f.locals) (k2:Sl F' w' (.slice a2 n2 cap2) f.blocks)=>zwr f _ _ w' hf k1 k2 Hok.out;have Hie:=Lib.hid (zkn f);have Hpl:=Lib.hid (zde f);generalize (zb f)=N at Hse Hpt Hie Hpl hN1 hN6;go_enter Tryz.func78,Tryz.ntmps78
 go_wp2_with (first|((go_at_call 119;((with_reducible refine armT (Hse.out _ h1.m h2.m) ?_);intro a3 n3 cap3 x3 Hn3 hm3 hcap3 hcm3 hs3));obtain rfl:N=n3:=by rw[Hn3.out,zgl])|((go_at_call 120;((with_reducible refine armT (zbk f _ _ _ hf h1.m h2.m Hok.out) ?_);intro a5 n5 cap5 x5 Hn5 hm5 hcap5 hcm5 hs5));obtain rfl:N=n5:=by rw[Hn5.out,Hpl.out]));obtain⟨g3,o3,rfl,hgl3⟩:=hs3.addr om;obtain⟨g5,o5,rfl,hgl5⟩:=hs5.addr om;go_loopw [30] (fun ti wr=>∃ k:Nat,k≤N∧ti = .int .i64 k∧Hid (∀ q,q<k→zdp f q=false)∧Grow (ext (ext (w.alloc (bxFn f (.slice a n cap) (.slice a2 n2 cap2))) x3) x5) wr) (fun ti _=>N - (intOf ti).toNat)
 case atStart=>exact⟨0,Nat.zero_le _,rfl,Lib.hid (fun q h=>absurd h (Nat.not_lt_zero _)),gw⟩
 case round =>
  obtain⟨k,hk,rfl,HF,hgr⟩:=hrel;obtain⟨y,rfl⟩:=za hgr;by_cases hlt:k<N
  ·obtain⟨pb,pi,px,hp⟩:=Hpt.out k hlt;have hcm:=hs3.mkAt (zjb (setM f) hlt);have hcm' : (ext (w.alloc (bxFn f (.slice a n cap) (.slice a2 n2 cap2))) x3).cell? ⟨g3,o3+k,none⟩=some (.int .u32 (mk (setM f k))):=hcm;clear hcm
   (obtain⟨b_pt,off_pt,pt,he_pt,⟨Hg_pt,hl_pt,hw_pt,c_pt0,c_pt1,r_pt0⟩⟩:=hs5.pt k hlt;simp only[Option.some.injEq,Addr.mk.injEq,and_true] at he_pt;obtain⟨rfl,rfl⟩:=he_pt)
   obtain rfl:pt=⟨(pb:Int),(pi:Int)⟩:=by
    have e1:=Hg_pt.out;rw[←hp.hq.out,zjy hp.hb.out hp.hi] at e1;injection e1 with e1;exact e1.symm
   obtain⟨fa,Hfa⟩:∃ fa,Hid (zdp f k=fa):=⟨_,Lib.hid rfl⟩
   have Hfc:Hid (badD (setM f k) (ddC (coB px pi))=fa):=Lib.hid (by
    rw[z14 (zlo Hok.out hp.hb.out pi),←hp.co];exact Hfa.out)
   have Hbe:Hid (∀ w',Sl F w' (.slice a n cap) f.locals→Sl F' w' (.slice a2 n2 cap2) f.blocks→Calls Tryz.prog 121 #[f.v (.slice a n cap) (.slice a2 n2 cap2),(⟨(pb:Int),(pi:Int)⟩:Pt).v,.int .u32 (mk (setM f k))] w' (RetP w' fun v w''=>∃ (u:Value) (bd:Int),v = .tuple #[u,.int .i64 bd]∧decide (0≤bd)=fa)):=Lib.hid fun w' k1 k2=>by
    refine(zjj f _ _ w' hf k1 k2 Hok.out hp.hb hp.hi (setM f k)).mono ?_;rintro e w1 ⟨v,rfl,⟨bd,rfl,hbd⟩,hg⟩;refine⟨_,rfl,⟨_,bd,rfl,?_⟩,hg⟩;rw[Hfc.out] at hbd;cases fa
    ·simpa using hbd
    ·simpa using hbd
   cases fa
   ·have HF2:Hid (∀ q,q<k+1→zdp f q=false):=Lib.hid fun q hq=>by
     by_cases e:q=k
     ·subst e;exact Hfa.out
     ·exact HF.out q om
    go_wp2_with fail
    ((refine zbb 12 (by kernel_rfl) (by rfl) ?_);(iterate 12 (all_goals (first|((first|refine Gq 0 ?_|refine Gq 1 ?_|refine Gq 2 ?_|refine Gq 3 ?_|refine Gq 4 ?_|refine Gq 5 ?_|refine Gq 6 ?_|refine Gq 7 ?_|refine Gq 8 ?_|refine Gq 9 ?_|refine Gq 10 ?_|refine Gq 11 ?_);(first|go_big_quiet_step (fail)|(refine wpQuiet_step (fun K hK=>?_);go_simp;split<;>(refine hK _ ?_;clear hK K)));refine wpQuiet_nil ?_)|((first|refine Gf 0 ?_|refine Gf 1 ?_|refine Gf 2 ?_|refine Gf 3 ?_|refine Gf 4 ?_|refine Gf 5 ?_|refine Gf 6 ?_|refine Gf 7 ?_|refine Gf 8 ?_|refine Gf 9 ?_|refine Gf 10 ?_|refine Gf 11 ?_);intro xg K hK;go_wp2_with ((go_at_call 121;((with_reducible refine(Hbe.out _ h1.m h2.m).mono ?_);rintro e w7 ⟨v7,rfl,⟨u7,bd,rfl,hbd⟩,hb7⟩;obtain⟨x7,rfl⟩:=za hb7;clear hb7)));refine hK _ _ gw ?_;clear hK K))));all_goals (refine G_end (by kernel_rfl) ?_;intro xR))
    go_wp2_with fail;go_roundw
    case rel=>exact⟨k+1,by omega,by go_num,HF2,gw⟩
    case measure=>exact me
   ·have H0:Hid (zbp f=0):=Lib.hid (by unfold zbp;rw[if_pos (Hie.out.2 ⟨k,hlt,Hfa.out⟩)]);go_wp2_with fail
    ((refine zbb 12 (by kernel_rfl) (by rfl) ?_);(iterate 12 (all_goals (first|((first|refine Gq 0 ?_|refine Gq 1 ?_|refine Gq 2 ?_|refine Gq 3 ?_|refine Gq 4 ?_|refine Gq 5 ?_|refine Gq 6 ?_|refine Gq 7 ?_|refine Gq 8 ?_|refine Gq 9 ?_|refine Gq 10 ?_|refine Gq 11 ?_);(first|go_big_quiet_step (fail)|(refine wpQuiet_step (fun K hK=>?_);go_simp;split<;>(refine hK _ ?_;clear hK K)));refine wpQuiet_nil ?_)|((first|refine Gf 0 ?_|refine Gf 1 ?_|refine Gf 2 ?_|refine Gf 3 ?_|refine Gf 4 ?_|refine Gf 5 ?_|refine Gf 6 ?_|refine Gf 7 ?_|refine Gf 8 ?_|refine Gf 9 ?_|refine Gf 10 ?_|refine Gf 11 ?_);intro xg K hK;go_wp2_with ((go_at_call 121;((with_reducible refine(Hbe.out _ h1.m h2.m).mono ?_);rintro e w7 ⟨v7,rfl,⟨u7,bd,rfl,hbd⟩,hb7⟩;obtain⟨x7,rfl⟩:=za hb7;clear hb7)));refine hK _ _ gw ?_;clear hK K))));all_goals (refine G_end (by kernel_rfl) ?_;intro xR))
    go_wp2_with fail;refine zd (by simp only[results,Tryz.results78];go_simp<;>rfl) rfl gw ?_;rw[H0.out];exact⟨_,_,rfl⟩
  ·have H0:Hid (zbp f=6):=Lib.hid (by
    unfold zbp;rw[if_neg];intro h44;obtain⟨q,hq,hfq⟩:=Hie.out.1 h44;rw[HF.out q om] at hfq;cases hfq)
   go_wp2_with fail;refine zd (by simp only[results,Tryz.results78];go_simp<;>rfl) rfl gw ?_;rw[H0.out];exact⟨_,_,rfl⟩
theorem zr8 (f : Fn)(v1 v2 : Value)(w : World){F F' : Nat→Prop}(hf : f.wf)(h1 : Sl F w v1 f.locals)(h2 : Sl F' w v2 f.blocks)(hok : fnErr f=0):
  Calls Tryz.prog 47 #[f.v v1 v2] w (Ret w (.int .i64 (za9 f))):=by
 obtain⟨a,n,cap,rfl,Hn,hm,hcap,hcm,h1⟩:=h1.open;obtain⟨a2,n2,cap2,rfl,Hn2,hm2,hcap2,hcm2,h2⟩:=h2.open;have Hok:=Lib.hid hok;clear hok;have Hfi:=Lib.hid fun (w':World) (k1:Sl F w' (.slice a n cap) f.locals) (k2:Sl F' w' (.slice a2 n2 cap2) f.blocks)=>zr7 f _ _ w' hf k1 k2 Hok.out;rcases zfs f with h|h
 ·have e:zbp f=0:=by unfold zbp;rw[if_pos h]
  rw[e] at Hfi;rw[h];clear h e;go_enter Tryz.func47,Tryz.ntmps47
  go_wp2_with (first|(go_at_call 78;((with_reducible refine(Hfi.out _ h1.m h2.m).mono ?_);rintro e w5 ⟨v5,rfl,⟨x,y,rfl⟩,hb5⟩;obtain⟨x5,rfl⟩:=za hb5;clear hb5)));go_ret
  exact Ret.mk rfl gw
 ·have e:zbp f=6:=by unfold zbp;rw[h,if_neg (by decide)]
  rw[e] at Hfi;rw[h];clear h e;go_enter Tryz.func47,Tryz.ntmps47
  go_wp2_with (first|(go_at_call 78;((with_reducible refine(Hfi.out _ h1.m h2.m).mono ?_);rintro e w5 ⟨v5,rfl,⟨x,y,rfl⟩,hb5⟩;obtain⟨x5,rfl⟩:=za hb5;clear hb5)));go_ret
  exact Ret.mk rfl gw
open Go.RowKit Go.Maps Go.ChangeMaps
theorem zsp : LivOk:=by
 intro f v1 v2 w F F' hf h1 h2 hok;obtain⟨a,n,cap,rfl,Hn,hm,hcap,hcm,h1⟩:=h1.open;obtain⟨a2,n2,cap2,rfl,Hn2,hm2,hcap2,hcm2,h2⟩:=h2.open;have Hok:=Lib.hid hok;have hok' : (fnErr f != 0)=false:=by simp[hok]
 have hN1:=zah hok;have hN6:=zp hok;have hn16:n≤16:=by rw[Hn.out];exact(zt hok).2.2
 have Hlen:=Lib.hid (zde f);have hmm:=@run_makeMap Tryz.prog;clear hok;go_enter Tryz.func260,Tryz.ntmps260
 go_upto_region 10 with (first|(go_at_call 16;((with_reducible refine armV (za2 f _ _ _ hf h1.m h2.m) ?_);intro x1))|((go_at_call 120;((with_reducible refine armT (zbk f _ _ _ hf h1.m h2.m Hok.out) ?_);intro a5 n5 cap5 x5 Hn5 hm5 hcap5 hcm5 hs5));(have hn5:n5≤600:=by rw[Hn5.out,Hlen.out];exact hN6);(have hn51:1≤n5:=by rw[Hn5.out,Hlen.out];exact hN1))|(at_make;refine zes (bytes:=4) rfl rfl Tryz.underlying127 (by kernel_rfl) rfl rfl om om ?_)|(at_make;refine zcy (z:=.slice none 0 0) (bytes:=24) rfl rfl Tryz.underlying244 (by kernel_rfl) rfl rfl rfl om om ?_))
 clear hmm;have HN:Hid (n5=zb f):=Lib.hid (by rw[Hn5.out,Hlen.out]);clear hN1 hN6;go_upto_region 11 with fail;go_loopw [49] (fun ti wr=>∃ (i:Nat) (vs:Nat→Value) (B:Nat→List Int) (mp:Obj) (S:Nat→Bool),i≤n5∧ti = .int .i64 i∧Grow ((((ext (ext (w.alloc (bxFn f (.slice a n cap) (.slice a2 n2 cap2))) x1) x5).alloc (.cells (mA n5 (fun _ _=>false)) 131)).alloc (.cells (vA n5 vs) 74)).alloc mp) wr∧Bu ((w.heap.size+1+x1.k+x5.k)+3) wr 3 n5 vs B∧SetO mp i S∧Hid (∀ c,S c=decide (c<i))∧Hid (BI f i [] B)) (fun ti _=>n5 - (intOf ti).toNat)
 case atStart=>exact⟨0,_,fun _=>[],_,_,Nat.zero_le _,rfl,gw,Bu.start _ _ _ _,SetO.made w,Lib.hid (fun c=>by simp),Lib.hid (BI.start f)⟩
 case round =>
  obtain⟨i,vs,B,mp,S,hi,rfl,hgr,hbu,HS,HSe,HB⟩:=hrel;obtain⟨y,rfl⟩:=za hgr;by_cases hlt:i<n5
  ·obtain⟨b_pt,off_pt,pt,rfl,⟨Hg_pt,hl_pt,hw_pt,c_pt0,c_pt1,r_pt0⟩⟩:=hs5.pt i hlt;obtain⟨pb,pi,px,hp⟩:=PtAt.of (f:=f) (q:=i) (by rw[←HN.out];exact hlt);obtain rfl:=pt_at Hg_pt hp;have Hnl:=Lib.hid (zjk (b:=pb) (i:=pi) (x:=px));have hbm:(ext ((((ext (ext (w.alloc (bxFn f (.slice a n cap) (.slice a2 n2 cap2))) x1) x5).alloc (.cells (mA n5 (fun _ _=>false)) 131)).alloc (.cells (vA n5 vs) 74)).alloc mp) y).heap[(w.heap.size+1+x1.k+x5.k)+2]?=some mp:=by
    have:=zcf ((ext (ext (w.alloc (bxFn f (.slice a n cap) (.slice a2 n2 cap2))) x1) x5).alloc (.cells (mA n5 (fun _ _=>false)) 131) |>.alloc (.cells (vA n5 vs) 74)) mp y
    rw[show ((ext (ext (w.alloc (bxFn f (.slice a n cap) (.slice a2 n2 cap2))) x1) x5).alloc (.cells (mA n5 (fun _ _=>false)) 131) |>.alloc (.cells (vA n5 vs) 74)).heap.size=(w.heap.size+1+x1.k+x5.k)+2 from by simp] at this;exact this
   go_upto_region 14 with (first|(at_mapUpdate;refine zkz rfl rfl rfl rfl rfl HS (((show Grow _ _ from Grow.alloc (Grow.refl _) _).block _ (by simp;omega)).trans hbm) om om ?_;intro mp1 HS1;rw[zq0,zw6]))
   go_upto_region 17 with (first|(go_at_call 161;((with_reducible refine armT (zin f _ _ _ hf h1.m h2.m Hok.out hp.hb hp.hi) ?_);intro a8 n8 cap8 x8 Hn8 hm8 hcap8 hcm8 hs8)))
   go_upto_region 18 with fail;obtain⟨s0,s1,hs0,hs01,hs1,hs8⟩:=ztt hs8 (zw _ _).size;have hn8:n8≤2:=by rw[Hn8.out];exact Hnl.out
   have Hdis:Hid (∀ k',k'<n5→∀ b,(vs k').ownBlock=some b→b<s0∨s1≤b):=Lib.hid fun k' hk' b hb=>by
    have:=((hbu.own k' hk').lt b hb).2
    left;rw[hs0];simp at this ⊢;omega
   have hs0b:(w.heap.size+1+x1.k+x5.k)+3≤s0:=by rw[hs0];simp;omega
   go_loopw [67] (fun tj wr=>∃ (j:Nat) (vs' : Nat→Value) (B' : Nat→List Int),j≤n8∧tj = .int .i64 j∧Grow ((((ext (ext (w.alloc (bxFn f (.slice a n cap) (.slice a2 n2 cap2))) x1) x5).alloc (.cells (mA n5 (fun _ _=>false)) 131)).alloc (.cells (vA n5 vs') 74)).alloc mp1) wr∧Bu ((w.heap.size+1+x1.k+x5.k)+3) wr 3 n5 vs' B'∧Sl (fun k'=>s0≤k'∧k'<s1) wr (.slice a8 n8 cap8) (nextS pb px pi)∧Hid (∀ k',k'<n5→∀ b,(vs' k').ownBlock=some b→b<s0∨s1≤b)∧s1≤wr.heap.size∧Hid (BI f i ((nums f (nextS pb px pi)).take j) B')) (fun tj _=>n8 - (intOf tj).toNat)
   case atStart=>exact⟨0,vs,B,Nat.zero_le _,rfl,gw,(hbu.turn3g (o3':=mp1) (by simp)).mono gw,hs8.mono gw,Hdis,by rw[hs1];exact(show Grow _ _ from gw).size,HB⟩
   case round =>
    obtain⟨j,vs',B',hj,rfl,hgr',hbu',hs8r,Hdis',hs1r,HB'⟩:=hrel;obtain⟨z,rfl⟩:=za hgr';by_cases hltj8:j<n8
    ·obtain⟨b_pt8,off_pt8,pt8,rfl,⟨Hg_pt8,hl_pt8,hw_pt8,c_pt80,c_pt81,r_pt80⟩⟩:=hs8r.pt j hltj8;obtain⟨qb,qi,qx,rfl,hqb,hqi,hqn⟩:=zio Hok.out hp (List.mem_of_getElem? Hg_pt8.out);obtain⟨rn,Hrn⟩:∃ rn,Hid (numF f (qb,qi)=rn):=⟨_,Lib.hid rfl⟩
     rw[Hrn.out] at hqn;have hrN:rn<n5:=by rw[HN.out];exact(zar Hok.out hqn).2
     have Hnu:Hid (∀ w',Sl F w' (.slice a n cap) f.locals→Sl F' w' (.slice a2 n2 cap2) f.blocks→Calls Tryz.prog 162 #[f.v (.slice a n cap) (.slice a2 n2 cap2),(⟨(qb:Int),(qi:Int)⟩:Pt).v] w' (Ret w' (.tuple #[.int .i64 (rn:Nat),.int .i64 0]))):=Lib.hid fun w' k1 k2=>by
      have:=zgo f _ _ w' hf k1 k2 Hok.out hqb hqi
      rw[Hrn.out] at this;exact this
     have Htk:Hid ((nums f (nextS pb px pi)).take (j+1)=(nums f (nextS pb px pi)).take j++[rn]):=Lib.hid (by
      unfold nums;rw[←List.map_take,←List.map_take,List.take_add_one,Hg_pt8.out,List.map_append];simp only[Option.toList_some,List.map_cons,List.map_nil,Int.toNat_natCast];rw[Hrn.out])
     have hgo:(vA n5 vs')[rn]?=some (vs' rn):=zca n5 vs' rn hrN;have hsv:∀ v,(vA n5 vs').setIfInBounds rn v=vA n5 (up vs' rn v):=fun v=>zhx n5 vs' rn v hrN;have h64:I64 ((i:Nat):Int):=⟨by omega,by omega⟩
     have hbl:(B' rn).length≤1204:=by
      have h3:=HB'.out.len rn;have h4:((nums f (nextS pb px pi)).take j).length≤j:=List.length_take_le ..;omega
     have hbn:((w.heap.size+1+x1.k+x5.k)+3)≤(ext ((((ext (ext (w.alloc (bxFn f (.slice a n cap) (.slice a2 n2 cap2))) x1) x5).alloc (.cells (mA n5 (fun _ _=>false)) 131)).alloc (.cells (vA n5 vs') 74)).alloc mp1) z).heap.size:=by simp
     go_wp2_with (first|(go_at_call 162;((with_reducible refine armV (Hnu.out _ h1.m h2.m) ?_);intro x9))|(at_builtin;refine zff (W0:=((((ext (ext (w.alloc (bxFn f (.slice a n cap) (.slice a2 n2 cap2))) x1) x5).alloc (.cells (mA n5 (fun _ _=>false)) 131)).alloc (.cells (vA n5 vs') 74)).alloc mp1)) zau rfl rfl rfl ((hbu'.mono gw).own rn hrN) gw (by simp) (by simp;omega) rfl (y:=.int .i64 (i:Nat)) rfl cel om om ?_;intro v9 x9 ho9 hg9 hb9;obtain⟨g9,cap9,rfl⟩:=zom ho9));have hap:=hbu'.app gw hrN h64 ho9 hg9 hb9;have hsl9:Sl (fun k'=>s0≤k'∧k'<s1) (ext ((((ext (ext (w.alloc (bxFn f (.slice a n cap) (.slice a2 n2 cap2))) x1) x5).alloc (.cells (mA n5 (fun _ _=>false)) 131)).alloc (.cells (vA n5 vs') 74)).alloc mp1) x9) (.slice (some ⟨b_pt8,off_pt8,none⟩) n8 cap8) (nextS pb px pi):=(hs8r.mono gw).keep (fun k' hF hk'=>hg9.block k' hk' (fun e=>by have:=Hdis'.out rn hrN k' e.symm;omega));have hsz9:=hg9.size;have Hdis9:Hid (∀ k',k'<n5→∀ b,(up vs' rn (.slice (some ⟨g9,0,none⟩) ((B' rn).length+1) cap9) k').ownBlock=some b→b<s0∨s1≤b):=Lib.hid fun k' hk' b hb=>by
      by_cases e:k'=rn
      ·subst e;rw[zm] at hb;rcases hb9 with e|e
       ·rw[e] at hb;exact Hdis'.out _ hk' b hb
       ·rw[e] at hb;injection hb with hb;right;rw[←hb];simp at hs1r ⊢;omega
      ·rw[up_ne _ _ e] at hb;exact Hdis'.out k' hk' b hb
     clear hg9 hb9;go_roundw
     case rel=>exact⟨j+1,up vs' rn (.slice (some ⟨g9,0,none⟩) ((B' rn).length+1) cap9),up B' rn (B' rn++[((i:Nat):Int)]),by omega,by go_num,gw,hap.turn3g (by simp),hsl9.turn3g (by simp;omega),Hdis9,by simp at hsz9 hs1r ⊢;omega,Lib.hid (by rw[Htk.out];exact HB'.out.put hqn)⟩
     case measure=>exact me
    ·have hfull:Hid (∀ c,c∈nexts f i→c∈(nums f (nextS pb px pi)).take j):=Lib.hid fun r hr=>by
      rw[List.take_of_length_le (by unfold nums;rw[List.length_map,←Hn8.out];omega)];exact zle Hok.out hp hr
     go_wp2_with fail;go_roundw
     case rel=>exact⟨i+1,vs',B',mp1,up S i true,by omega,by go_num,gw,hbu'.mono gw,HS1,Lib.hid (fun c=>by
      unfold up;split
      ·rename_i e;subst e;simp
      ·rw[HSe.out];rw[Bool.eq_iff_iff];simp;omega),Lib.hid (HB'.out.next hfull.out (by
       have h4:((nums f (nextS pb px pi)).take j).length≤j:=List.length_take_le ..;omega))⟩
     case measure=>exact me
  ·obtain rfl:n5=i:=om;have hrow:∀ k,k<n5→Sl (fun b=>(w.heap.size+1+x1.k+x5.k)+3≤b) (ext ((((ext (ext (w.alloc (bxFn f (.slice a n cap) (.slice a2 n2 cap2))) x1) x5).alloc (.cells (mA n5 (fun _ _=>false)) 131)).alloc (.cells (vA n5 vs) 74)).alloc mp) y) (vs k) (B k):=fun k hk=>(hbu.sl hk (by have:=HB.out.len k;simp at this;omega)).wide (fun b _ hb=>hb);have Hrow:=Lib.hid hrow;clear hbu hrow;go_upto_region 27 with (at_make;refine zes (bytes:=4) rfl rfl Tryz.underlying127 (by kernel_rfl) rfl rfl om om ?_)
   go_loopg [] (muL n5 (fun _ _=>false) (fun q=>decide (q<n5))) (fun g wr=>∃ (O Bh:Nat→Nat→Bool) (Wk:Nat→Bool) (mp1:Obj) (m:Nat),Grow ((ext ((((ext (ext (w.alloc (bxFn f (.slice a n cap) (.slice a2 n2 cap2))) x1) x5).alloc (.cells (mA n5 O) 131)).alloc (.cells (vA n5 vs) 74)).alloc mp1) y).alloc (.cells (mA n5 Bh) 131)) wr∧SetO mp1 m Wk∧Hid (LI f O Bh Wk)∧Hid (m+muL n5 Bh Wk≤30000)∧Hid (g=muL n5 Bh Wk))
   case atStart=>exact⟨_,_,_,mp,n5,gw,HS.congr HSe.out,Lib.hid (by have:=LI.start f (fun _ _=>false);rw[←HN.out] at this;exact this),Lib.hid (by have:=zw5 (N:=n5) (W:=fun q=>decide (q<n5));omega),Lib.hid rfl⟩
   case round =>
    obtain⟨O,Bh,Wk,mp1,m,hgr1,HS1,HI,Hb,Hg⟩:=hrel;obtain⟨z,rfl⟩:=za hgr1;have hbm:(ext ((ext ((((ext (ext (w.alloc (bxFn f (.slice a n cap) (.slice a2 n2 cap2))) x1) x5).alloc (.cells (mA n5 O) 131)).alloc (.cells (vA n5 vs) 74)).alloc mp1) y).alloc (.cells (mA n5 Bh) 131)) z).heap[(w.heap.size+1+x1.k+x5.k)+2]?=some mp1:=by
     have:=zcf (((ext (ext (w.alloc (bxFn f (.slice a n cap) (.slice a2 n2 cap2))) x1) x5).alloc (.cells (mA n5 O) 131)).alloc (.cells (vA n5 vs) 74)) mp1 y
     rw[show (((ext (ext (w.alloc (bxFn f (.slice a n cap) (.slice a2 n2 cap2))) x1) x5).alloc (.cells (mA n5 O) 131)).alloc (.cells (vA n5 vs) 74)).heap.size=(w.heap.size+1+x1.k+x5.k)+2 from by simp] at this;rw[(show Grow (ext ((((ext (ext (w.alloc (bxFn f (.slice a n cap) (.slice a2 n2 cap2))) x1) x5).alloc (.cells (mA n5 O) 131)).alloc (.cells (vA n5 vs) 74)).alloc mp1) y) (ext ((ext ((((ext (ext (w.alloc (bxFn f (.slice a n cap) (.slice a2 n2 cap2))) x1) x5).alloc (.cells (mA n5 O) 131)).alloc (.cells (vA n5 vs) 74)).alloc mp1) y).alloc (.cells (mA n5 Bh) 131)) z) from gw).block _ (by simp;omega)];exact this
    go_wp2_with (first|(at_len;refine zsk rfl rfl Tryz.underlying116 rfl HS1 hbm ?_;intro kk hk0 hk1;rcases Nat.eq_zero_or_pos kk with hkz|hkz;subst hkz;rotate_left;have hkd:decide ((0:Int)<(kk:Int))=true:=decide_eq_true om)|(go_at_call 277;refine(zq2 _ HS1 hbm (hk1 hkz)).mono ?_;rintro e w2 ⟨c,mp2,rfl,hWc,hc5,hb2,HS2,hg2⟩;obtain⟨z2,rfl⟩:=za (zw7 (show Grow ((ext ((((ext (ext (w.alloc (bxFn f (.slice a n cap) (.slice a2 n2 cap2))) x1) x5).alloc (.cells (mA n5 O) 131)).alloc (.cells (vA n5 vs) 74)).alloc mp1) y).alloc (.cells (mA n5 Bh) 131)) (ext ((ext ((((ext (ext (w.alloc (bxFn f (.slice a n cap) (.slice a2 n2 cap2))) x1) x5).alloc (.cells (mA n5 O) 131)).alloc (.cells (vA n5 vs) 74)).alloc mp1) y).alloc (.cells (mA n5 Bh) 131)) z) from gw) hg2 hb2)))
    ·have hcN:c<n5:=by rw[HN.out];exact HI.out.wlt c hWc
     obtain⟨b_pt,off_pt,pt,rfl,⟨Hg_pt,hl_pt,hw_pt,c_pt0,c_pt1,r_pt0⟩⟩:=hs5.pt c hcN;obtain⟨pb,pi,px,hp⟩:=PtAt.of (f:=f) (q:=c) (by rw[←HN.out];exact hcN);obtain rfl:=pt_at Hg_pt hp;obtain⟨zc,Hzc⟩:∃ zc,Hid (setC (coF f c)=zc):=⟨_,Lib.hid rfl⟩
     obtain⟨Uc,HUc⟩:∃ Uc,Hid (usesC (coF f c)=Uc):=⟨_,Lib.hid rfl⟩
     have Hd:Hid (∀ w',Sl F w' (.slice a n cap) f.locals→Sl F' w' (.slice a2 n2 cap2) f.blocks→Calls Tryz.prog 201 #[f.v (.slice a n cap) (.slice a2 n2 cap2),(⟨(pb:Int),(pi:Int)⟩:Pt).v] w' (Ret w' (.tuple #[.int .u32 (mk Uc),.int .i64 zc,.int .i64 0]))):=Lib.hid fun w' k1 k2=>by
      have:=zjh f _ _ w' hf k1 k2 Hok.out hp
      rw[Hzc.out,HUc.out] at this;exact this
     have hzc:-1≤zc∧zc<16:=by
      have:=z2l (zcc Hok.out).2.1 (za5 Hok.out (by rw[←HN.out];exact hcN:c<zb f))
      rw[Hzc.out,←Hn.out] at this;omega
     obtain⟨T,HT⟩:∃ T,Hid (outL f Bh c=T):=⟨_,Lib.hid rfl⟩
     have HT2:Hid (T=fun i=>(Bh c i&&!decide (zc=(i:Int)))||Uc i):=Lib.hid (by rw[←HT.out,z1b Hzc.out,HUc.out]);have HJ:=Lib.hid (HI.out.pop Hok.out hWc);rw[HT.out] at HJ;have Hpop:=Lib.hid (z0k (B:=Bh) hcN hWc);have hgB:(mA n5 Bh)[c]?=some (.int .u32 (mk (Bh c))):=zd2 n5 Bh c hcN;have hgO:(mA n5 O)[c]?=some (.int .u32 (mk (O c))):=zd2 n5 O c hcN;have hsO:∀ T,(mA n5 O).setIfInBounds c (.int .u32 (mk T))=mA n5 (up O c T):=fun T=>zh5 n5 O c T hcN;clear HI hWc hc5 hk0 hk1 hg2 hb2 HS1 hbm hp
     ((refine zbb 13 (by kernel_rfl) (by rfl) ?_);(iterate 13 (all_goals (first|((first|refine Gq 0 ?_|refine Gq 1 ?_|refine Gq 2 ?_|refine Gq 3 ?_|refine Gq 4 ?_|refine Gq 5 ?_|refine Gq 6 ?_|refine Gq 7 ?_|refine Gq 8 ?_|refine Gq 9 ?_|refine Gq 10 ?_|refine Gq 11 ?_|refine Gq 12 ?_);(first|go_big_quiet_step (fail)|(refine wpQuiet_step (fun K hK=>?_);go_simp;split<;>(refine hK _ ?_;clear hK K)));refine wpQuiet_nil ?_)|((first|refine Gf 0 ?_|refine Gf 1 ?_|refine Gf 2 ?_|refine Gf 3 ?_|refine Gf 4 ?_|refine Gf 5 ?_|refine Gf 6 ?_|refine Gf 7 ?_|refine Gf 8 ?_|refine Gf 9 ?_|refine Gf 10 ?_|refine Gf 11 ?_|refine Gf 12 ?_);intro xg K hK;go_wp2_with ((go_at_call 201;((with_reducible refine armV (Hd.out _ h1.m h2.m) ?_);intro x7)));refine hK _ _ gw ?_;clear hK K))));all_goals (refine G_end (by kernel_rfl) ?_;intro xR))
     have hzc2:(∃ qz:Nat,zc=(qz:Int)∧qz<16)∨zc = -1:=by
      by_cases hz0:0≤zc
      ·obtain⟨qz,h⟩:=Int.eq_ofNat_of_zero_le hz0;exact Or.inl ⟨qz,h,by omega⟩
      ·exact Or.inr om
     have HO1:=HJ.out.here;rcases hzc2 with ⟨qz,rfl,hq16⟩|rfl;have hsh:=zf9 qz hq16;have hcl:bits .andNot .u32 (mk (Bh c)) (mk (one qz))=mk (up (Bh c) qz false):=zpl _ _;have hor:bits .or .u32 (mk (up (Bh c) qz false)) (mk Uc)=mk T:=by
      rw[mk_or,HT2.out];congr 1;funext i;unfold up;split
      ·rename_i e;subst e;simp
      ·rename_i e;have hd:decide ((qz:Int)=(i:Int))=false:=decide_eq_false om;simp only[hd];simp
     rotate_left
     have hor:bits .or .u32 (mk (Bh c)) (mk Uc)=mk T:=by
      rw[mk_or,HT2.out];congr 1;funext i;rw[decide_eq_false (by omega:¬(-1:Int)=(i:Int))];simp
     go_upto_region 36 with fail;all_goals
      (try clear hsh hcl)
      clear hor hgO hsO hgB;obtain⟨O1,HO1e⟩:∃ O1,Hid (up O c T=O1):=⟨_,Lib.hid rfl⟩
      rw[HO1e.out] at HJ HO1 ⊢;obtain⟨ab,nb,cb,hvc,Hnb,hmb,hcb1,hcb2,hslb⟩:=(Hrow.out c hcN).open;have hgo:(vA n5 vs)[c]?=some (.slice ab nb cb):=by rw[zca n5 vs c hcN,hvc]
      have Hvc:=Lib.hid hvc;have hnb:nb≤1204:=by
       have h3:=HB.out.len c;simp at h3;rw[Hnb.out];omega
      clear hvc;have hgO1:(mA n5 O1)[c]?=some (.int .u32 (mk T)):=by rw[zd2 n5 O1 c hcN,HO1]
      go_upto_region 37 with fail;go_loopw [134] (fun tj wr=>∃ (j:Nat) (Bh' : Nat→Nat→Bool) (Wk' : Nat→Bool) (mp3:Obj) (m' : Nat),j≤nb∧tj = .int .i64 j∧Grow ((ext ((((ext (ext (w.alloc (bxFn f (.slice a n cap) (.slice a2 n2 cap2))) x1) x5).alloc (.cells (mA n5 O1) 131)).alloc (.cells (vA n5 vs) 74)).alloc mp3) y).alloc (.cells (mA n5 Bh') 131)) wr∧SetO mp3 m' Wk'∧Hid (LJ f c T (((B c).map Int.toNat).take j) O1 Bh' Wk')∧Hid (m'+muL n5 Bh' Wk'≤30000)∧Hid (muL n5 Bh' Wk'<muL n5 Bh Wk)) (fun tj _=>nb - (intOf tj).toNat)
      case atStart=>exact⟨0,Bh,up Wk c false,mp2,m,Nat.zero_le _,rfl,gw,HS2,HJ,Lib.hid (by have:=Hpop.out;have:=Hb.out;omega),Hpop⟩
      case round =>
       obtain⟨j,Bh',Wk',mp3,m',hj,rfl,hgr2,HS3,HJ',Hb',Hmu'⟩:=hrel;obtain⟨z4,rfl⟩:=za hgr2;by_cases hltj:j<nb
       ·have hbt:Sl (fun b=>(w.heap.size+1+x1.k+x5.k)+3≤b) (ext ((ext ((((ext (ext (w.alloc (bxFn f (.slice a n cap) (.slice a2 n2 cap2))) x1) x5).alloc (.cells (mA n5 O1) 131)).alloc (.cells (vA n5 vs) 74)).alloc mp3) y).alloc (.cells (mA n5 Bh') 131)) z4) (.slice ab nb cb) (B c):=hslb.turn4 (by simp);obtain⟨gq,oq,r,rfl,⟨Hr,hrl,hrw,hcr⟩⟩:=hbt.int j hltj;obtain⟨p,rfl,hpn⟩:=HB.out.mem c r (List.mem_of_getElem? Hr.out);have hpN:p<n5:=by rw[HN.out];exact(zar Hok.out hpn).1
        have Htk:Hid (((B c).map Int.toNat).take (j+1)=((B c).map Int.toNat).take j++[p]):=Lib.hid (by
         rw[←List.map_take,←List.map_take,List.take_add_one,Hr.out,List.map_append];simp)
        have hgp:∀ M,(mA n5 M)[p]?=some (.int .u32 (mk (M p))):=fun M=>zd2 n5 M p hpN;have hsp:∀ M U,(mA n5 M).setIfInBounds p (.int .u32 (mk U))=mA n5 (up M p U):=fun M U=>zh5 n5 M p U hpN;obtain⟨U,HU⟩:∃ U,Hid ((fun i=>Bh' p i||T i)=U):=⟨_,Lib.hid rfl⟩
        have hor2:bits .or .u32 (mk (Bh' p)) (mk T)=mk U:=by rw[mk_or,HU.out]
        go_upto_region 39 with fail
        ((refine zbb 10 (by kernel_rfl) (by rfl) ?_);(iterate 10 (all_goals (first|((first|refine Gq 0 ?_|refine Gq 1 ?_|refine Gq 2 ?_|refine Gq 3 ?_|refine Gq 4 ?_|refine Gq 5 ?_|refine Gq 6 ?_|refine Gq 7 ?_|refine Gq 8 ?_|refine Gq 9 ?_);(first|go_big_quiet_step (fail)|(refine wpQuiet_step (fun K hK=>?_);go_simp;split<;>(refine hK _ ?_;clear hK K)));refine wpQuiet_nil ?_)|((first|refine Gf 0 ?_|refine Gf 1 ?_|refine Gf 2 ?_|refine Gf 3 ?_|refine Gf 4 ?_|refine Gf 5 ?_|refine Gf 6 ?_|refine Gf 7 ?_|refine Gf 8 ?_|refine Gf 9 ?_);intro xg K hK;go_wp2_with (fail);refine hK _ _ gw ?_;clear hK K))));all_goals (refine G_end (by kernel_rfl) ?_;intro xR))
        by_cases hle:∀ i,T i=true→Bh' p i=true
        ·have hUe:U=Bh' p:=by
          rw[←HU.out];funext i;cases hTi:T i
          ·simp
          ·rw[hle i hTi];rfl
         have hne:(mk U != mk (Bh' p))=false:=by rw[hUe];simp
         have HK:Hid (LJ f c T (((B c).map Int.toNat).take (j+1)) O1 Bh' Wk'):=Lib.hid (by rw[Htk.out];exact HJ'.out.keep hle);clear hUe hle;go_wp2_with fail;go_roundw
         case rel=>exact⟨j+1,Bh',Wk',mp3,m',by omega,by go_num,gw,HS3,HK,Hb',Hmu'⟩
         case measure=>exact me
        ·have hex:∃ i,i<16∧Bh' p i=false∧T i=true:=by
          apply Classical.byContradiction;intro hno;apply hle;intro i hi;cases hBi:Bh' p i
          ·exact absurd ⟨i,by have:=(HJ'.out.mask i hi).local Hok.out;have:=Hn.out;omega,hBi,hi⟩ hno
          ·rfl
         have hne:(mk U != mk (Bh' p))=true:=by
          obtain⟨i,h1,h2,h3⟩:=hex;rw[bne_iff_ne];intro e;have:=zpi e i h1
          rw[←HU.out] at this;simp only[h2,h3] at this;cases this
         have HP:Hid (LJ f c T (((B c).map Int.toNat).take (j+1)) O1 (up Bh' p U) (up Wk' p true)):=Lib.hid (by
          have:=HJ'.out.put Hok.out hpn;rw[HU.out] at this;rw[Htk.out];exact this)
         have HM:Hid (muL n5 (up Bh' p U) (up Wk' p true)<muL n5 Bh' Wk'):=Lib.hid (by
          have:=z0j (B:=Bh') (T:=T) (W:=Wk') hpN hex;rw[HU.out] at this;exact this)
         have hm3:m'<1000000:=by have:=Hb'.out;omega
         clear hex hle;have hbm:∀ (Bx:Nat→Nat→Bool) (zx:Ext),(ext ((ext ((((ext (ext (w.alloc (bxFn f (.slice a n cap) (.slice a2 n2 cap2))) x1) x5).alloc (.cells (mA n5 O1) 131)).alloc (.cells (vA n5 vs) 74)).alloc mp3) y).alloc (.cells (mA n5 Bx) 131)) zx).heap[(w.heap.size+1+x1.k+x5.k)+2]?=some mp3:=fun Bx zx=>by
          have:=zcf (((ext (ext (w.alloc (bxFn f (.slice a n cap) (.slice a2 n2 cap2))) x1) x5).alloc (.cells (mA n5 O1) 131)).alloc (.cells (vA n5 vs) 74)) mp3 y
          rw[show (((ext (ext (w.alloc (bxFn f (.slice a n cap) (.slice a2 n2 cap2))) x1) x5).alloc (.cells (mA n5 O1) 131)).alloc (.cells (vA n5 vs) 74)).heap.size=(w.heap.size+1+x1.k+x5.k)+2 from by simp] at this;rw[(show Grow (ext ((((ext (ext (w.alloc (bxFn f (.slice a n cap) (.slice a2 n2 cap2))) x1) x5).alloc (.cells (mA n5 O1) 131)).alloc (.cells (vA n5 vs) 74)).alloc mp3) y) (ext ((ext ((((ext (ext (w.alloc (bxFn f (.slice a n cap) (.slice a2 n2 cap2))) x1) x5).alloc (.cells (mA n5 O1) 131)).alloc (.cells (vA n5 vs) 74)).alloc mp3) y).alloc (.cells (mA n5 Bx) 131)) zx) from gw).block _ (by simp;omega)];exact this
         go_wp2_with (first|(at_mapUpdate;refine zkz rfl rfl rfl rfl rfl HS3 (by rw[zaa];exact hbm _ _) hm3 om ?_;intro mp4 HS4;rw[zq1,zq1,zq0,zw6]));go_roundw
         case rel=>exact⟨j+1,up Bh' p U,up Wk' p true,mp4,m'+1,by omega,by go_num,gw,HS4,HP,Lib.hid (by have:=Hb'.out;have:=HM.out;omega),Lib.hid (by have:=Hmu'.out;have:=HM.out;omega)⟩
         case measure=>exact me
       ·have HD:Hid (LI f O1 Bh' Wk'):=Lib.hid (HJ'.out.done fun p hp=>by
         rw[List.take_of_length_le (by rw[List.length_map,←Hnb.out];omega)];exact List.mem_map.2 ⟨(p:Int),HB.out.all c p (by rw[HN.out];exact(zar Hok.out hp).1) hp,by simp⟩)
        go_wp2_with fail;go_roundg (muL n5 Bh' Wk')
        case measure=>rw[Hg.out];exact Hmu'.out
        case rel=>exact⟨O1,Bh',Wk',mp3,m',gw,HS3,HD,Hb',Lib.hid rfl⟩
    ·refine zd (by simp only[results,Tryz.results260];go_simp<;>rfl) rfl gw ⟨_,rfl,?_⟩;have Hfin:Hid (mL n5 O=mL (zb f) (liveM f)):=Lib.hid (by
      rw[←HN.out];unfold mL;refine List.map_congr_left fun q hq=>?_;rw[HI.out.last Hok.out (hk0 trivial) (by rw[←HN.out];exact List.mem_range.1 hq)])
     rw[←Hfin.out];refine Sl.masks (e:=131) ?_ (Or.inr om) om;rw[(show Grow ((ext (ext (w.alloc (bxFn f (.slice a n cap) (.slice a2 n2 cap2))) x1) x5).alloc (.cells (mA n5 O) 131)) (ext ((ext ((((ext (ext (w.alloc (bxFn f (.slice a n cap) (.slice a2 n2 cap2))) x1) x5).alloc (.cells (mA n5 O) 131)).alloc (.cells (vA n5 vs) 74)).alloc mp1) y).alloc (.cells (mA n5 Bh) 131)) z) from gw).block _ (by simp)];have h9:=heap_alloc_new (ext (ext (w.alloc (bxFn f (.slice a n cap) (.slice a2 n2 cap2))) x1) x5) (.cells (mA n5 O) 131);rw[show (ext (ext (w.alloc (bxFn f (.slice a n cap) (.slice a2 n2 cap2))) x1) x5).heap.size=(w.heap.size+1+x1.k+x5.k) from by simp] at h9;exact h9
end Go.Proofs.YtacmoaeglbggjaaGreat
