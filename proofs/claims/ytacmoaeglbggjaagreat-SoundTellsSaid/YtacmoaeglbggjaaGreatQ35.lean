/- A part of the proof. -/
import Derived.Test.YtacmoaeglbggjaaGreatQ31
import Derived.Test.YtacmoaeglbggjaaGreatQ32
import Derived.Test.YtacmoaeglbggjaaGreatQ33
import Derived.Test.YtacmoaeglbggjaaGreatQ34
namespace Go.Proofs.YtacmoaeglbggjaaGreat
open Go.RowKit
set_option linter.unusedSimpArgs false
set_option linter.unusedVariables false
set_option maxRecDepth 100000
set_option maxHeartbeats 16000000
section
variable {P : Program} {ops : Array Oper} {md : Region.Mode} {Q : Exit → Act → World → Prop} {S : World → Prop}
def zda (P : Program)(md : Region.Mode)(ops : Array Oper)(Q : Exit→Act→World→Prop)(S : World→Prop)(n : Nat)(L : Array Bool→Act→World→Prop): Nat→Array Bool→Act→World→Prop
 |0,listed,a,w=>L listed a w
 |f
   + 1,listed,a,w=>Region.ready md ops listed≠[] ∧
   ∀ i∈Region.ready md ops listed,i<n∧wpOp P ops Q i (fun a' w''=>S w''∧zda P md ops Q S n L f (listed.setIfInBounds i true) a' w'') a w
theorem zmx {n g : Nat}{L : Array Bool→Act→World→Prop}(hL : ∀ listed a w,L listed a w→wpAny P md ops Q g listed a w):
  ∀ (f:Nat) (listed:Array Bool) (a:Act) (w:World),zda P md ops Q S n L f listed a w→wpAny P md ops Q (f+g) listed a w
 |0,_,_,w,h=>by rw[Nat.zero_add];exact hL _ _ _ h
 |f+1,listed,a,w,h=>by
  rw[show f+1+g=(f+g)+1 by omega];exact⟨fun h0=>absurd h0 h.1,fun i hi=>wpOp_mono (fun a' w' h'=>zmx hL f _ a' w' h'.2) (h.2 i hi).2⟩
theorem ztz {n i : Nat}{oi : Oper}{v : Value}{L : Array Bool→Act→World→Prop}(hi : ops[i]?=some oi)(hsel : ∀ (j : Nat) (o : Oper) cs b,ops[j]?=some o→o.op≠.select cs b)
  (hQ:∀ c a w,Q (.panic c) (a.put oi.dst v) w→Q (.panic c) a w)
  (hs:Region.sinkB md ops n=true) (hc:Region.chainB md ops n=true) (hn:n<ops.size) (hin:i<n)
  (hdone:∀ listed a w,L listed a w→∀ j∈Region.ready md ops listed,n≤j) :
  ∀ (f:Nat) (listed:Array Bool) (a:Act) (w:World),HeadInv md ops n listed →
   (∀ j oj,ops[j]?=some oj→j≠i→listed.getD j true=false→(∀ e∈oj.after,Region.binds md e=true→e.on≠i)→oi.apart ops oj=true) →
   i∈Region.ready md ops listed→YieldsIf P ops S oi v a→S w →
   zda P md ops Q S n L f (listed.setIfInBounds i true) (a.put oi.dst v) w→zda P md ops Q S n L (f+1) listed a w:=by
 intro f;induction f with
 |zero =>
  intro listed a w inv _ hr hy hS H;have hun:=(mem_ready.1 hr).1;refine⟨fun h=>(by rw[h] at hr;cases hr),fun j hj=>?_⟩;have hjn:j<n:=by
   by_cases h:j<n
   ·exact h
   ·exact absurd hj (tail_waits hs hc hn inv _ i rfl hin hun j om)
  refine⟨hjn,?_⟩;by_cases hji:j=i
  ·subst hji;exact hy.wpOp hi hS ⟨hS,H⟩
  ·have:=hdone _ _ _ H j (ready_mono hj hji)
   omega
 |succ f ih =>
  intro listed a w inv hfree hr hy hS H;have hun:=(mem_ready.1 hr).1;refine⟨fun h=>(by rw[h] at hr;cases hr),fun j hj=>?_⟩;have hjn:j<n:=by
   by_cases h:j<n
   ·exact h
   ·exact absurd hj (tail_waits hs hc hn inv _ i rfl hin hun j om)
  refine⟨hjn,?_⟩;by_cases hji:j=i
  ·subst hji;exact hy.wpOp hi hS ⟨hS,H⟩
  ·have h1:=(H.2 j (ready_mono hj hji)).2;obtain⟨hjun,oj,hoj,hall⟩:=mem_ready.1 hj;have hnot:∀ e∈oj.after,Region.binds md e=true→e.on≠i:=fun e he hb heq=>by
    have q1:=hall e he hb;have q0:=(mem_ready.1 hr).1;rw[heq] at q1;rcases Nat.lt_or_ge i listed.size with h'|h'
    ·simp[h'] at q0 q1;rw[q0] at q1;cases q1
    ·simp[Array.getElem?_eq_none h'] at q1
   have h2:=wpOp_putIf hoj (hfree j oj hoj hji hjun hnot) (fun cs b=>hsel i oi cs b hi) (fun cs b=>hsel j oj cs b hoj) hQ hy h1;have hfree' : ∀ k ok,ops[k]?=some ok→k≠i→(listed.setIfInBounds j true).getD k true=false →
     (∀ e∈ok.after,Region.binds md e=true→e.on≠i)→oi.apart ops ok=true:=fun k ok hk hki hun' hno=>by
    refine hfree k ok hk hki ?_ hno;by_cases hjk:j=k
    ·subst hjk;exact hjun
    ·rw[getD_set_ne true hjk] at hun';exact hun'
   refine wpOp_mono (fun a' w' h3=>⟨h3.2.1,ih (listed.setIfInBounds j true) a' w' (inv.set hj hjn) hfree' (ready_mono hr (Ne.symm hji)) h3.1 h3.2.1 ?_⟩) h2;rw[Array.setIfInBounds_comm _ _ hji];exact h3.2.2
theorem z1g {l : List Oper}{n fuel : Nat}{listed : Array Bool}{a : Act}{w : World}(i : Nat){o : Oper}(hi : pickN l i=some o)(hB : takeT l.toArray n listed i=true)
  (hp:zef o.op=true∨Region.wanted o (yielded l.toArray a.tmps)=false) (hS:S w)
  (h:wpQuiet P l.toArray S (fun a'=>zda P .any l.toArray (Nrm Q) S n (TL P Q l n) fuel (listed.setIfInBounds i true) a' w) [o] a):zda P .any l.toArray (Nrm Q) S n (TL P Q l n) (fuel+1) listed a w:=by
 simp only[takeT,takeB,Bool.and_eq_true,decide_eq_true_eq] at hB;obtain⟨⟨hB1,hB2,hB3⟩,hB4,hB5,hB6,hB7,hB8⟩:=hB;have hi':=(zcw l i).trans hi;unfold wpQuiet at h;by_cases hw:Region.wanted o (yielded l.toArray a.tmps)=true
 ·rw[if_pos hw] at h;obtain⟨v,h1,h2⟩:=h;have hpl:=hp.resolve_right (by rw[hw];decide);refine ztz hi' (Region.noSelect_spec hB1) (fun c a w h=>(h:False).elim) hB4 hB5 hB7 hB8 (fun listed a w h=>seqB_ready h.1) fuel listed a w (zf0 hB6) (Region.free_spec hi' hB3) (by simpa using hB2) (.inl ⟨hw,fun w' g=>?_⟩) hS h2;have q:=h1 w' g;unfold Oper.quietAt at q;have n1:=fun f args w2=>(zd0 (P:=P) hpl a.eval w' w2).1 f args;have n2:=fun w2=>(zd0 (P:=P) hpl a.eval w' w2).2;generalize (execOp a.eval o).run P w'=r at q n1 n2;cases r with
  |halt y w2=>exact q.elim
  |ok m w2 =>
   cases m with
   |value u=>obtain⟨rfl,rfl⟩:=q;rfl
   |skip=>exact absurd rfl (n2 w2)
   |enter f args=>exact absurd rfl (n1 f args w2)
   |_=>exact q.elim
 ·have hw' : Region.wanted o (yielded l.toArray a.tmps)=false:=by simpa using hw
  rw[if_neg hw] at h;exact ztz hi' (Region.noSelect_spec hB1) (fun c a w h=>(h:False).elim) hB4 hB5 hB7 hB8 (fun listed a w h=>seqB_ready h.1) fuel listed a w (zf0 hB6) (Region.free_spec hi' hB3) (by simpa using hB2) (.inr ⟨hw',rfl⟩) hS h
theorem Uq {l : List Oper}{n fuel : Nat}{listed : Array Bool}{a : Act}{w : World}(i : Nat){o : Oper}(h : wpQuiet P l.toArray S (fun a'=>zda P .any l.toArray (Nrm Q) S n (TL P Q l n) fuel (listed.setIfInBounds i true) a' w) [o] a)(h0 : listed.getD i true=false:=by rfl)(hi : pickN l i=some o:=by rfl)(hB : takeT l.toArray n listed i=true:=by decide +kernel)(hp : zef o.op=true∨Region.wanted o (yielded l.toArray a.tmps)=false:=by first|exact Or.inl rfl|exact Or.inr rfl)(hS : S w:=by first|exact trivial|exact za gw|exact hC _ gw|exact hC _ _ gw|exact hC _ _ _ gw|exact hC _ _ gw (by first|exact hbx13 _|exact hbx9|exact hbx0 _ gw)): zda P .any l.toArray (Nrm Q) S n (TL P Q l n) (fuel+1) listed a w:=z1g i hi hB hp hS h
def wpAtU (P : Program)(l : List Oper)(Q : Exit→Act→World→Prop)(S : World→Prop)(n fuel : Nat)(listed : Array Bool)(a : Act)(w : World)(i : Nat): Prop :=
 ∃ o,pickN l i=some o∧∀ K:Act→World→Prop,(∀ a' w'',S w''→zda P .any l.toArray (Nrm Q) S n (TL P Q l n) fuel (listed.setIfInBounds i true) a' w''→K a' w'')→wpList P l.toArray (Qn K (Nrm Q)) [o] a w
def zq5 (P : Program)(l : List Oper)(Q : Exit→Act→World→Prop)(S : World→Prop)(n fuel : Nat)(listed : Array Bool)(a : Act)(w : World): List Nat→Prop
 |[]=>True
 |[i]=>wpAtU P l Q S n fuel listed a w i
 |i::is=>wpAtU P l Q S n fuel listed a w i∧zq5 P l Q S n fuel listed a w is
theorem zmy {l : List Oper}{n fuel : Nat}{listed : Array Bool}{a : Act}{w : World}: ∀ {is : List Nat},zq5 P l Q S n fuel listed a w is→∀ i∈is,wpAtU P l Q S n fuel listed a w i
 |[],_,i,hi=>by cases hi
 |[j],h,i,hi=>by simp at hi;subst hi;exact h
 |j::k::is,h,i,hi=>by
  rcases List.mem_cons.1 hi with rfl|hi
  ·exact h.1
  ·exact zmy h.2 i hi
def zxe (ops : Array Oper)(listed : Array Bool)(n : Nat)(is : List Nat): Bool:=zly ops listed is&&is.all fun i=>decide (i<n)
theorem U_any {l : List Oper}{n fuel : Nat}{listed : Array Bool}{a : Act}{w : World}(is : List Nat)(hB : zxe l.toArray listed n is=true)(h : zq5 P l Q S n fuel listed a w is): zda P .any l.toArray (Nrm Q) S n (TL P Q l n) (fuel+1) listed a w:=by
 have hB:(is≠[]∧Region.ready .any l.toArray listed=is)∧∀ i∈is,i<n:=by simpa[zxe,zly] using hB
 refine⟨by rw[hB.1.2];exact hB.1.1,fun j hj=>?_⟩;rw[hB.1.2] at hj;refine⟨hB.2 j hj,?_⟩;obtain⟨o,hi,h⟩:=zmy h j hj;exact zer ((zcw l j).trans hi) (h _ fun a' w'' q1 q2=>⟨q1,q2⟩)
theorem z29 {l : List Oper}{n : Nat}{listed : Array Bool}{a : Act}{w : World}(hB : Region.seqB .any l.toArray (l.length - n) n listed=true)
  (h:∀ K:Act→World→Prop,(∀ a' w'',Q .normal a' w''→K a' w'')→wpList P l.toArray (Qn K (Nrm Q)) (l.drop n) a w):zda P .any l.toArray (Nrm Q) S n (TL P Q l n) 0 listed a w :=
 ⟨hB,zn9 h⟩
theorem zsr {l : List Oper}{id : Nat}{a : Act}{w : World}(S : World→Prop)(N n : Nat)(hm : P.follows .mixedOrders=true)(hn : l.length=N)(hle : n≤N)(h : zda P .any l.toArray (Nrm Q) S n (TL P Q l n) n (Array.replicate N false) a w.drew): (Code.region id l.toArray true).wp P Q a w:=by
 refine Code.wp_mono Nrm.imp (wp_region_any hm ?_);have hdl:(l.drop n).length=l.length - n:=by simp
 subst hn;have h2:=zmx (P:=P) (md:=.any) (Q:=Nrm Q) (S:=S) (g:=l.length - n) (fun listed a' w' (hL:TL P Q l n listed a' w')=>by
  have:=wpAny_of_seq (P:=P) (md:=.any) (Q':=Nrm Q) (l.drop n) n listed a' w' (fun j=>by simp[List.getElem?_drop]) (by rw[hdl];exact hL.1) hL.2
  rwa[hdl] at this) n (Array.replicate l.length false) a w.drew h
 rw[show n+(l.length - n)=l.length by omega] at h2;simpa using h2
end
theorem z1h (n m N : Nat)(M : Nat→Nat→Bool): ((rL (n+m) N M).drop n).take m=rL m N (fun k=>M (n+k)):=by
 apply List.ext_getElem?;intro i;by_cases hi:i<m
 ·rw[List.getElem?_take_of_lt hi,List.getElem?_drop,zh6 M om,zh6 (fun k=>M (n+k)) hi]
 ·rw[List.getElem?_eq_none (by rw[List.length_take];omega),List.getElem?_eq_none (by rw[zaz];omega)]
theorem zxf {A : World}{o o' : Obj}{x y z : Ext}{b : Nat}(hb : b≠A.heap.size): (ext (ext (ext (A.alloc o') x) y) z).heap[b]?=(ext (ext (ext (A.alloc o) x) y) z).heap[b]?:=by
 rw[zaa,zaa,zaa,zaa];exact zb3 hb
theorem zxg {A : World}{o o' : Obj}{x y z u : Ext}{b : Nat}(hb : b≠A.heap.size): (ext (ext (ext (ext (A.alloc o') x) y) z) u).heap[b]?=(ext (ext (ext (ext (A.alloc o) x) y) z) u).heap[b]?:=by
 rw[zaa,zaa,zaa,zaa,zaa,zaa];exact zb3 hb
theorem zxh {A : World}{o o' : Obj}{x y z u v : Ext}{b : Nat}(hb : b≠A.heap.size): (ext (ext (ext (ext (ext (A.alloc o') x) y) z) u) v).heap[b]?=(ext (ext (ext (ext (ext (A.alloc o) x) y) z) u) v).heap[b]?:=by
 rw[zaa,zaa,zaa,zaa,zaa,zaa,zaa,zaa];exact zb3 hb
theorem Sl.turnF {α : Type}[Rp α]{A : World}{o1 o2 o3 o2' o3' : Obj}{x y z u q : Ext}{v : Value}{xs : List α}{G : Nat→Prop}(h : Sl G (ext (ext (ext (ext (ext (((A.alloc o1).alloc o2).alloc o3) x) y) z) u) q) v xs)(hG : ∀ b,G b→A.heap.size+3≤b):
  Sl (Fresh A) (ext (ext (ext (ext (ext (((A.alloc o1).alloc o2').alloc o3') x) y) z) u) q) v xs:=by
 have k:Sl G (ext (ext (ext (ext (ext (((A.alloc o1).alloc o2').alloc o3') x) y) z) u) q) v xs:=h.keep fun b hb _=>by
  rw[zaa,zaa,zaa,zaa,zaa,zaa,zaa,zaa];exact zf2 (hG b hb)
 exact k.wide fun b _ hb=>Or.inr (by have:=hG b hb;omega)
theorem z3a : SlT Tryz.prog 244 74 1 24:=SlT.mk' (z:=.slice none 0 0) Tryz.underlying244 (by kernel_rfl) rfl om
theorem z3b : SlT Tryz.prog 127 131 1 4:=SlT.mk' (z:=.int .u32 0) Tryz.underlying127 (by kernel_rfl) rfl om
theorem z3c {α : Type}(i : Nat)(NX : Nat→α)(L : α): (List.range (i+1)).map (up NX i L)=(List.range i).map NX++[L]:=by
 rw[List.range_succ,List.map_append,List.map_singleton,zm];congr 1
 exact List.map_congr_left fun q hq=>up_ne _ _ (by have:=List.mem_range.1 hq;omega)
theorem z1i (i : Nat)(M : Nat→Nat→Bool): mL (i+1) M=mL i M++[⟨M i⟩]:=by
 unfold mL;rw[List.range_succ,List.map_append,List.map_singleton]
theorem Tw.keepw {α β : Type}[Rp α][Rp β]{base : Nat}{e1 e2 : TypeId}{w w' : World}{v1 v2 : Value}{xs : List α}{ys : List β}(h : Tw base e1 e2 w v1 xs v2 ys)(g : ∀ k,base≤k→k<w.heap.size→w'.heap[k]?=w.heap[k]?)(hs : w.heap.size≤w'.heap.size): Tw base e1 e2 w' v1 xs v2 ys:=by
 obtain⟨G1,G2,h1,h2,h3,h4⟩:=h;have k1:∀ k,G1 k→base≤k:=fun k hk=>by obtain⟨_,hG,_⟩:=h1;exact(hG k hk).2.1
 have k2:∀ k,G2 k→base≤k:=fun k hk=>by obtain⟨_,hG,_⟩:=h2;exact(hG k hk).2.1
 have l1:=fun k e=>(h1.lt k e).1;have l2:=fun k e=>(h2.lt k e).1;exact⟨G1,G2,h1.keep (fun k hk hlt=>g k (by rcases hk with hk|hk;exact k1 k hk;exact l1 k hk) hlt) hs,h2.keep (fun k hk hlt=>g k (by rcases hk with hk|hk;exact k2 k hk;exact l2 k hk) hlt) hs,h3,h4⟩
theorem zmz : OpnOk:=by
 intro f v1 v2 w F F' hf h1 h2 hok;obtain⟨a,n,cap,rfl,Hn,hm,hcap,hcm,h1⟩:=h1.open;obtain⟨a2,n2,cap2,rfl,Hn2,hm2,hcap2,hcm2,h2⟩:=h2.open;have Hok:=Lib.hid hok;have hok' : (fnErr f != 0)=false:=by simp[hok]
 have hN6:=zp hok;have hN1:=zah hok;have Hl6:Hid ((zi f).length≤600):=Lib.hid (Nat.le_trans (zas f _) hN6);have Hlen:=Lib.hid (zde f);have Hrn:Hid (regsN f=n+(zi f).length):=Lib.hid (by unfold regsN;rw[Hn.out]);have Hre:=Lib.hid fun (w':World) (k1:Sl F w' (.slice a n cap) f.locals) (k2:Sl F' w' (.slice a2 n2 cap2) f.blocks)=>zpb zsp zso f _ _ w' hf k1 k2 Hok.out;clear hok;go_enter Tryz.func195,Tryz.ntmps195
 go_upto_region 5 with (first|(go_at_call 219;((with_reducible refine armT (Hre.out _ h1.m h2.m) ?_);intro a5 n5 cap5 x5 Hn5 hm5 hcap5 hcm5 hs5)))
 have Hn5' : Hid (n5=n+(zi f).length):=Lib.hid (by rw[Hn5.out,zaz,Hrn.out]);have hn16:n≤16:=by rw[Hn.out];exact(zt Hok.out).2.2
 have hn1:1≤n:=by rw[Hn.out];exact(zcc Hok.out).2.1
 have hnn5:n≤n5:=by rw[Hn5'.out];omega
 obtain⟨g5,o5,rfl,hgl5⟩:=hs5.addr om;go_upto_region 6 with fail;obtain⟨ra,Hra⟩:∃ ra,Hid ((if cap5=n then some (⟨g5,o5,none⟩:Addr) else some ⟨g5,o5+n,none⟩)=ra):=⟨_,Lib.hid rfl⟩
 obtain⟨rl,Hrl⟩:∃ rl,Hid (n5 - n=rl):=⟨_,Lib.hid rfl⟩
 obtain⟨rc,Hrc⟩:∃ rc,Hid (cap5 - n=rc):=⟨_,Lib.hid rfl⟩
 rw[Hra.out,Hrl.out,Hrc.out];have Hrl2:Hid (rl=(zi f).length):=Lib.hid (by rw[←Hrl.out,Hn5'.out];omega);have hrv:∀ {G:Nat→Prop} {w' : World},Sl G w' (.slice (some ⟨g5,o5,none⟩) n5 cap5) (rL (regsN f) (zb f) (regB f))→Sl G w' (.slice ra rl rc) (rL (zi f).length (zb f) (rgF f)):=fun {G w'} h=>by
  have e1:rL (zi f).length (zb f) (rgF f)=((rL (regsN f) (zb f) (regB f)).drop n).take (n5 - n):=by
   rw[Hrn.out,Hrl.out,Hrl2.out,z1h];rw[Hn.out];rfl
  have h2:=h.sub n (n5 - n) om;rw[←e1] at h2;rw[←Hra.out,←Hrc.out,←Hrl.out];by_cases e:cap5=n
  ·rw[if_pos e];have e3:n5 - n=0:=om;have e4:rL (zi f).length (zb f) (rgF f) = []:=by
    apply List.eq_nil_of_length_eq_zero;rw[zaz,←Hrl2.out,←Hrl.out,e3]
   rw[e4,e3];exact⟨_,_,rfl,Nat.zero_le _,by omega,(fun h=>by cases h),fun i hi=>by simp at hi⟩
  ·rw[if_neg e];rw[show Rp.sz (List Bool)=1 from rfl,Nat.mul_one] at h2;exact h2
 have Hrv:=Lib.hid (hrv hs5);clear hrv;go_upto_region 10 with (first|(go_at_call 165;((with_reducible refine armT (zjt f _ _ _ hf h1.m h2.m Hok.out) ?_);intro a6 n6 cap6 x6 Hn6 hm6 hcap6 hcm6 hs6)))
 have hn6:n6≤600:=by rw[Hn6.out];exact Hl6.out
 go_loopw [50] (fun ti wr=>∃ (k:Nat) (kv:Value),k≤n6∧ti = .int .i64 k∧Grow (ext (ext (((w.alloc (bxFn f (.slice a n cap) (.slice a2 n2 cap2))).alloc (.cells #[.slice none 0 0,.slice none 0 0,.slice none 0 0,.slice none 0 0,.slice none 0 0] 246)).alloc (.cells #[Value.slice none 0 0,Value.slice none 0 0,.slice a6 n6 cap6,.slice ra rl rc,kv] 246)) x5) x6) wr∧Own (fun _=>False) (w.heap.size+1+1+1+x5.k+x6.k) 66 wr kv (rL k (zb f) (KB f))) (fun ti _=>n6 - (intOf ti).toNat)
 case atStart=>exact⟨0,_,Nat.zero_le _,rfl,gw,Own.nil _ _ _ _⟩
 case round =>
  obtain⟨k,kv,hk,rfl,hgr,hown⟩:=hrel;obtain⟨z,rfl⟩:=za hgr;by_cases hlt:k<n6
  ·have hlk:k<(zi f).length:=by rw[←Hn6.out];exact hlt
   have hlen:(rL k (zb f) (KB f)).length=k:=zaz ..;have Hxk:=Lib.hid (List.getElem?_eq_getElem hlk);have Hs:Hid (rL (k+1) (zb f) (KB f)=rL k (zb f) (KB f)++[bL (zb f) (killB f (zi f)[k])]):=Lib.hid (by
    rw[ze8,show KB f k=killB f (zi f)[k] from by funext q;unfold KB;rw[Hxk.out]])
   have Hki:=Lib.hid fun (w':World) (k1:Sl F w' (.slice a n cap) f.locals) (k2:Sl F' w' (.slice a2 n2 cap2) f.blocks)=>zsq f _ _ w' hf k1 k2 Hok.out Hxk.out;go_wp2_with (first|(go_at_call 220;((with_reducible refine armT (Hki.out _ h1.m h2.m) ?_);intro a8 n8 cap8 x8 Hn8 hm8 hcap8 hcm8 hs8))|((at_builtin;go_must (refine zd3 zey rfl rfl rfl (hown) gw (by first|exact Nat.le_refl _|(simp;done)|(simp;omega)) (by first|exact Nat.le_refl _|(simp;done)|(simp;omega)) rfl (hs8) gw (by first|exact Nat.le_refl _|(simp;done)|(simp;omega)) cel om om ?_);intro tv9 x9 ho9 hsz9);obtain⟨ta9,tn9,tc9,rfl⟩:=ho9.shp));go_roundw
   case rel=>exact⟨k+1,_,by omega,by go_num,gw,by
    rw[Hs.out];exact ho9.keep (fun b hb _=>zxf (by
     rcases hb with hb|hb
     ·exact hb.elim
     ·simp;omega)) (by simp)⟩
   case measure=>exact me
  ·obtain rfl:n6=k:=om;obtain⟨z1,Hz1⟩:∃ z1,z1=z:=⟨_,rfl⟩
   subst Hz1;have Hkv:Hid (∀ k',kv.ownBlock=some k'→k'<(w.heap.size+1+1+1+x5.k+x6.k)+z1.k):=Lib.hid fun k' hk'=>by have:=(hown.row_lt k' hk').2;simpa using this
   go_upto_region 21 with (first|(go_at_call 120;((with_reducible refine armT (zbk f _ _ _ hf h1.m h2.m Hok.out) ?_);intro a10 n10 cap10 x10 Hn10 hm10 hcap10 hcm10 hs10)))
   have HN:Hid (n10=zb f):=Lib.hid (by rw[Hn10.out,Hlen.out]);have hn10:n10≤600:=by rw[HN.out];exact hN6
   clear hN6 hN1;go_loopw [81] (fun ti wr=>∃ (i:Nat) (nv uv:Value) (NX:Nat→List Int),i≤n10∧ti = .int .i64 i∧Grow (ext (ext (ext (ext (((w.alloc (bxFn f (.slice a n cap) (.slice a2 n2 cap2))).alloc (.cells #[.slice none 0 0,.slice none 0 0,.slice none 0 0,.slice none 0 0,.slice none 0 0] 246)).alloc (.cells #[nv,uv,.slice a6 n6 cap6,.slice ra rl rc,kv] 246)) x5) x6) z1) x10) wr∧Tw ((w.heap.size+1+1+1+x5.k+x6.k)+z1.k+x10.k) 74 131 wr nv ((List.range i).map NX) uv (mL i (fun q=>usesC (coF f q)))∧Hid (NxOk f NX i)) (fun ti _=>n10 - (intOf ti).toNat)
   case atStart=>exact⟨0,_,_,fun _=>[],Nat.zero_le _,rfl,gw,Tw.nil _ _ _ _,Lib.hid (fun q h=>absurd h (Nat.not_lt_zero _))⟩
   case round =>
    obtain⟨i,nv,uv,NX,hi,rfl,hgr2,htw,HNX⟩:=hrel;obtain⟨z2,rfl⟩:=za hgr2;by_cases hlti:i<n10
    ·have hs10w:=hs10.keep (w':=(ext (ext (ext (ext (((w.alloc (bxFn f (.slice a n cap) (.slice a2 n2 cap2))).alloc (.cells #[.slice none 0 0,.slice none 0 0,.slice none 0 0,.slice none 0 0,.slice none 0 0] 246)).alloc (.cells #[nv,uv,.slice a6 n6 cap6,.slice ra rl rc,kv] 246)) x5) x6) z1) x10)) (fun b hF hb=>zxg (by rcases hF with hF|hF;exact hF.elim;simp at hF ⊢;omega));obtain⟨b_pt,off_pt,pt,rfl,⟨Hg_pt,hl_pt,hw_pt,c_pt0,c_pt1,r_pt0⟩⟩:=hs10w.pt i hlti;have hiN:i<zb f:=by rw[←HN.out];exact hlti
     obtain⟨pb,pi,px,hp⟩:=PtAt.of hiN;obtain rfl:=pt_at Hg_pt hp;have Hnl:=Lib.hid (zjk (b:=pb) (i:=pi) (x:=px));have Hus:=Lib.hid fun (w':World) (k1:Sl F w' (.slice a n cap) f.locals) (k2:Sl F' w' (.slice a2 n2 cap2) f.blocks)=>zhq f _ _ w' hf k1 k2 Hok.out hiN;have hz2:=(hgr2.size)
     go_upto_region 28 with (first|(go_at_call 161;((with_reducible refine armT (zin f _ _ _ hf h1.m h2.m Hok.out hp.hb hp.hi) ?_);intro a13 n13 cap13 x13 Hn13 hm13 hcap13 hcm13 hs13)))
     have hn13:n13≤2:=by rw[Hn13.out];exact Hnl.out
     go_loopw [15,98] (fun xv tj wr=>∃ (j:Nat),j≤n13∧tj = .int .i64 j∧Grow (ext ((ext (ext (ext (ext (ext (((w.alloc (bxFn f (.slice a n cap) (.slice a2 n2 cap2))).alloc (.cells #[.slice none 0 0,.slice none 0 0,.slice none 0 0,.slice none 0 0,.slice none 0 0] 246)).alloc (.cells #[nv,uv,.slice a6 n6 cap6,.slice ra rl rc,kv] 246)) x5) x6) z1) x10) z2).alloc (.cells #[.int .i64 ((pb:Nat):Int),.int .i64 ((pi:Nat):Int)] 165)) x13) wr∧Own (fun _=>False) (w.heap.size+1+1+1+x5.k+x6.k+z1.k+x10.k+z2.k+1+x13.k) 3 wr xv (((nums f (nextS pb px pi)).take j).map fun r=>((r:Nat):Int))) (fun _ tj _=>n13 - (intOf tj).toNat)
     case atStart=>exact⟨0,Nat.zero_le _,rfl,gw,Own.nil _ _ _ _⟩
     case round =>
      obtain⟨j,hj,rfl,hgr3,hox⟩:=hrel;obtain⟨z3,rfl⟩:=za hgr3;by_cases hltj:j<n13
      ·obtain⟨b_pt8,off_pt8,pt8,rfl,⟨Hg_pt8,hl_pt8,hw_pt8,c_pt80,c_pt81,r_pt80⟩⟩:=hs13.pt j hltj;obtain⟨qb,qi,qx,rfl,hqb,hqi,hqn⟩:=zio Hok.out hp (List.mem_of_getElem? Hg_pt8.out);obtain⟨rn,Hrn2⟩:∃ rn,Hid (numF f (qb,qi)=rn):=⟨_,Lib.hid rfl⟩
       rw[Hrn2.out] at hqn;have hrN:rn<n10:=by rw[HN.out];exact(zar Hok.out hqn).2
       have Hnu:Hid (∀ w',Sl F w' (.slice a n cap) f.locals→Sl F' w' (.slice a2 n2 cap2) f.blocks→Calls Tryz.prog 162 #[f.v (.slice a n cap) (.slice a2 n2 cap2),(⟨(qb:Int),(qi:Int)⟩:Pt).v] w' (Ret w' (.tuple #[.int .i64 (rn:Nat),.int .i64 0]))):=Lib.hid fun w' k1 k2=>by
        have:=zgo f _ _ w' hf k1 k2 Hok.out hqb hqi
        rw[Hrn2.out] at this;exact this
       have Htk:Hid (((nums f (nextS pb px pi)).take (j+1)).map (fun r=>((r:Nat):Int))=((nums f (nextS pb px pi)).take j).map (fun r=>((r:Nat):Int))++[((rn:Nat):Int)]):=Lib.hid (by
        unfold nums;rw[←List.map_take,←List.map_take,List.take_add_one,Hg_pt8.out,List.map_append,List.map_append];simp only[Option.toList_some,List.map_cons,List.map_nil,Int.toNat_natCast];rw[Hrn2.out])
       have h64:I64 ((rn:Nat):Int):=⟨by omega,by omega⟩
       have hlj:(((nums f (nextS pb px pi)).take j).map fun r=>((r:Nat):Int)).length≤j:=by rw[List.length_map];exact List.length_take_le ..
       go_wp2_with (first|(go_at_call 162;((with_reducible refine armV (Hnu.out _ h1.m h2.m) ?_);intro x14))|(at_builtin;(refine zh (α:=Int) zau rfl rfl rfl (hox) gw (by first|exact Nat.le_refl _|(simp;done)|(simp;omega)) (by first|(simp;done)|(simp;omega)) rfl (y:=((rn:Nat):Int)) (Gy:=fun _=>False) (⟨rfl,h64⟩) (fun _ h=>h.elim) cel (by simp[Value.oneCell']) om om ?_);intro tv15 x15 ho15 hsz15 hagr15));go_roundw
       case rel=>exact⟨j+1,by omega,by go_num,gw,by rw[Htk.out];exact ho15⟩
       case measure=>exact me
      ·obtain rfl:n13=j:=om;obtain⟨xa,xn,xc,rfl⟩:=hox.shp;go_upto_region 38 with (first|(go_at_call 171;((with_reducible refine armV (Hus.out _ h1.m h2.m) ?_);intro x16)))
       obtain⟨L,HL⟩:∃ L,Hid (((nums f (nextS pb px pi)).map fun r=>((r:Nat):Int))=L):=⟨_,Lib.hid rfl⟩
       have hxL:Own (fun _=>False) (w.heap.size+1+1+1+x5.k+x6.k+z1.k+x10.k+z2.k+1+x13.k) 3 (ext (ext ((ext (ext (ext (ext (ext (((w.alloc (bxFn f (.slice a n cap) (.slice a2 n2 cap2))).alloc (.cells #[.slice none 0 0,.slice none 0 0,.slice none 0 0,.slice none 0 0,.slice none 0 0] 246)).alloc (.cells #[nv,uv,.slice a6 n6 cap6,.slice ra rl rc,kv] 246)) x5) x6) z1) x10) z2).alloc (.cells #[.int .i64 ((pb:Nat):Int),.int .i64 ((pi:Nat):Int)] 165)) x13) z3) (.slice xa xn xc) L:=by
        rw[List.take_of_length_le (by unfold nums;rw[List.length_map,←Hn13.out];exact Nat.le_refl _),HL.out] at hox;exact hox
       have hxs:Sl (fun k=>(w.heap.size+1+1+1+x5.k+x6.k+z1.k+x10.k+z2.k+1+x13.k)≤k∧k<(w.heap.size+1+1+1+x5.k+x6.k+z1.k+x10.k+z2.k+1+x13.k)+z3.k) (ext (ext ((ext (ext (ext (ext (ext (((w.alloc (bxFn f (.slice a n cap) (.slice a2 n2 cap2))).alloc (.cells #[.slice none 0 0,.slice none 0 0,.slice none 0 0,.slice none 0 0,.slice none 0 0] 246)).alloc (.cells #[nv,uv,.slice a6 n6 cap6,.slice ra rl rc,kv] 246)) x5) x6) z1) x10) z2).alloc (.cells #[.int .i64 ((pb:Nat):Int),.int .i64 ((pi:Nat):Int)] 165)) x13) z3) (.slice xa xn xc) L:=hxL.sl.wide (fun b hb hF=>by
        rcases hF with hF|hF
        ·exact hF.elim
        ·exact⟨hF,by simpa using hb⟩)
       have hown:(∀ k,nv.ownBlock=some k→k<(w.heap.size+1+1+1+x5.k+x6.k)+z1.k+x10.k+z2.k)∧(∀ k,uv.ownBlock=some k→k<(w.heap.size+1+1+1+x5.k+x6.k)+z1.k+x10.k+z2.k):=⟨fun k e=>by have:=(htw.lt.1 k e).2;simpa using this,fun k e=>by have:=(htw.lt.2 k e).2;simpa using this⟩
       have hnv:∀ k,(w.heap.size+1+1+1+x5.k+x6.k+z1.k+x10.k+z2.k+1+x13.k)≤k→nv.ownBlock≠some k:=fun k hk e=>by have:=hown.1 k e;omega
       have huv:∀ k,(w.heap.size+1+1+1+x5.k+x6.k+z1.k+x10.k+z2.k+1+x13.k)≤k→uv.ownBlock≠some k:=fun k hk e=>by have:=hown.2 k e;omega
       have hl1:((List.range i).map NX).length=i:=by simp
       have hl2:(mL i (fun q=>usesC (coF f q))).length=i:=zgl ..;clear hox hown;have HLN:Hid (NxOk f (up NX i L) (i+1)):=Lib.hid (fun q hq=>by
        by_cases e:q=i
        ·subst e;rw[zm,←HL.out];refine⟨by rw[List.length_map];unfold nums;rw[List.length_map];exact Hnl.out,fun x hx=>?_,fun r hr=>List.mem_map.2 ⟨r,zle Hok.out hp hr,rfl⟩⟩;obtain⟨r,hr,rfl⟩:=List.mem_map.1 hx;unfold nums at hr;obtain⟨p8,hp8,rfl⟩:=List.mem_map.1 hr;obtain⟨qb,qi,qx,rfl,hqb,hqi,hqn⟩:=zio Hok.out hp hp8;exact⟨_,rfl,by simpa using hqn⟩
        ·rw[up_ne _ _ e];exact HNX.out q om)
       (refine zsr (fun w'=>∃ q:Ext,w'=ext (ext (ext (ext (ext (((w.alloc (bxFn f (.slice a n cap) (.slice a2 n2 cap2))).alloc (.cells #[.slice none 0 0,.slice none 0 0,.slice none 0 0,.slice none 0 0,.slice none 0 0] 246)).alloc (.cells #[nv,uv,.slice a6 n6 cap6,.slice ra rl rc,kv] 246)) x5) x6) z1) x10) q) 14 11 (by kernel_rfl) (by rfl) (by decide) ?_;((iterate 6 ((first|refine Uq 0 ?_|refine Uq 1 ?_|refine Uq 2 ?_|refine Uq 5 ?_|refine Uq 6 ?_|refine Uq 7 ?_);(first|go_big_quiet_step (fail)|(refine wpQuiet_step (fun K hK=>?_);go_simp;split<;>(refine hK _ ?_;clear hK K)));refine wpQuiet_nil ?_));(repeat (any_goals (first|(refine Uq 10 ?_;(first|go_big_quiet_step (fail)|(refine wpQuiet_step (fun K hK=>?_);go_simp;split<;>(refine hK _ ?_;clear hK K)));refine wpQuiet_nil ?_)|((first|(refine U_any [3,8] (by decide +kernel) ?_;refine⟨?_,?_⟩)|(refine U_any [4,8] (by decide +kernel) ?_;refine⟨?_,?_⟩)|(refine U_any [3] (by decide +kernel) ?_)|(refine U_any [8] (by decide +kernel) ?_)|(refine U_any [4] (by decide +kernel) ?_)|(refine U_any [9] (by decide +kernel) ?_))<;>(refine⟨_,rfl,fun K hK=>?_⟩;go_wp2_with (first|(at_builtin;refine zg9 (α:=List Int) (β:=Mk) (W0:=(ext (ext (ext (ext (((w.alloc (bxFn f (.slice a n cap) (.slice a2 n2 cap2))).alloc (.cells #[.slice none 0 0,.slice none 0 0,.slice none 0 0,.slice none 0 0,.slice none 0 0] 246)).alloc (.cells #[nv,uv,.slice a6 n6 cap6,.slice ra rl rc,kv] 246)) x5) x6) z1) x10)) z3a rfl rfl rfl (htw.mono gw) gw (by first|exact Nat.le_refl _|(simp;done)|(simp;omega)) (by first|(simp;done)|(simp;omega)) rfl (y:=L) (cs:=[.slice xa xn xc]) (Gy:=fun k=>(w.heap.size+1+1+1+x5.k+x6.k+z1.k+x10.k+z2.k+1+x13.k)≤k∧k<(w.heap.size+1+1+1+x5.k+x6.k+z1.k+x10.k+z2.k+1+x13.k)+z3.k) ⟨xa,xn,xc,rfl,hxs.mono gw⟩ (fun k hk=>⟨by omega,by simp;omega,hnv k hk.1,huv k hk.1⟩) cel rfl om om ?_;intro v8 x8 htw8 hg8 hv8;have hc8:=fun (b:Nat) (v:Value) (hb:(w.heap.size+1+1+1+x5.k+x6.k+z1.k+x10.k+z2.k+1+x13.k)≤b) (hc:World.cell? _ ⟨b,0,none⟩=some v)=>(World.cell?_of_block (a:=⟨b,0,none⟩) (hg8.block b (World.block_lt_of_cell? _ _ hc) (fun e=>hnv b hb e.symm))).trans hc;obtain⟨ta8,tn8,tc8,rfl⟩:=htw8.own1.shp)|(at_builtin;refine zg9 (α:=Mk) (β:=List Int) (W0:=(ext (ext (ext (ext (((w.alloc (bxFn f (.slice a n cap) (.slice a2 n2 cap2))).alloc (.cells #[.slice none 0 0,.slice none 0 0,.slice none 0 0,.slice none 0 0,.slice none 0 0] 246)).alloc (.cells #[nv,uv,.slice a6 n6 cap6,.slice ra rl rc,kv] 246)) x5) x6) z1) x10)) z3b rfl rfl rfl (htw8.swap.mono gw) gw (by first|exact Nat.le_refl _|(simp;done)|(simp;omega)) (by first|(simp;done)|(simp;omega)) rfl (y:=(⟨usesC (coF f i)⟩:Mk)) (cs:=[.int .u32 (mk (usesC (coF f i)))]) (Gy:=fun _=>False) rfl (fun k hk=>hk.elim) (by refine zad.cons ?_ (zad.nil _ _ _);first|(go_simp;done)|(refine hc8 _ _ om ?_;go_simp;done)) rfl om om ?_;intro v9 x9 htw9 hg9 hv9;obtain⟨ta9,tn9,tc9,rfl⟩:=htw9.own1.shp));refine hK _ _ (za gw) ?_;clear hK K))))));all_goals (refine z29 (by decide +kernel) ?_;intro K hK;simp only[List.drop_succ_cons,List.drop_zero];go_wp2_with (fail);refine hK _ _ ?_;clear hK K))
       all_goals
        go_wp2_with fail;go_roundw
        case rel=>exact⟨i+1,_,_,up NX i L,by omega,by go_num,gw,by rw[z3c,z1i];exact htw9.swap.keepw (fun k hk _=>zxh (by simp;omega)) (by simp),HLN⟩
        case measure=>exact me
    ·obtain rfl:n10=i:=om;obtain⟨na,nn,nc,rfl⟩:=htw.own1.shp;obtain⟨ua,un,uc,rfl⟩:=htw.own2.shp;obtain⟨ka,kn,kc,rfl⟩:=hown.shp;go_wp2_with fail;refine zd (by simp only[results,Tryz.results195];go_simp<;>first|rfl|exact⟨rfl,rfl,rfl,rfl,rfl⟩) rfl gw ⟨_,_,_,_,_,rfl,?_⟩;have g1:=htw.own1.sl;have g2:=htw.own2.sl;have g5:=hown.sl;have q0:=Sl.turnF (o2':=(.cells #[.slice na nn nc,.slice ua un uc,.slice a6 n6 cap6,.slice ra rl rc,.slice ka kn kc] 246)) (o3':=(.cells #[.slice na nn nc,.slice ua un uc,.slice a6 n6 cap6,.slice ra rl rc,.slice ka kn kc] 246)) (g1) (fun b hb=>by rcases hb with hb|hb;exact hb.elim;omega);have q1:=Sl.turnF (o2':=(.cells #[.slice na nn nc,.slice ua un uc,.slice a6 n6 cap6,.slice ra rl rc,.slice ka kn kc] 246)) (o3':=(.cells #[.slice na nn nc,.slice ua un uc,.slice a6 n6 cap6,.slice ra rl rc,.slice ka kn kc] 246)) (g2) (fun b hb=>by rcases hb with hb|hb;exact hb.elim;omega);have k2:Grow (ext (ext (((w.alloc (bxFn f (.slice a n cap) (.slice a2 n2 cap2))).alloc (.cells #[.slice none 0 0,.slice none 0 0,.slice none 0 0,.slice none 0 0,.slice none 0 0] 246)).alloc (.cells #[.slice none 0 0,.slice none 0 0,.slice none 0 0,.slice ra rl rc,.slice none 0 0] 246)) x5) x6) (ext (ext (ext (ext (ext (((w.alloc (bxFn f (.slice a n cap) (.slice a2 n2 cap2))).alloc (.cells #[.slice none 0 0,.slice none 0 0,.slice none 0 0,.slice none 0 0,.slice none 0 0] 246)).alloc (.cells #[.slice none 0 0,.slice none 0 0,.slice none 0 0,.slice ra rl rc,.slice none 0 0] 246)) x5) x6) z1) x10) z2):=gw
     have q2:=Sl.turnF (o2':=(.cells #[.slice na nn nc,.slice ua un uc,.slice a6 n6 cap6,.slice ra rl rc,.slice ka kn kc] 246)) (o3':=(.cells #[.slice na nn nc,.slice ua un uc,.slice a6 n6 cap6,.slice ra rl rc,.slice ka kn kc] 246)) ((hs6).mono k2) (fun b hb=>by rcases hb with hb|hb;exact hb.elim;simp at hb;omega);have k3:Grow (ext (((w.alloc (bxFn f (.slice a n cap) (.slice a2 n2 cap2))).alloc (.cells #[.slice none 0 0,.slice none 0 0,.slice none 0 0,.slice none 0 0,.slice none 0 0] 246)).alloc (.cells #[.slice none 0 0,.slice none 0 0,.slice none 0 0,.slice none 0 0,.slice none 0 0] 246)) x5) (ext (ext (ext (ext (ext (((w.alloc (bxFn f (.slice a n cap) (.slice a2 n2 cap2))).alloc (.cells #[.slice none 0 0,.slice none 0 0,.slice none 0 0,.slice none 0 0,.slice none 0 0] 246)).alloc (.cells #[.slice none 0 0,.slice none 0 0,.slice none 0 0,.slice none 0 0,.slice none 0 0] 246)) x5) x6) z1) x10) z2):=gw;have q3:=Sl.turnF (o2':=(.cells #[.slice na nn nc,.slice ua un uc,.slice a6 n6 cap6,.slice ra rl rc,.slice ka kn kc] 246)) (o3':=(.cells #[.slice na nn nc,.slice ua un uc,.slice a6 n6 cap6,.slice ra rl rc,.slice ka kn kc] 246)) ((Hrv.out).mono k3) (fun b hb=>by rcases hb with hb|hb;exact hb.elim;simp at hb;omega);have k4:Grow (ext (ext (ext (((w.alloc (bxFn f (.slice a n cap) (.slice a2 n2 cap2))).alloc (.cells #[.slice none 0 0,.slice none 0 0,.slice none 0 0,.slice none 0 0,.slice none 0 0] 246)).alloc (.cells #[.slice none 0 0,.slice none 0 0,.slice a6 n6 cap6,.slice ra rl rc,.slice ka kn kc] 246)) x5) x6) z1) (ext (ext (ext (ext (ext (((w.alloc (bxFn f (.slice a n cap) (.slice a2 n2 cap2))).alloc (.cells #[.slice none 0 0,.slice none 0 0,.slice none 0 0,.slice none 0 0,.slice none 0 0] 246)).alloc (.cells #[.slice none 0 0,.slice none 0 0,.slice a6 n6 cap6,.slice ra rl rc,.slice ka kn kc] 246)) x5) x6) z1) x10) z2):=gw
     have q4:=Sl.turnF (o2':=(.cells #[.slice na nn nc,.slice ua un uc,.slice a6 n6 cap6,.slice ra rl rc,.slice ka kn kc] 246)) (o3':=(.cells #[.slice na nn nc,.slice ua un uc,.slice a6 n6 cap6,.slice ra rl rc,.slice ka kn kc] 246)) ((g5).mono k4) (fun b hb=>by rcases hb with hb|hb;exact hb.elim;omega);have HNe:=Lib.hid HN.out.symm;refine⟨⟨NX,?_,?_⟩,?_,?_,?_,?_⟩
     ·rw[HNe.out];exact HNX.out
     ·rw[HNe.out];exact q0.mono gw
     ·rw[HNe.out];exact q1.mono gw
     ·exact q2.mono gw
     ·exact q3.mono gw
     ·rw[←Hn6.out];exact q4.mono gw
theorem zno (p : Pr)(pv : Value)(o : Int)(w : World){F : Nat→Prop}(hpw : p.wf)(hp : Sl F w pv p.funcs)(ho : U8 o):
  Calls Tryz.prog 3 #[p.v pv,.int .u8 o] w (Ret w (.bool true)):=by
 have h1:=ho.1;have h2:=ho.2;obtain⟨n,rfl⟩:=Int.eq_ofNat_of_zero_le h1;exact zo6 (zxc (zxd zmz) (zu7 zmz)) p pv n w hp om
end Go.Proofs.YtacmoaeglbggjaaGreat
