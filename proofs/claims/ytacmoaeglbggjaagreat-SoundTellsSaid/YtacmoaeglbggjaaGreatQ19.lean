/- A part of the proof. -/
import Derived.Test.YtacmoaeglbggjaaGreatQ18
namespace Go.Proofs.YtacmoaeglbggjaaGreat
open Go.RowKit
set_option linter.unusedSimpArgs false
set_option linter.unusedVariables false
set_option maxRecDepth 100000
set_option maxHeartbeats 16000000
section
variable {P : Program} {ops : Array Oper} {md : Region.Mode} {C : World → Prop}
def headQ (P : Program)(md : Region.Mode)(ops : Array Oper)(C : World→Prop)(n : Nat)(L : Array Bool→Act→Prop): Nat→Array Bool→Act→Prop
 |0,listed,a=>L listed a
 |f+1,listed,a=>Region.ready md ops listed≠[]∧∀ i∈Region.ready md ops listed,i<n∧qOp P ops C i (headQ P md ops C n L f (listed.setIfInBounds i true)) a
theorem zki {n g : Nat}{L : Array Bool→Act→Prop}{Q : Exit→Act→World→Prop}(hL : ∀ listed a w,C w→L listed a→wpAny P md ops Q g listed a w):
  ∀ (f:Nat) (listed:Array Bool) (a:Act) (w:World),C w→headQ P md ops C n L f listed a→wpAny P md ops Q (f+g) listed a w
 |0,_,_,_,hw,h=>by rw[Nat.zero_add];exact hL _ _ _ hw h
 |f+1,listed,a,w,hw,h=>by
  rw[show f+1+g=(f+g)+1 by omega];exact⟨fun h0=>absurd h0 h.1,fun i hi=>wpOp_of_qOp hw (fun a' w' hw' h'=>zki hL f _ a' w' hw' h') (h.2 i hi).2⟩
theorem zrt {n i : Nat}{oi : Oper}{v : Value}{L : Array Bool→Act→Prop}(hi : ops[i]?=some oi)(hsel : ∀ (j : Nat) (o : Oper) cs b,ops[j]?=some o→o.op≠.select cs b)
  (hs:Region.sinkB md ops n=true) (hc:Region.chainB md ops n=true) (hn:n<ops.size) (hin:i<n)
  (hdone:∀ listed a,L listed a→∀ j∈Region.ready md ops listed,n≤j) :
  ∀ (f:Nat) (listed:Array Bool) (a:Act),HeadInv md ops n listed →
   (∀ j oj,ops[j]?=some oj→j≠i→listed.getD j true=false→(∀ e∈oj.after,Region.binds md e=true→e.on≠i)→oi.apart ops oj=true) →
   i∈Region.ready md ops listed→YieldsIn P ops C oi v a →
   headQ P md ops C n L f (listed.setIfInBounds i true) (a.put oi.dst v)→headQ P md ops C n L (f+1) listed a:=by
 intro f;induction f with
 |zero =>
  intro listed a inv _ hr hy H;have hun:=(mem_ready.1 hr).1;refine⟨fun h=>(by rw[h] at hr;cases hr),fun j hj=>?_⟩;have hjn:j<n:=by
   by_cases h:j<n
   ·exact h
   ·exact absurd hj (tail_waits hs hc hn inv _ i rfl hin hun j om)
  refine⟨hjn,?_⟩;by_cases hji:j=i
  ·subst hji;exact hy.qOp hi H
  ·have:=hdone _ _ H j (ready_mono hj hji)
   omega
 |succ f ih =>
  intro listed a inv hfree hr hy H;have hun:=(mem_ready.1 hr).1;refine⟨fun h=>(by rw[h] at hr;cases hr),fun j hj=>?_⟩;have hjn:j<n:=by
   by_cases h:j<n
   ·exact h
   ·exact absurd hj (tail_waits hs hc hn inv _ i rfl hin hun j om)
  refine⟨hjn,?_⟩;by_cases hji:j=i
  ·subst hji;exact hy.qOp hi H
  ·have h1:=(H.2 j (ready_mono hj hji)).2;obtain⟨hjun,oj,hoj,hall⟩:=mem_ready.1 hj;have hnot:∀ e∈oj.after,Region.binds md e=true→e.on≠i:=fun e he hb heq=>by
    have h3:=hall e he hb;rw[heq,getD_both hun] at h3;cases h3
   have h2:=qOp_put hoj (hfree j oj hoj hji hjun hnot) (fun cs b=>hsel i oi cs b hi) (fun cs b=>hsel j oj cs b hoj) hy h1;have hfree' : ∀ k ok,ops[k]?=some ok→k≠i→(listed.setIfInBounds j true).getD k true=false →
     (∀ e∈ok.after,Region.binds md e=true→e.on≠i)→oi.apart ops ok=true:=fun k ok hk hki hu hno=>by
    refine hfree k ok hk hki ?_ hno;by_cases hjk:j=k
    ·subst hjk;exact hjun
    ·rw[getD_set_ne true hjk] at hu;exact hu
   refine qOp_mono (fun a' h3=>ih (listed.setIfInBounds j true) a' (inv.set hj hjn) hfree' (ready_mono hr (Ne.symm hji)) h3.1 ?_) h2;rw[Array.setIfInBounds_comm _ _ hji];exact h3.2
theorem zob {n g : Nat}{Lq : Act→Prop}(hsel : Region.noSelect ops=true)(hs : Region.sinkB md ops n=true)(hc : Region.chainB md ops n=true)(hn : n<ops.size):
  ∀ (l:List Oper) (k:Nat) (listed:Array Bool) (a:Act),(∀ j,j<l.length→l[j]?=ops[k+j]?)→k+l.length=n→HeadInv md ops n listed →
  Region.lexHead md ops g l.length k listed=true→wpQuiet P ops C Lq l a →
  headQ P md ops C n (fun listed' a'=>Region.seqB md ops g n listed'=true∧Lq a') l.length listed a
 |[],k,listed,a,_,hk,_,hB,h=>by
  obtain rfl:k=n:=by simpa using hk
  exact⟨by simpa[Region.lexHead] using hB,h⟩
 |o::l,k,listed,a,hl,hk,inv,hB,h=>by
  have h0:ops[k]?=some o:=by simpa using (hl 0 (by simp)).symm
  simp only[List.length_cons,Region.lexHead,Bool.and_eq_true] at hB;obtain⟨⟨hr,hf⟩,hB'⟩:=hB;have hkn:k<n:=by simp only[List.length_cons] at hk;omega
  have hr' : k∈Region.ready md ops listed:=by simpa using hr
  have hst:qOp P ops C k (wpQuiet P ops C Lq l) a:=by unfold qOp;simp only[h0];exact h
  obtain⟨v,hy,hK⟩:=yieldsIn_of_qOp h0 hst;exact zrt h0 (Region.noSelect_spec hsel) hs hc hn hkn (fun listed' a' hL=>seqB_ready hL.1) l.length listed a inv (Region.free_spec h0 hf) hr' hy
   (zob hsel hs hc hn l (k+1) _ _ (fun j hj=>by have:=hl (j+1) (by simp;omega);simpa[Nat.add_assoc,Nat.add_comm 1 j] using this) (by simp only[List.length_cons] at hk;omega) (inv.set hr' hkn) hB' hK)
theorem zil {id : Nat}{Q : Exit→Act→World→Prop}{a : Act}{w : World}{l : List Oper}(n : Nat)(hm : P.follows .mixedOrders=true)(hB : Region.lexTailB .any l.toArray n=true)(hC : C { w with drawn:=w.drawn+1 })
  (h:wpQuiet P l.toArray C (fun a'=>∀ w',C w'→wpList P l.toArray Q (l.drop n) a' w') (l.take n) a):(Code.region id l.toArray true).wp P Q a w:=by
 simp only[Region.lexTailB,Bool.and_eq_true,decide_eq_true_eq] at hB;obtain⟨⟨⟨⟨hsel,hn⟩,hs⟩,hc⟩,hlex⟩:=hB;have hn' : n<l.length:=by simpa using hn
 have htl:(l.take n).length=n:=by simp;omega
 have hdl:(l.drop n).length=l.toArray.size - n:=by simp
 have inv0:HeadInv .any l.toArray n (Array.replicate l.toArray.size false) :=
  ⟨by simp,fun j oj _ hl=>(by rw[getD_replicate_false] at hl;cases hl),fun t _ ht=>getD_in (by simpa using ht) (getD_replicate_false _ _)⟩
 have H:=zob (md:=.any) (C:=C) (g:=l.toArray.size - n) hsel hs hc hn (l.take n) 0 _ a (fun j hj=>by
  have hj' : j<n:=by rw[htl] at hj;exact hj
  simp[hj']) (by simpa using htl) inv0 (by rw[htl];exact hlex) h
 refine wp_region_any hm ?_;have:=zki (Q:=Q) (g:=l.toArray.size - n) (fun listed a' w' hw' hL=>by
  have:=wpAny_of_seq (md:=.any) (Q':=Q) (l.drop n) n listed a' w' (fun j=>by simp[List.getElem?_drop]) (by rw[hdl];exact hL.1) (hL.2 w' hw')
  rwa[hdl] at this) _ _ _ _ hC H
 rw[htl,show n+(l.toArray.size - n)=l.toArray.size by omega] at this;exact this
end
theorem zjc {P : Program}{id : Nat}{Q : Exit→Act→World→Prop}{a : Act}{w : World}{l : List Oper}(n : Nat)(hm : P.follows .mixedOrders=true)(hB : Region.lexTailB .any l.toArray n=true)
  (h:wpQuiet P l.toArray (fun w'=>∃ x,w'=ext w x) (fun a'=>∀ w',Grow w w'→wpList P l.toArray Q (l.drop n) a' w') (l.take n) a):(Code.region id l.toArray true).wp P Q a w :=
 zil (C:=fun w'=>∃ x,w'=ext w x) n hm hB (za (Grow.refl w).drew) (by
  have e:(fun a'=>∀ w',(∃ x,w'=ext w x)→wpList P l.toArray Q (l.drop n) a' w')=(fun a'=>∀ w',Grow w w'→wpList P l.toArray Q (l.drop n) a' w'):=by
   funext a';refine propext ⟨fun k w' g=>k w' (za g),fun k w' ⟨x,hx⟩=>k w' (hx ▸ zw w x)⟩
  rw[e];exact h)
theorem zl1 (p : Pl)(w : World): Calls Tryz.prog 184 #[p.v] w (Ret w (.agg #[.bool (p.field != 2),.bool (p.field != 1)])):=by
 go_enter Tryz.func184,Tryz.ntmps184
 go_wp2_with fail
 ((try simp only[Exit.inBlock,Exit.then]);refine zf (by simp only[results,Tryz.results184];go_simp;rfl) rfl gw ?_)
 rfl
theorem zug (p q : Pl)(w : World): Calls Tryz.prog 185 #[p.v,q.v] w (Ret w (.bool ((p.loc==q.loc)&&(p.deref==q.deref)))):=by
 cases h:(p.loc==q.loc);all_goals
  go_enter Tryz.func185,Tryz.ntmps185
  go_wp2_with fail
  ((try simp only[Exit.inBlock,Exit.then]);refine zf (by simp only[results,Tryz.results185];go_simp;rfl) rfl gw ?_)
  rfl
theorem zuh (p q : Pl)(w : World): Calls Tryz.prog 148 #[p.v,q.v] w (Ret w (.bool (meetB p q))):=by
 obtain⟨rt,Hrt⟩:∃ rt,Hid (((p.loc==q.loc)&&(p.deref==q.deref))=rt):=⟨_,Lib.hid rfl⟩
 obtain⟨a0,Ha0⟩:∃ b,Hid ((p.field != 2)=b):=⟨_,Lib.hid rfl⟩
 obtain⟨a1,Ha1⟩:∃ b,Hid ((p.field != 1)=b):=⟨_,Lib.hid rfl⟩
 obtain⟨b0,Hb0⟩:∃ b,Hid ((q.field != 2)=b):=⟨_,Lib.hid rfl⟩
 obtain⟨b1,Hb1⟩:∃ b,Hid ((q.field != 1)=b):=⟨_,Lib.hid rfl⟩
 have He:Hid (meetB p q=(rt&&((a0&&b0)||(a1&&b1)))):=Lib.hid (by
  rw[←Hrt.out,←Ha0.out,←Ha1.out,←Hb0.out,←Hb1.out];unfold meetB;rw[Bool.and_assoc];simp only[bne,decide_not];rfl)
 have Hroot:=Lib.hid (fun w'=>zug p q w');rw[Hrt.out] at Hroot;have HA:=Lib.hid (fun w'=>zl1 p w');have HB:=Lib.hid (fun w'=>zl1 q w');rw[Ha0.out,Ha1.out] at HA;rw[Hb0.out,Hb1.out] at HB;rw[He.out];clear Hrt Ha0 Ha1 Hb0 Hb1 He;go_enter Tryz.func148,Tryz.ntmps148
 go_upto_region 1 with fail;go_cut [5,6] (fun v v' wc=>∃ g1 g2:Nat,v = .pointer (some ⟨g1,0,none⟩)∧v' = .pointer (some ⟨g2,0,none⟩)∧Grow ((w.alloc (bxPl p)).alloc (bxPl q)) wc∧LtW g1 wc∧LtW g2 wc∧wc.cell? ⟨g1,0,none⟩=some (.bool a0)∧wc.cell? ⟨g1,1,none⟩=some (.bool a1)∧wc.cell? ⟨g2,0,none⟩=some (.bool b0)∧wc.cell? ⟨g2,1,none⟩=some (.bool b1))
 case first =>
  (refine z8 8 (by kernel_rfl) (by rfl) ?_;((iterate 2 ((first|refine JqW 0 ?_|refine JqW 2 ?_);(first|go_big_quiet_step (fail)|(refine wpQuiet_step (fun K hK=>?_);go_simp;split<;>(refine hK _ ?_;clear hK K)));refine wpQuiet_nil ?_));(repeat (any_goals (first|((first|refine JqW 0 ?_|refine JqW 2 ?_);(first|go_big_quiet_step (fail)|(refine wpQuiet_step (fun K hK=>?_);go_simp;split<;>(refine hK _ ?_;clear hK K)));refine wpQuiet_nil ?_)|((first|(refine J_any [1,4,5] (by decide +kernel) ?_;refine⟨?_,?_,?_⟩)|(refine J_any [1,4] (by decide +kernel) ?_;refine⟨?_,?_⟩)|(refine J_any [1,5] (by decide +kernel) ?_;refine⟨?_,?_⟩)|(refine J_any [3,4,5] (by decide +kernel) ?_;refine⟨?_,?_,?_⟩)|(refine J_any [3,4] (by decide +kernel) ?_;refine⟨?_,?_⟩)|(refine J_any [3,5] (by decide +kernel) ?_;refine⟨?_,?_⟩)|(refine J_any [4,5] (by decide +kernel) ?_;refine⟨?_,?_⟩)|(refine J_any [1,3,4,5] (by decide +kernel) ?_;refine⟨?_,?_,?_,?_⟩)|(refine J_any [1,3,4] (by decide +kernel) ?_;refine⟨?_,?_,?_⟩)|(refine J_any [1,3,5] (by decide +kernel) ?_;refine⟨?_,?_,?_⟩)|(refine J_any [1,3] (by decide +kernel) ?_;refine⟨?_,?_⟩)|(refine J_any [1] (by decide +kernel) ?_)|(refine J_any [3] (by decide +kernel) ?_)|(refine J_any [4] (by decide +kernel) ?_)|(refine J_any [5] (by decide +kernel) ?_)|(refine J_any [6,7] (by decide +kernel) ?_;refine⟨?_,?_⟩)|(refine J_any [6] (by decide +kernel) ?_)|(refine J_any [7] (by decide +kernel) ?_))<;>(refine⟨_,rfl,fun K hK=>?_⟩;go_wp2_with (first|(go_at_call 184;((with_reducible refine armV (HA.out _) ?_);intro x3))|(go_at_call 184;((with_reducible refine armV (HB.out _) ?_);intro x4)));refine hK _ _ (za gw) ?_;clear hK K))))));all_goals (refine J_end (by decide +kernel) ?_))
  all_goals
   go_wp2_with fail;go_meet
   case rel=>exact⟨_,_,rfl,rfl,gw,inferInstance,inferInstance,by go_simp,by go_simp,by go_simp,by go_simp⟩
 case rest =>
  obtain⟨g1,g2,rfl,rfl,hg,hl1,hl2,hc1,hc2,hc3,hc4⟩:=hcut;haveI:=hl1
  haveI:=hl2
  obtain⟨y,rfl⟩:=za hg;cases rt
  ·go_wp2_with (first|(go_at_call 185;((with_reducible refine armV (Hroot.out _) ?_);intro x5)))
   ((try simp only[Exit.inBlock,Exit.then]);refine zf (by simp only[results,Tryz.results148];go_simp;rfl) rfl gw ?_)
   rfl
  ·cases a0<;>cases b0<;>cases a1;all_goals
    go_wp2_with (first|(go_at_call 185;((with_reducible refine armV (Hroot.out _) ?_);intro x5)))
    ((try simp only[Exit.inBlock,Exit.then]);refine zf (by simp only[results,Tryz.results148];go_simp;rfl) rfl gw ?_)
    rfl
theorem zp6 (p q : Pl)(w : World): Calls Tryz.prog 149 #[p.v,q.v] w (Ret w (.bool (behB p q))):=by
 have Hw:=Lib.hid (fun w'=>zbg p w');obtain⟨wh,Hwh⟩:∃ b,Hid (whole p=b):=⟨_,Lib.hid rfl⟩
 rw[Hwh.out] at Hw;have He:Hid (behB p q=(wh&&(q.deref&&(q.loc==p.loc)))):=Lib.hid (by rw[←Hwh.out];rfl);rw[He.out];clear He Hwh;cases wh<;>cases hd:q.deref;all_goals
  go_enter Tryz.func149,Tryz.ntmps149
  go_wp2_with (first|(go_at_call 96;((with_reducible refine armV (Hw.out _) ?_);intro x2)))
  ((try simp only[Exit.inBlock,Exit.then]);refine zf (by simp only[results,Tryz.results149];go_simp;rfl) rfl gw ?_)
  rfl
theorem ziw (t : Th)(x : Lo)(u : Bool)(w : World): Calls Tryz.prog 101 #[t.v,x.v,.bool u] w (Ret w (.bool (confB t x u))):=by
 obtain⟨tp,wr,dp⟩:=t;obtain⟨me,Hme⟩:∃ b,Hid ((meetB tp x.pl||(dp&&behB tp x.pl))=b):=⟨_,Lib.hid rfl⟩
 obtain⟨mu,Hmu⟩:∃ b,Hid ((decide (x.bo=2)||(decide (x.bo=3)&&u))=b):=⟨_,Lib.hid rfl⟩
 obtain⟨mb,Hmb⟩:∃ b,Hid (meetB tp x.pl=b):=⟨_,Lib.hid rfl⟩
 obtain⟨bb,Hbb⟩:∃ b,Hid (behB tp x.pl=b):=⟨_,Lib.hid rfl⟩
 obtain⟨e3,He3⟩:∃ b,(x.bo==3)=b:=⟨_,rfl⟩
 have He:Hid (confB ⟨tp,wr,dp⟩ x u=((me&&(wr||mu))||(wr&&(!dp&&(e3&&(!u&&bb)))))):=Lib.hid (by
  rw[←Hme.out,←Hmu.out,←Hbb.out,←He3];rfl)
 rw[He.out];clear He;replace Hme:Hid ((mb||(dp&&bb))=me):=Lib.hid (by rw[←Hmb.out,←Hbb.out];exact Hme.out);have HM:=Lib.hid (fun w'=>zuh tp x.pl w');have HB:=Lib.hid (fun w'=>zp6 tp x.pl w');rw[Hmb.out] at HM;rw[Hbb.out] at HB;clear Hmb Hbb;go_enter Tryz.func101,Tryz.ntmps101
 go_upto_region 1 with fail;go_cut [7] (fun v wc=>v = .bool mu∧wc=(w.alloc (bxTh (⟨tp,wr,dp⟩:Th))).alloc (bxLo x))
 case first =>
  cases h2:(x.bo==2)
  ·have Hmu2:Hid (mu=(e3&&u)):=Lib.hid (by rw[←Hmu.out,←He3,decide_eq_false (by simpa using h2)];rfl);cases e3
   ·go_wp2_with fail;go_meet
    case rel=>exact⟨by rw[Hmu2.out];rfl,rfl⟩
   ·go_wp2_with fail;go_meet
    case rel=>exact⟨by rw[Hmu2.out];rfl,rfl⟩
  ·have Hmu2:Hid (mu=true):=Lib.hid (by rw[←Hmu.out,decide_eq_true (by simpa using h2)];rfl);go_wp2_with fail;go_meet
   case rel=>exact⟨by rw[Hmu2.out],rfl⟩
 case rest =>
  obtain⟨rfl,rfl⟩:=hcut;clear Hmu;go_upto_region 2 with fail;go_cut [8] (fun v wc=>v = .bool me∧Grow ((w.alloc (bxTh (⟨tp,wr,dp⟩:Th))).alloc (bxLo x)) wc)
  case first =>
   cases mb
   ·cases dp
    ·go_wp2_with (first|(go_at_call 148;((with_reducible refine armV (HM.out _) ?_);intro x2)));go_meet
     case rel=>exact⟨by rw[←Hme.out];rfl,gw⟩
    ·go_wp2_with (first|(go_at_call 148;((with_reducible refine armV (HM.out _) ?_);intro x2))|(go_at_call 149;((with_reducible refine armV (HB.out _) ?_);intro x3)));go_meet
     case rel=>exact⟨by rw[←Hme.out];rfl,gw⟩
   ·go_wp2_with (first|(go_at_call 148;((with_reducible refine armV (HM.out _) ?_);intro x2)));go_meet
    case rel=>exact⟨by rw[←Hme.out];rfl,gw⟩
  case rest =>
   obtain⟨rfl,hg⟩:=hcut;obtain⟨y,rfl⟩:=za hg;clear Hme;cases me
   ·cases wr
    ·go_wp2_with fail
     ((try simp only[Exit.inBlock,Exit.then]);refine zf (by simp only[results,Tryz.results101];go_simp;rfl) rfl gw ?_)
     rfl
    ·cases dp
     ·cases e3
      ·go_wp2_with fail
       ((try simp only[Exit.inBlock,Exit.then]);refine zf (by simp only[results,Tryz.results101];go_simp;rfl) rfl gw ?_)
       rfl
      ·cases u
       ·go_wp2_with (first|(go_at_call 149;((with_reducible refine armV (HB.out _) ?_);intro x3)))
        ((try simp only[Exit.inBlock,Exit.then]);refine zf (by simp only[results,Tryz.results101];go_simp;rfl) rfl gw ?_)
        rfl
       ·go_wp2_with fail
        ((try simp only[Exit.inBlock,Exit.then]);refine zf (by simp only[results,Tryz.results101];go_simp;rfl) rfl gw ?_)
        rfl
     ·go_wp2_with fail
      ((try simp only[Exit.inBlock,Exit.then]);refine zf (by simp only[results,Tryz.results101];go_simp;rfl) rfl gw ?_)
      rfl
   ·cases wr
    ·cases mu
     ·go_wp2_with fail
      ((try simp only[Exit.inBlock,Exit.then]);refine zf (by simp only[results,Tryz.results101];go_simp;rfl) rfl gw ?_)
      rfl
     ·go_wp2_with fail
      ((try simp only[Exit.inBlock,Exit.then]);refine zf (by simp only[results,Tryz.results101];go_simp;rfl) rfl gw ?_)
      rfl
    ·go_wp2_with fail
     ((try simp only[Exit.inBlock,Exit.then]);refine zf (by simp only[results,Tryz.results101];go_simp;rfl) rfl gw ?_)
     rfl
theorem za6 : SlT Tryz.prog 141 111 5 24:=SlT.mk' (z:=.agg #[.int .i64 0,.bool false,.int .u8 0,.bool false,.bool false]) Tryz.underlying141 (by kernel_rfl) rfl om
theorem zl9 {P : Program}{code : Code}{Q : Exit→Act→World→Prop}{a : Act}{cur W3 : World}(Facts : World→Prop)(hg : Grow W3 cur)(hf : Facts cur)(h : ∀ zz,Facts (ext W3 zz)→code.wp P Q a (ext W3 zz)): code.wp P Q a cur:=by
 obtain⟨zz,rfl⟩:=za hg;exact h zz hf
theorem zh9 {X X' : World}{v : Value}{g : Nat}{o : Obj}(hagr : ∀ G : Nat→Prop,(∀ k,G k→k<X.heap.size→v.ownBlock≠some k)→Agr G X X')(hne : v.ownBlock≠some g)(h : X.heap[g]?=some o): X'.heap[g]?=some o:=by
 rw[hagr (fun k=>k=g) (fun k hk _=>by subst hk;exact hne) g rfl (Array.getElem?_eq_some_iff.1 h).1];exact h
theorem hp_ne {α : Type}[Rp α]{F : Nat→Prop}{base : Nat}{e t : TypeId}{X : World}{v : Value}{xs : List α}{g : Nat}{C : Array Value}(h : Own F base e X v xs)(hg : X.heap[g]?=some (.cells C t))(hte : t≠e): v.ownBlock≠some g:=by
 obtain⟨G,css,_,_,_,_,hown⟩:=h;intro e1;rcases hown.2 with ⟨rfl,_⟩|⟨q,cap,cur,rfl,hbg,hq,_⟩
 ·simp[Value.ownBlock] at e1
 ·simp[Value.ownBlock] at e1;subst e1;rw[hg] at hq;injection hq with hq;injection hq with _ hq;exact hte hq
theorem zaq {X : World}{g : Nat}{C : Array Value}{t : TypeId}(h : X.heap[g]?=some (.cells C t))(o : Nat): X.cell? ⟨g,o,none⟩=C[o]?:=by simp[World.cell?,h]
theorem zqh {X : World}{g : Nat}{C : Array Value}{t : TypeId}(h : X.heap[g]?=some (.cells C t))(off n : Nat): row? X g off n=if off+n≤C.size then some ((C.toList.drop off).take n) else none:=by unfold row?;rw[h]
theorem ztp {f : Fn}{k : Nat}{t : Ty}(h : f.locals[k]?=some t): ptrB f (k : Int)=decide (3≤t.kind):=by unfold ptrB;rw[Int.toNat_natCast,h]
theorem zuo (f : Fn)(v1 v2 : Value)(w : World){F F' : Nat→Prop}(h1 : Sl F w v1 f.locals)(h2 : Sl F' w v2 f.blocks)(hok : fnErr f=0){q b i : Nat}{x : Bk}(hp : PtAt f q b i x):
  Calls Tryz.prog 100 #[f.v v1 v2,.int .i64 (q:Nat)] w (RetP w fun v w'=>Sl (Fresh w) w' v (tchC f (coF f q))∧(tchC f (coF f q)).length≤20):=by
 have hwf:=hp.wf h2;obtain⟨a,n,cap,rfl,Hn,hm,hcap,hcm,h1⟩:=h1.open;obtain⟨a2,n2,cap2,rfl,Hn2,hm2,hcap2,hcm2,h2⟩:=h2.open;have Hok:=Lib.hid hok;have hcok:=za5 hok hp.lt;have hn16:n≤16:=by rw[Hn.out];exact(zt hok).2.2
 have hol:=zf7 hcok;have Hcok:=Lib.hid hcok;have Hop:=Lib.hid fun (w':World) (k1:Sl F w' (.slice a n cap) f.locals) (k2:Sl F' w' (.slice a2 n2 cap2) f.blocks)=>zdq f _ _ w' k1 k2 Hok.out hp;have Hops:Hid (∀ o∈opsC (coF f q),0≤o.pl.loc∧o.pl.loc<(n:Int)):=Lib.hid fun o ho=>by have:=hcok.ops o ho;rw[←Hn.out] at this;exact⟨this.1,this.2.1⟩
 clear hok hcok;go_enter Tryz.func100,Tryz.ntmps100
 go_wp2_with (first|(go_at_call 136;((with_reducible refine armS (Hop.out _ h1.m h2.m) ?_);intro a3 n3 cap3 x3 Hn3 hm3 hcap3 hcm3 hs3)));have hn3:n3≤8:=by rw[Hn3.out];exact hol
 go_loopw [5,7] (fun tv ti wr=>∃ k:Nat,k≤n3∧ti = .int .i64 k∧Grow (ext (w.alloc (bxFn f (.slice a n cap) (.slice a2 n2 cap2))) x3) wr∧Own (fun _=>False) (w.heap.size+1+x3.k) 111 wr tv (tchO f ((opsC (coF f q)).take k))) (fun _ ti _=>n3 - (intOf ti).toNat)
 case atStart=>exact⟨0,Nat.zero_le _,rfl,gw,Own.nil _ _ _ _⟩
 case round =>
  obtain⟨k,hk,rfl,hgr,hown⟩:=hrel;obtain⟨z,rfl⟩:=za hgr;have hil:(tchO f ((opsC (coF f q)).take k)).length≤8:=Nat.le_trans (zdl _ _) (by rw[List.length_take];omega);by_cases hlt:k<n3
  ·obtain⟨b_o,off_o,o,rfl,⟨Hg_o,hl_o,hw_o,c_o0,c_o1,c_o2,c_o3,c_o4,r_o0,r_o1⟩⟩:=hs3.opd k hlt;have Hsn:=Lib.hid (zn3 f Hg_o);have Hoin:=Lib.hid (Hops.out o (List.mem_of_getElem? Hg_o.out));have hopw:o.pl.wf:=hw_o.pl;by_cases hk3:o.kind=3
   ·have e3:(o.kind==3)=true:=by simp[hk3]
    have e2:(o.kind==2)=false:=by simp[hk3]
    have H1:Hid (tchO1 f o = [⟨o.pl,true,true⟩]):=Lib.hid (by unfold tchO1;rw[if_neg om,if_pos hk3]);rw[H1.out] at Hsn;clear hk3;go_wp2_with (first|(at_builtin;go_must (refine zh (α:=Th) za6 rfl rfl rfl (hown) gw (by first|exact Nat.le_refl _|(simp;done)|(simp;omega)) (by first|(simp;done)|(simp;omega)) rfl (y:=⟨o.pl,true,true⟩) (Gy:=fun _=>False) (⟨rfl,⟨hopw⟩⟩) (fun _ h=>h.elim) cel (by simp[Value.oneCell']) om om ?_);intro tv6 x6 ho6 hsz6 hagr6));go_roundw
    case rel=>exact⟨k+1,by omega,by go_num,gw,by rw[Hsn.out];exact ho6⟩
    case measure=>exact me
   ·have e3:(o.kind==3)=false:=by simp[hk3]
    by_cases hk2:o.kind=2
    ·have e2:(o.kind==2)=true:=by simp[hk2]
     obtain⟨pr,hpr,hprn⟩:∃ pr:Nat,o.pl.loc=pr∧pr<n:=⟨o.pl.loc.toNat,by have:=Hoin.out;omega,by have:=Hoin.out;omega⟩
     have Hpr:=Lib.hid hpr;have Hwo:Hid (∀ w',Calls Tryz.prog 96 #[.agg #[.int .i64 (pr:Nat),.bool o.pl.deref,.int .u8 o.pl.field]] w' (Ret w' (.bool (whole o.pl)))):=Lib.hid (fun w'=>by have h:=zbg o.pl w';simp only[Pl.v,hpr] at h;exact h);have Hpl:Hid (o.pl=⟨((pr:Nat):Int),o.pl.deref,o.pl.field⟩):=Lib.hid (by rw[←hpr]);have hopw2:Pl.wf ⟨((pr:Nat):Int),o.pl.deref,o.pl.field⟩:=by have h:=hopw;rw[Hpl.out] at h;exact h
     obtain⟨b_t0,off_t0,t0,rfl,⟨Hg_t0,hl_t0,hw_t0,c_t00,c_t01,r_t00⟩⟩:=h1.ty pr hprn;have H1:Hid (tchO1 f o = [⟨⟨((pr:Nat):Int),o.pl.deref,o.pl.field⟩,false,!(whole o.pl&&decide (3≤t0.kind))⟩]):=Lib.hid (by unfold tchO1;rw[if_pos hk2,Hpr.out,ztp Hg_t0.out,←Hpl.out]);clear hk3 hk2;cases hwh:whole o.pl
     ·rw[hwh] at Hwo H1;simp only[Bool.false_and,Bool.not_false] at H1;rw[H1.out] at Hsn;clear hwh;go_wp2_with fail
      ((refine zv 19 17 (by kernel_rfl) (by rfl) (by decide) ?_);(iterate 17 (all_goals (first|((first|refine Tq 0 ?_|refine Tq 1 ?_|refine Tq 2 ?_|refine Tq 3 ?_|refine Tq 4 ?_|refine Tq 5 ?_|refine Tq 6 ?_|refine Tq 7 ?_|refine Tq 8 ?_|refine Tq 9 ?_|refine Tq 10 ?_|refine Tq 11 ?_|refine Tq 12 ?_|refine Tq 13 ?_|refine Tq 14 ?_|refine Tq 15 ?_|refine Tq 16 ?_);(first|go_big_quiet_step (fail)|(refine wpQuiet_step (fun K hK=>?_);go_simp;split<;>(refine hK _ ?_;clear hK K)));refine wpQuiet_nil ?_)|((first|refine Tf 0 ?_|refine Tf 1 ?_|refine Tf 2 ?_|refine Tf 3 ?_|refine Tf 4 ?_|refine Tf 5 ?_|refine Tf 6 ?_|refine Tf 7 ?_|refine Tf 8 ?_|refine Tf 9 ?_|refine Tf 10 ?_|refine Tf 11 ?_|refine Tf 12 ?_|refine Tf 13 ?_|refine Tf 14 ?_|refine Tf 15 ?_|refine Tf 16 ?_);intro xg K hK;go_wp2_with (first|(go_at_call 96;((with_reducible refine armV (Hwo.out _) ?_);intro x4)));refine hK _ _ gw ?_;clear hK K))));all_goals (refine zap (by decide +kernel) ?_;intro xR K hK;simp only[List.drop_succ_cons,List.drop_zero];go_wp2_with (first|(at_builtin;(refine zh (α:=Th) za6 rfl rfl rfl (hown) gw (by first|exact Nat.le_refl _|(simp;done)|(simp;omega)) (by first|(simp;done)|(simp;omega)) rfl (y:=⟨⟨((pr:Nat):Int),o.pl.deref,o.pl.field⟩,false,true⟩) (Gy:=fun _=>False) (⟨rfl,⟨hopw2⟩⟩) (fun _ h=>h.elim) cel (by simp[Value.oneCell']) om om ?_);intro tv6 x6 ho6 hsz6 hagr6));refine hK _ _ ?_;clear hK K))
      go_wp2_with fail;go_roundw
      case rel=>exact⟨k+1,by omega,by go_num,gw,by rw[Hsn.out];exact ho6⟩
      case measure=>exact me
     ·rw[hwh] at Hwo H1;simp only[Bool.true_and] at H1;obtain⟨pb,Hpb⟩:∃ pb,Hid (decide (3≤t0.kind)=pb):=⟨_,Lib.hid rfl⟩
      rw[Hpb.out] at H1;have Hpo:=Lib.hid (fun w'=>zd7 t0 w');rw[Hpb.out] at Hpo;rw[H1.out] at Hsn;clear hwh;cases pb;all_goals
       simp only[Bool.not_true,Bool.not_false] at Hsn;go_wp2_with fail
      ·((refine zv 19 17 (by kernel_rfl) (by rfl) (by decide) ?_);(iterate 17 (all_goals (first|((first|refine Tq 0 ?_|refine Tq 1 ?_|refine Tq 2 ?_|refine Tq 3 ?_|refine Tq 4 ?_|refine Tq 5 ?_|refine Tq 6 ?_|refine Tq 7 ?_|refine Tq 8 ?_|refine Tq 9 ?_|refine Tq 10 ?_|refine Tq 11 ?_|refine Tq 12 ?_|refine Tq 13 ?_|refine Tq 14 ?_|refine Tq 15 ?_|refine Tq 16 ?_);(first|go_big_quiet_step (fail)|(refine wpQuiet_step (fun K hK=>?_);go_simp;split<;>(refine hK _ ?_;clear hK K)));refine wpQuiet_nil ?_)|((first|refine Tf 0 ?_|refine Tf 1 ?_|refine Tf 2 ?_|refine Tf 3 ?_|refine Tf 4 ?_|refine Tf 5 ?_|refine Tf 6 ?_|refine Tf 7 ?_|refine Tf 8 ?_|refine Tf 9 ?_|refine Tf 10 ?_|refine Tf 11 ?_|refine Tf 12 ?_|refine Tf 13 ?_|refine Tf 14 ?_|refine Tf 15 ?_|refine Tf 16 ?_);intro xg K hK;go_wp2_with (first|(go_at_call 96;((with_reducible refine armV (Hwo.out _) ?_);intro x4))|(go_at_call 83;((with_reducible refine armV (Hpo.out _) ?_);intro x5)));refine hK _ _ gw ?_;clear hK K))));all_goals (refine zap (by decide +kernel) ?_;intro xR K hK;simp only[List.drop_succ_cons,List.drop_zero];go_wp2_with (first|(at_builtin;(refine zh (α:=Th) za6 rfl rfl rfl (hown) gw (by first|exact Nat.le_refl _|(simp;done)|(simp;omega)) (by first|(simp;done)|(simp;omega)) rfl (y:=⟨⟨((pr:Nat):Int),o.pl.deref,o.pl.field⟩,false,true⟩) (Gy:=fun _=>False) (⟨rfl,⟨hopw2⟩⟩) (fun _ h=>h.elim) cel (by simp[Value.oneCell']) om om ?_);intro tv6 x6 ho6 hsz6 hagr6));refine hK _ _ ?_;clear hK K))
       go_wp2_with fail;go_roundw
       case rel=>exact⟨k+1,by omega,by go_num,gw,by rw[Hsn.out];exact ho6⟩
       case measure=>exact me
      ·((refine zv 19 17 (by kernel_rfl) (by rfl) (by decide) ?_);(iterate 17 (all_goals (first|((first|refine Tq 0 ?_|refine Tq 1 ?_|refine Tq 2 ?_|refine Tq 3 ?_|refine Tq 4 ?_|refine Tq 5 ?_|refine Tq 6 ?_|refine Tq 7 ?_|refine Tq 8 ?_|refine Tq 9 ?_|refine Tq 10 ?_|refine Tq 11 ?_|refine Tq 12 ?_|refine Tq 13 ?_|refine Tq 14 ?_|refine Tq 15 ?_|refine Tq 16 ?_);(first|go_big_quiet_step (fail)|(refine wpQuiet_step (fun K hK=>?_);go_simp;split<;>(refine hK _ ?_;clear hK K)));refine wpQuiet_nil ?_)|((first|refine Tf 0 ?_|refine Tf 1 ?_|refine Tf 2 ?_|refine Tf 3 ?_|refine Tf 4 ?_|refine Tf 5 ?_|refine Tf 6 ?_|refine Tf 7 ?_|refine Tf 8 ?_|refine Tf 9 ?_|refine Tf 10 ?_|refine Tf 11 ?_|refine Tf 12 ?_|refine Tf 13 ?_|refine Tf 14 ?_|refine Tf 15 ?_|refine Tf 16 ?_);intro xg K hK;go_wp2_with (first|(go_at_call 96;((with_reducible refine armV (Hwo.out _) ?_);intro x4))|(go_at_call 83;((with_reducible refine armV (Hpo.out _) ?_);intro x5)));refine hK _ _ gw ?_;clear hK K))));all_goals (refine zap (by decide +kernel) ?_;intro xR K hK;simp only[List.drop_succ_cons,List.drop_zero];go_wp2_with (first|(at_builtin;(refine zh (α:=Th) za6 rfl rfl rfl (hown) gw (by first|exact Nat.le_refl _|(simp;done)|(simp;omega)) (by first|(simp;done)|(simp;omega)) rfl (y:=⟨⟨((pr:Nat):Int),o.pl.deref,o.pl.field⟩,false,false⟩) (Gy:=fun _=>False) (⟨rfl,⟨hopw2⟩⟩) (fun _ h=>h.elim) cel (by simp[Value.oneCell']) om om ?_);intro tv6 x6 ho6 hsz6 hagr6));refine hK _ _ ?_;clear hK K))
       go_wp2_with fail;go_roundw
       case rel=>exact⟨k+1,by omega,by go_num,gw,by rw[Hsn.out];exact ho6⟩
       case measure=>exact me
    ·have e2:(o.kind==2)=false:=by simp[hk2]
     have H1:Hid (tchO1 f o = []):=Lib.hid (by unfold tchO1;rw[if_neg hk2,if_neg hk3]);rw[H1.out,List.append_nil] at Hsn;clear hk3 hk2;go_wp2_with fail;go_roundw
     case rel=>exact⟨k+1,by omega,by go_num,gw,by rw[Hsn.out];exact hown.mono gw⟩
     case measure=>exact me
  ·obtain rfl:k=n3:=om;rw[List.take_of_length_le (by rw[Hn3.out];exact Nat.le_refl _)] at hown hil;clear hs3 hn3 Hop Hops;rcases hp.cases with ⟨s,hs,hc⟩|hc
   ·rw[hc] at hown hil hwf Hcok;have hsw:s.wf:=hwf;have hplw:=hsw.pl;have hrpw:=hsw.r.pl;have Hc:=Lib.hid hc;have Htg:Hid (∀ w',Sl F w' (.slice a n cap) f.locals→Sl F' w' (.slice a2 n2 cap2) f.blocks→Calls Tryz.prog 146 #[f.v (.slice a n cap) (.slice a2 n2 cap2),.int .i64 (q:Nat)] w' (Ret w' (.tuple #[s.pl.v,.bool (s.kind==1)]))):=Lib.hid fun w' k1 k2=>by
     have h:=zet f _ _ w' k1 k2 Hok.out hp;rw[Hc.out] at h;exact h
    clear hc hs hwf;by_cases hk1:s.kind=1
    ·have hk3:s.kind≠3:=om;have e1:(s.kind==1)=true:=by simp[hk1]
     have e3:(s.kind==3)=false:=by simp[hk3]
     rw[e1] at Htg;have Hrk:=Lib.hid (Hcok.out.rv s rfl hk1);have HO:Hid (tchC f (.st s)=tchO f (opsC (.st s))++(if s.r.kind=4∨s.r.kind=5 then [⟨s.r.pl,decide (s.r.kind=5)||decide (s.r.bo=2),true⟩] else [])++[⟨s.pl,true,false⟩]):=Lib.hid (by
      show tchS f s=tchO f (if s.kind=1 then ze s.r else if s.kind=3 then [] else [s.a])++_++_;rw[if_pos hk1];unfold tchS;rw[if_neg hk3,if_pos hk1])
     clear hk1 hk3;by_cases h4:4≤s.r.kind
     ·have e4:decide (4≤s.r.kind)=true:=decide_eq_true h4;have h45:s.r.kind=4∨s.r.kind=5:=by have:=Hrk.out;omega
      rw[if_pos h45] at HO;have e5:decide (s.r.kind=5)=(s.r.kind==5):=rfl;rw[e5] at HO;clear h45 e5;go_upto_region 13 with (first|(go_at_call 95;((with_reducible refine armV (zk f _ _ _ h1.m h2.m Hok.out hp Hc) ?_);intro x7)))
      refine zl9 (W3:=(ext (w.alloc (bxFn f (.slice a n cap) (.slice a2 n2 cap2))) x3)) (fun X=>Own (fun _=>False) (w.heap.size+1+x3.k) 111 X u5 (tchO f (opsC (.st s)))∧X.heap[(w.heap.size+1+x3.k+z.k+x7.k)]?=some (bxSt s)) gw ⟨hown.mono gw,by have hh:=heap_alloc_new (ext (ext (ext (w.alloc (bxFn f (.slice a n cap) (.slice a2 n2 cap2))) x3) z) x7) (bxSt s);rw[show (ext (ext (ext (w.alloc (bxFn f (.slice a n cap) (.slice a2 n2 cap2))) x3) z) x7).heap.size=(w.heap.size+1+x3.k+z.k+x7.k) from by simp] at hh;exact hh⟩ ?_;rintro zz ⟨hown,hg0⟩;haveI:LtW (w.heap.size+1+x3.k+z.k+x7.k) (ext (ext (w.alloc (bxFn f (.slice a n cap) (.slice a2 n2 cap2))) x3) zz):=⟨(Array.getElem?_eq_some_iff.1 hg0).1⟩
      have hcell:=zaq hg0;have hrow:=zqh hg0;clear hgr;cases h5:(s.r.kind==5)
      ·rw[h5] at HO;simp only[Bool.false_or] at HO;have HT:Hid (tchC f (coF f q)=tchO f (opsC (.st s))++[⟨s.r.pl,(s.r.bo==2),true⟩]++[⟨s.pl,true,false⟩]):=Lib.hid (by rw[Hc.out,HO.out];rfl);go_wp2_with (first|(go_at_call 146;((with_reducible refine armV (Htg.out _ h1.m h2.m) ?_);intro x8))|((at_builtin;(refine zh (α:=Th) za6 rfl rfl rfl (hown) gw (by first|exact Nat.le_refl _|(simp;done)|(simp;omega)) (by first|(simp;done)|(simp;omega)) rfl (y:=⟨s.r.pl,(s.r.bo==2),true⟩) (Gy:=fun _=>False) (⟨rfl,⟨hrpw⟩⟩) (fun _ h=>h.elim) cel (by simp[Value.oneCell']) om om ?_);intro tvA xA hoA hszA hagrA);have hgA:=zh9 hagrA (hp_ne hown hg0 (by decide)) hg0;haveI:LtW (w.heap.size+1+x3.k+z.k+x7.k) (ext (ext (w.alloc (bxFn f (.slice a n cap) (.slice a2 n2 cap2))) x3) xA):=⟨(Array.getElem?_eq_some_iff.1 hgA).1⟩;have hcellA:=zaq hgA)|((at_builtin;(refine zh (α:=Th) za6 rfl rfl rfl (hoA) gw (by first|exact Nat.le_refl _|(simp;done)|(simp;omega)) (by first|(simp;done)|(simp;omega)) rfl (y:=⟨s.pl,true,false⟩) (Gy:=fun _=>False) (⟨rfl,⟨hplw⟩⟩) (fun _ h=>h.elim) cel (by simp[Value.oneCell']) om om ?_);intro tvB xB hoB hszB hagrB);have hgB:=zh9 hagrB (hp_ne hoA hgA (by decide)) hgA;haveI:LtW (w.heap.size+1+x3.k+z.k+x7.k) (ext (ext (w.alloc (bxFn f (.slice a n cap) (.slice a2 n2 cap2))) x3) xB):=⟨(Array.getElem?_eq_some_iff.1 hgB).1⟩;have hcellB:=zaq hgB));refine zd (by simp only[results,Tryz.results100];go_simp<;>rfl) rfl gw ⟨?_,?_⟩
       ·rw[HT.out];exact(hoB.sl.wide (fun b hb hF=>by rcases hF with hF|hF;exact hF.elim;exact Or.inr (by first|omega|(simp at hF;omega)))).mono gw
       ·rw[HT.out];simp only[List.length_append,List.length_cons,List.length_nil];omega
      ·rw[h5] at HO;simp only[Bool.true_or] at HO;have HT:Hid (tchC f (coF f q)=tchO f (opsC (.st s))++[⟨s.r.pl,true,true⟩]++[⟨s.pl,true,false⟩]):=Lib.hid (by rw[Hc.out,HO.out]);go_wp2_with (first|(go_at_call 146;((with_reducible refine armV (Htg.out _ h1.m h2.m) ?_);intro x8))|((at_builtin;(refine zh (α:=Th) za6 rfl rfl rfl (hown) gw (by first|exact Nat.le_refl _|(simp;done)|(simp;omega)) (by first|(simp;done)|(simp;omega)) rfl (y:=⟨s.r.pl,true,true⟩) (Gy:=fun _=>False) (⟨rfl,⟨hrpw⟩⟩) (fun _ h=>h.elim) cel (by simp[Value.oneCell']) om om ?_);intro tvA xA hoA hszA hagrA);have hgA:=zh9 hagrA (hp_ne hown hg0 (by decide)) hg0;haveI:LtW (w.heap.size+1+x3.k+z.k+x7.k) (ext (ext (w.alloc (bxFn f (.slice a n cap) (.slice a2 n2 cap2))) x3) xA):=⟨(Array.getElem?_eq_some_iff.1 hgA).1⟩;have hcellA:=zaq hgA)|((at_builtin;(refine zh (α:=Th) za6 rfl rfl rfl (hoA) gw (by first|exact Nat.le_refl _|(simp;done)|(simp;omega)) (by first|(simp;done)|(simp;omega)) rfl (y:=⟨s.pl,true,false⟩) (Gy:=fun _=>False) (⟨rfl,⟨hplw⟩⟩) (fun _ h=>h.elim) cel (by simp[Value.oneCell']) om om ?_);intro tvB xB hoB hszB hagrB);have hgB:=zh9 hagrB (hp_ne hoA hgA (by decide)) hgA;haveI:LtW (w.heap.size+1+x3.k+z.k+x7.k) (ext (ext (w.alloc (bxFn f (.slice a n cap) (.slice a2 n2 cap2))) x3) xB):=⟨(Array.getElem?_eq_some_iff.1 hgB).1⟩;have hcellB:=zaq hgB));refine zd (by simp only[results,Tryz.results100];go_simp<;>rfl) rfl gw ⟨?_,?_⟩
       ·rw[HT.out];exact(hoB.sl.wide (fun b hb hF=>by rcases hF with hF|hF;exact hF.elim;exact Or.inr (by first|omega|(simp at hF;omega)))).mono gw
       ·rw[HT.out];simp only[List.length_append,List.length_cons,List.length_nil];omega
     ·have e4:decide (4≤s.r.kind)=false:=decide_eq_false h4;rw[if_neg om,List.append_nil] at HO;go_upto_region 14 with (first|(go_at_call 95;((with_reducible refine armV (zk f _ _ _ h1.m h2.m Hok.out hp Hc) ?_);intro x7)))
      refine zl9 (W3:=(ext (w.alloc (bxFn f (.slice a n cap) (.slice a2 n2 cap2))) x3)) (fun X=>Own (fun _=>False) (w.heap.size+1+x3.k) 111 X u5 (tchO f (opsC (.st s)))∧X.heap[(w.heap.size+1+x3.k+z.k+x7.k)]?=some (bxSt s)) gw ⟨hown.mono gw,by have hh:=heap_alloc_new (ext (ext (ext (w.alloc (bxFn f (.slice a n cap) (.slice a2 n2 cap2))) x3) z) x7) (bxSt s);rw[show (ext (ext (ext (w.alloc (bxFn f (.slice a n cap) (.slice a2 n2 cap2))) x3) z) x7).heap.size=(w.heap.size+1+x3.k+z.k+x7.k) from by simp] at hh;exact hh⟩ ?_;rintro zz ⟨hown,hg0⟩;haveI:LtW (w.heap.size+1+x3.k+z.k+x7.k) (ext (ext (w.alloc (bxFn f (.slice a n cap) (.slice a2 n2 cap2))) x3) zz):=⟨(Array.getElem?_eq_some_iff.1 hg0).1⟩
      have hcell:=zaq hg0;have hrow:=zqh hg0;clear hgr;have HT:Hid (tchC f (coF f q)=tchO f (opsC (.st s))++[⟨s.pl,true,false⟩]):=Lib.hid (by rw[Hc.out,HO.out]);go_wp2_with (first|(go_at_call 146;((with_reducible refine armV (Htg.out _ h1.m h2.m) ?_);intro x8))|((at_builtin;(refine zh (α:=Th) za6 rfl rfl rfl (hown) gw (by first|exact Nat.le_refl _|(simp;done)|(simp;omega)) (by first|(simp;done)|(simp;omega)) rfl (y:=⟨s.pl,true,false⟩) (Gy:=fun _=>False) (⟨rfl,⟨hplw⟩⟩) (fun _ h=>h.elim) cel (by simp[Value.oneCell']) om om ?_);intro tvB xB hoB hszB hagrB);have hgB:=zh9 hagrB (hp_ne hown hg0 (by decide)) hg0;haveI:LtW (w.heap.size+1+x3.k+z.k+x7.k) (ext (ext (w.alloc (bxFn f (.slice a n cap) (.slice a2 n2 cap2))) x3) xB):=⟨(Array.getElem?_eq_some_iff.1 hgB).1⟩;have hcellB:=zaq hgB));refine zd (by simp only[results,Tryz.results100];go_simp<;>rfl) rfl gw ⟨?_,?_⟩
      ·rw[HT.out];exact(hoB.sl.wide (fun b hb hF=>by rcases hF with hF|hF;exact hF.elim;exact Or.inr (by first|omega|(simp at hF;omega)))).mono gw
      ·rw[HT.out];simp only[List.length_append,List.length_cons,List.length_nil];omega
    ·have e1:(s.kind==1)=false:=by simp[hk1]
     rw[e1] at Htg;by_cases hk3:s.kind=3
     ·have e3:(s.kind==3)=true:=by simp[hk3]
      have hpw0:Pl.wf ⟨s.loc,false,0⟩:=⟨hsw.loc,⟨by simp,by simp⟩⟩
      have HO:Hid (tchC f (.st s)=tchO f (opsC (.st s))++[⟨⟨s.loc,false,0⟩,true,false⟩]):=Lib.hid (by
       show tchS f s=tchO f (if s.kind=1 then ze s.r else if s.kind=3 then [] else [s.a])++_;rw[if_neg hk1,if_pos hk3];unfold tchS;rw[if_pos hk3];rfl)
      clear hk1 hk3;have HT:Hid (tchC f (coF f q)=tchO f (opsC (.st s))++[⟨⟨s.loc,false,0⟩,true,false⟩]):=Lib.hid (by rw[Hc.out,HO.out]);go_wp2_with (first|(go_at_call 95;((with_reducible refine armV (zk f _ _ _ h1.m h2.m Hok.out hp Hc) ?_);intro x7))|(go_at_call 146;((with_reducible refine armV (Htg.out _ h1.m h2.m) ?_);intro x8))|(at_builtin;(refine zh (α:=Th) za6 rfl rfl rfl (hown) gw (by first|exact Nat.le_refl _|(simp;done)|(simp;omega)) (by first|(simp;done)|(simp;omega)) rfl (y:=⟨⟨s.loc,false,0⟩,true,false⟩) (Gy:=fun _=>False) (⟨rfl,⟨hpw0⟩⟩) (fun _ h=>h.elim) cel (by simp[Value.oneCell']) om om ?_);intro tvB xB hoB hszB hagrB));refine zd (by simp only[results,Tryz.results100];go_simp<;>rfl) rfl gw ⟨?_,?_⟩
      ·rw[HT.out];exact(hoB.sl.wide (fun b hb hF=>by rcases hF with hF|hF;exact hF.elim;exact Or.inr (by first|omega|(simp at hF;omega)))).mono gw
      ·rw[HT.out];simp only[List.length_append,List.length_cons,List.length_nil];omega
     ·have e3:(s.kind==3)=false:=by simp[hk3]
      have HO:Hid (tchC f (.st s)=tchO f (opsC (.st s))):=Lib.hid (by
       show tchS f s=tchO f (if s.kind=1 then ze s.r else if s.kind=3 then [] else [s.a]);rw[if_neg hk1,if_neg hk3];unfold tchS;rw[if_neg hk3,if_neg hk1])
      clear hk1 hk3;have HT:Hid (tchC f (coF f q)=tchO f (opsC (.st s))):=Lib.hid (by rw[Hc.out,HO.out]);go_wp2_with (first|(go_at_call 95;((with_reducible refine armV (zk f _ _ _ h1.m h2.m Hok.out hp Hc) ?_);intro x7))|(go_at_call 146;((with_reducible refine armV (Htg.out _ h1.m h2.m) ?_);intro x8)));refine zd (by simp only[results,Tryz.results100];go_simp<;>rfl) rfl gw ⟨?_,?_⟩
      ·rw[HT.out];exact(hown.sl.wide (fun b hb hF=>by rcases hF with hF|hF;exact hF.elim;exact Or.inr (by first|omega|(simp at hF;omega)))).mono gw
      ·rw[HT.out];omega
   ·rw[hc] at hown hil hwf Hcok;have hjw:x.jump.wf:=hwf;have hdw:=hjw.dest;have Hc:=Lib.hid hc;have Htg:Hid (∀ w',Sl F w' (.slice a n cap) f.locals→Sl F' w' (.slice a2 n2 cap2) f.blocks→Calls Tryz.prog 146 #[f.v (.slice a n cap) (.slice a2 n2 cap2),.int .i64 (q:Nat)] w' (Ret w' (.tuple #[x.jump.dest.v,.bool (x.jump.kind==4)]))):=Lib.hid fun w' k1 k2=>by
     have h:=zet f _ _ w' k1 k2 Hok.out hp;rw[Hc.out] at h;exact h
    clear hc hwf;by_cases hk4:x.jump.kind=4
    ·have e4:(x.jump.kind==4)=true:=by simp[hk4]
     have e3:(x.jump.kind==3)=false:=by simp[hk4]
     rw[e4] at Htg;have HO:Hid (tchC f (.ju x.jump)=tchO f (opsC (.ju x.jump))++[⟨x.jump.dest,true,false⟩]):=Lib.hid (by
      show tchJ f x.jump=tchO f (zs x.jump)++_;unfold tchJ zs;rw[if_neg om,if_neg om,if_pos hk4,if_neg om])
     clear hk4;have HT:Hid (tchC f (coF f q)=tchO f (opsC (.ju x.jump))++[⟨x.jump.dest,true,false⟩]):=Lib.hid (by rw[Hc.out,HO.out]);go_wp2_with (first|(go_at_call 95;((with_reducible refine armV (zai f _ _ _ h1.m h2.m Hok.out hp Hc) ?_);intro x7))|(go_at_call 146;((with_reducible refine armV (Htg.out _ h1.m h2.m) ?_);intro x8))|(go_at_call 147;((with_reducible refine(zb2 f _ _ _ h1.m h2.m Hok.out hp).mono ?_);rintro e w9 ⟨v9,rfl,⟨av,rfl,hav⟩,hb9⟩;obtain⟨x9,rfl⟩:=za hb9;clear hb9;obtain⟨a9,n9,cap9,rfl,Hn9,hm9,hcap9,hcm9,hav⟩:=hav.open))|(at_builtin;(refine zh (α:=Th) za6 rfl rfl rfl (hown) gw (by first|exact Nat.le_refl _|(simp;done)|(simp;omega)) (by first|(simp;done)|(simp;omega)) rfl (y:=⟨x.jump.dest,true,false⟩) (Gy:=fun _=>False) (⟨rfl,⟨hdw⟩⟩) (fun _ h=>h.elim) cel (by simp[Value.oneCell']) om om ?_);intro tvB xB hoB hszB hagrB));refine zd (by simp only[results,Tryz.results100];go_simp<;>rfl) rfl gw ⟨?_,?_⟩
     ·rw[HT.out];exact(hoB.sl.wide (fun b hb hF=>by rcases hF with hF|hF;exact hF.elim;exact Or.inr (by first|omega|(simp at hF;omega)))).mono gw
     ·rw[HT.out];simp only[List.length_append,List.length_cons,List.length_nil];omega
    ·have e4:(x.jump.kind==4)=false:=by simp[hk4]
     rw[e4] at Htg;by_cases hk3:x.jump.kind=3
     ·have e3:(x.jump.kind==3)=true:=by simp[hk3]
      have HO:Hid (tchC f (.ju x.jump)=tchO f (opsC (.ju x.jump))++[⟨⟨0,false,0⟩,false,true⟩]):=Lib.hid (by
       show tchJ f x.jump=tchO f (zs x.jump)++_;unfold tchJ zs;rw[if_neg om,if_pos hk3,if_neg om,(Hcok.out.ju x.jump rfl).2.2.2 hk4];rfl)
      clear hk4 hk3;have HT:Hid (tchC f (coF f q)=tchO f (opsC (.ju x.jump))++[⟨⟨0,false,0⟩,false,true⟩]):=Lib.hid (by rw[Hc.out,HO.out]);go_wp2_with (first|(go_at_call 95;((with_reducible refine armV (zai f _ _ _ h1.m h2.m Hok.out hp Hc) ?_);intro x7))|(go_at_call 146;((with_reducible refine armV (Htg.out _ h1.m h2.m) ?_);intro x8))|(go_at_call 147;((with_reducible refine(zb2 f _ _ _ h1.m h2.m Hok.out hp).mono ?_);rintro e w9 ⟨v9,rfl,⟨av,rfl,hav⟩,hb9⟩;obtain⟨x9,rfl⟩:=za hb9;clear hb9;obtain⟨a9,n9,cap9,rfl,Hn9,hm9,hcap9,hcm9,hav⟩:=hav.open))|(at_builtin;(refine zh (α:=Th) za6 rfl rfl rfl (hown) gw (by first|exact Nat.le_refl _|(simp;done)|(simp;omega)) (by first|(simp;done)|(simp;omega)) rfl (y:=⟨⟨0,false,0⟩,false,true⟩) (Gy:=fun _=>False) (⟨rfl,⟨⟨⟨by decide,by decide⟩,⟨by decide,by decide⟩⟩⟩⟩) (fun _ h=>h.elim) cel (by simp[Value.oneCell']) om om ?_);intro tvB xB hoB hszB hagrB));refine zd (by simp only[results,Tryz.results100];go_simp<;>rfl) rfl gw ⟨?_,?_⟩
      ·rw[HT.out];exact(hoB.sl.wide (fun b hb hF=>by rcases hF with hF|hF;exact hF.elim;exact Or.inr (by first|omega|(simp at hF;omega)))).mono gw
      ·rw[HT.out];simp only[List.length_append,List.length_cons,List.length_nil];omega
     ·have e3:(x.jump.kind==3)=false:=by simp[hk3]
      have HO:Hid (tchC f (.ju x.jump)=tchO f (opsC (.ju x.jump))):=Lib.hid (by
       show tchJ f x.jump=tchO f (zs x.jump);unfold tchJ zs;by_cases h2:x.jump.kind=2
       ·rw[if_pos h2,if_pos h2]
       ·rw[if_neg h2,if_neg hk3,if_neg hk4,if_neg h2,(Hcok.out.ju x.jump rfl).2.2.2 hk4];rfl)
      clear hk4 hk3;have HT:Hid (tchC f (coF f q)=tchO f (opsC (.ju x.jump))):=Lib.hid (by rw[Hc.out,HO.out]);go_wp2_with (first|(go_at_call 95;((with_reducible refine armV (zai f _ _ _ h1.m h2.m Hok.out hp Hc) ?_);intro x7))|(go_at_call 146;((with_reducible refine armV (Htg.out _ h1.m h2.m) ?_);intro x8))|(go_at_call 147;((with_reducible refine(zb2 f _ _ _ h1.m h2.m Hok.out hp).mono ?_);rintro e w9 ⟨v9,rfl,⟨av,rfl,hav⟩,hb9⟩;obtain⟨x9,rfl⟩:=za hb9;clear hb9;obtain⟨a9,n9,cap9,rfl,Hn9,hm9,hcap9,hcm9,hav⟩:=hav.open)));refine zd (by simp only[results,Tryz.results100];go_simp<;>rfl) rfl gw ⟨?_,?_⟩
      ·rw[HT.out];exact(hown.sl.wide (fun b hb hF=>by rcases hF with hF|hF;exact hF.elim;exact Or.inr (by first|omega|(simp at hF;omega)))).mono gw
      ·rw[HT.out];omega
theorem ze8 (k N : Nat)(M : Nat→Nat→Bool): rL (k+1) N M=rL k N M++[bL N (M k)]:=by simp[rL,List.range_succ]
theorem zr0 (f : Fn)(v1 v2 : Value)(w : World){F F' : Nat→Prop}(hf : f.wf)(h1 : Sl F w v1 f.locals)(h2 : Sl F' w v2 f.blocks)(hok : fnErr f=0):
  Calls Tryz.prog 140 #[f.v v1 v2] w (RetP w fun v w'=>∃ u,v = .tuple #[u,.int .i64 0]∧Own (fun _=>False) w.heap.size 66 w' u (rL f.locals.length (zb f) (lifB f))):=by
 obtain⟨a,n,cap,rfl,Hn,hm,hcap,hcm,h1⟩:=h1.open;obtain⟨a2,n2,cap2,rfl,Hn2,hm2,hcap2,hcm2,h2⟩:=h2.open;have Hok:=Lib.hid hok;have hok' : (fnErr f != 0)=false:=by simp[hok]
 have hN6:=zp hok;have hn16:n≤16:=by rw[Hn.out];exact(zt hok).2.2
 clear hok;have Hown:Hid (∀ k,k<n→∀ w',Sl F w' (.slice a n cap) f.locals→Sl F' w' (.slice a2 n2 cap2) f.blocks→Calls Tryz.prog 180 #[f.v (.slice a n cap) (.slice a2 n2 cap2),.int .i64 (k:Nat)] w' (RetP w' fun v w''=>Sl (Fresh w') w'' v (bL (zb f) (lifB f k)))):=Lib.hid fun k hk w' k1 k2=>zwj f _ _ w' k1 k2 Hok.out k (by rw[←Hn.out];exact hk);rw[←Hn.out];generalize (zb f)=N at Hown hN6 ⊢;go_enter Tryz.func140,Tryz.ntmps140
 go_wp2_with (first|(go_at_call 26;((with_reducible refine armV (zfe f _ _ _ hf h1.m h2.m) ?_);intro x1)));go_loopw [5,6] (fun tv ti wr=>∃ k:Nat,k≤n∧ti = .int .i64 k∧Grow (w.alloc (bxFn f (.slice a n cap) (.slice a2 n2 cap2))) wr∧Own (fun _=>False) (w.heap.size+1) 66 wr tv (rL k N (lifB f))) (fun _ ti _=>n - (intOf ti).toNat)
 case atStart=>exact⟨0,Nat.zero_le _,rfl,gw,Own.nil _ _ _ _⟩
 case round =>
  obtain⟨k,hk,rfl,hgr,hown⟩:=hrel;obtain⟨z,rfl⟩:=za hgr;by_cases hlt:k<n
  ·have Hsn:=Lib.hid (ze8 k N (lifB f));have hil:(rL k N (lifB f)).length=k:=zaz ..;go_wp2_with (first|(go_at_call 180;((with_reducible refine armS (Hown.out k hlt _ h1.m h2.m) ?_);intro a4 n4 cap4 x4 Hn4 hm4 hcap4 hcm4 hs4))|(at_builtin;go_must (refine zd3 zey rfl rfl rfl (hown) gw (by first|exact Nat.le_refl _|(simp;done)|(simp;omega)) (by first|exact Nat.le_refl _|(simp;done)|(simp;omega)) rfl (hs4) gw (by first|exact Nat.le_refl _|(simp;done)|(simp;omega)) cel om om ?_);intro tv5 x5 ho5 hsz5));go_roundw
   case rel=>exact⟨k+1,by omega,by go_num,gw,by rw[Hsn.out];exact ho5⟩
   case measure=>exact me
  ·obtain rfl:k=n:=om;go_wp2_with fail;refine zd (by simp only[results,Tryz.results140];go_simp<;>rfl) rfl gw ⟨_,rfl,?_⟩;exact(hown.lower (Nat.le_succ _)).mono gw
def lidx : List Int→Int→Nat→Int
 |[],_,_=>-1
 |y::l,x,k=>if y=x then (k:Int) else lidx l x (k+1)
theorem ztq : ∀ (l : List Int) (x : Int) (r : List Int) (k : Nat),(∀ y∈l,y≠x)→lidx (l++x::r) x k=((k+l.length : Nat) : Int)
 |[],x,r,k,_=>by simp[lidx]
 |y::l,x,r,k,h=>by
  rw[List.cons_append,lidx,if_neg (h y (by simp)),ztq l x r (k+1) (fun z hz=>h z (by simp[hz]))];congr 1;simp;omega
theorem ztr : ∀ (l : List Int) (x : Int) (k : Nat),-1≤lidx l x k∧lidx l x k≤((k+l.length : Nat) : Int)
 |[],x,k=>by simp[lidx]
 |y::l,x,k=>by
  rw[lidx];split
  ·simp<;>omega
  ·have:=ztr l x (k+1);simp at this ⊢;omega
theorem zup (f : Fn)(v1 v2 : Value)(w : World){F F' : Nat→Prop}(h1 : Sl F w v1 f.locals)(h2 : Sl F' w v2 f.blocks)(hok : fnErr f=0)(q : Nat)(hq : q≤1000):
  Calls Tryz.prog 210 #[f.v v1 v2,.int .i64 (q:Nat)] w (Ret w (.int .i64 (lidx (lptP f (zb f)) (q:Nat) 0))):=by
 obtain⟨a,n,cap,rfl,Hn,hm,hcap,hcm,h1⟩:=h1.open;obtain⟨a2,n2,cap2,rfl,Hn2,hm2,hcap2,hcm2,h2⟩:=h2.open;have Hok:=Lib.hid hok;clear hok;have Hpo:=Lib.hid fun (w':World) (k1:Sl F w' (.slice a n cap) f.locals) (k2:Sl F' w' (.slice a2 n2 cap2) f.blocks)=>zgr f _ _ w' k1 k2 Hok.out;have hll:(lptP f (zb f)).length≤600:=Nat.le_trans (zla f _) (zp Hok.out);generalize (lptP f (zb f))=L at Hpo hll ⊢;go_enter Tryz.func210,Tryz.ntmps210
 go_wp2_with (first|(go_at_call 94;((with_reducible refine armS (Hpo.out _ h1.m h2.m) ?_);intro a4 n4 cap4 x4 Hn4 hm4 hcap4 hcm4 hs4)));have hn4:n4≤600:=by rw[Hn4.out];exact hll
 go_loopw [6] (fun ti wr=>∃ k:Nat,k≤n4∧ti = .int .i64 k∧Grow (ext (w.alloc (bxFn f (.slice a n cap) (.slice a2 n2 cap2))) x4) wr∧Hid (lidx L (q:Nat) 0=lidx (L.drop k) (q:Nat) k)) (fun ti _=>n4 - (intOf ti).toNat)
 case atStart=>exact⟨0,Nat.zero_le _,rfl,gw,Lib.hid rfl⟩
 case round =>
  obtain⟨k,hk,rfl,hgr,Hx⟩:=hrel;obtain⟨z,rfl⟩:=za hgr;by_cases hlt:k<n4
  ·obtain⟨g4,o4,r,rfl,⟨Hr,hrl,hrw,hcr⟩⟩:=hs4.int k hlt;have Hd:=Lib.hid (zbm Hr);by_cases he:r=(q:Int)
   ·have hb:(r==(q:Int))=true:=by simp[he]
    have Hv:Hid (lidx L (q:Nat) 0=(k:Int)):=Lib.hid (by rw[Hx.out,Hd.out,lidx,if_pos he]);clear he;go_wp2_with fail
    ((try simp only[Exit.inBlock,Exit.then]);refine zf (by simp only[results,Tryz.results210];go_simp;rfl) rfl gw ?_)
    rw[Hv.out]
   ·have hb:(r==(q:Int))=false:=by simp[he]
    have Hv:Hid (lidx L (q:Nat) 0=lidx (L.drop (k+1)) (q:Nat) (k+1)):=Lib.hid (by rw[Hx.out,Hd.out,lidx,if_neg he]);clear he;go_wp2_with fail;go_roundw
    case rel=>exact⟨k+1,by omega,by go_num,gw,Hv⟩
    case measure=>exact me
  ·have Hv:Hid (lidx L (q:Nat) 0 = -1):=Lib.hid (by rw[Hx.out,zbc Hn4 om];rfl);go_wp2_with fail
   ((try simp only[Exit.inBlock,Exit.then]);refine zf (by simp only[results,Tryz.results210];go_simp;rfl) rfl gw ?_)
   rw[Hv.out]
def whyC (f : Fn)(q k : Nat)(kind : Int): Co→Option Cn
 |.ju _=>none
 |.st s =>
  if s.kind=1∧whole s.pl=true then
   if kind=1 then (if s.r.kind=1∧s.r.a.kind≠1∧whole s.r.a.pl=true∧refB f s.r.a.pl.loc=true∧refB f s.pl.loc=true then some ⟨s.r.a.pl.loc,s.pl.loc,q,1⟩ else none)
   else if kind=2 then (if s.r.kind=4 then some ⟨(f.locals.length:Int)+k,s.pl.loc,q,2⟩ else none)
   else (if s.r.kind=4∧s.r.pl.deref=true∧refB f s.r.pl.loc=true then some ⟨s.r.pl.loc,s.pl.loc,q,3⟩ else none)
  else none
theorem znf (f : Fn)(q k : Nat)(c : Co): conC f q k c=(whyC f q k 1 c).toList++((whyC f q k 2 c).toList++(whyC f q k 3 c).toList):=by
 cases c with
 |ju j=>rfl
 |st s =>
  unfold conC whyC;simp only;by_cases h1:s.kind=1∧whole s.pl=true
  ·rw[if_pos h1,if_pos h1,if_pos h1,if_pos h1];simp only[if_true,show ¬((2:Int)=1) from by decide,show ¬((3:Int)=1) from by decide,show ¬((3:Int)=2) from by decide,if_false];by_cases h4:s.r.kind=4
   ·have n1:¬(s.r.kind=1∧s.r.a.kind≠1∧whole s.r.a.pl=true∧refB f s.r.a.pl.loc=true∧refB f s.pl.loc=true):=fun h=>by have:=h.1;omega
    rw[if_pos h4,if_neg n1,if_pos h4];by_cases h5:s.r.pl.deref=true∧refB f s.r.pl.loc=true
    ·rw[if_pos h5,if_pos ⟨h4,h5⟩];rfl
    ·have n2:¬(s.r.kind=4∧s.r.pl.deref=true∧refB f s.r.pl.loc=true):=fun h=>h5 h.2;rw[if_neg h5,if_neg n2];rfl
   ·have n2:¬(s.r.kind=4∧s.r.pl.deref=true∧refB f s.r.pl.loc=true):=fun h=>h4 h.1;rw[if_neg h4,if_neg h4,if_neg n2];split<;>rfl
  ·rw[if_neg h1,if_neg h1,if_neg h1,if_neg h1];rfl
theorem zji : SlT Tryz.prog 84 136 6 40:=SlT.mk' (z:=.agg #[.int .i64 0,.int .i64 0,.bool false,.int .u8 0,.int .u8 0,.int .i64 0]) Tryz.underlying84 (by kernel_rfl) rfl om
def loS (q : Nat)(s : St): Lo:=⟨q,s.r.pl,s.r.bo,if whole s.pl=true then s.pl.loc else -1⟩
structure LoAt (f : Fn)(x : Lo)(q : Nat)(s : St): Prop where
 lt:q<zb f
 co:coF f q = .st s
 k1:s.kind=1
 k4:s.r.kind=4
 eq:x=loS q s
theorem LoAt.of {f : Fn}{x : Lo}(h : x∈zi f): ∃ q s,LoAt f x q s:=by
 obtain⟨q,hq,hx⟩:=zn2 h;unfold loanC at hx;split at hx
 ·rename_i s hs;split at hx
  ·rename_i hh;rw[List.mem_singleton] at hx;exact⟨q,s,hq,hs,hh.1,hh.2,hx⟩
  ·cases hx
 ·cases hx
theorem zkl (f : Fn)(v1 v2 : Value)(w : World){F F' : Nat→Prop}(h1 : Sl F w v1 f.locals)(h2 : Sl F' w v2 f.blocks)(hok : fnErr f=0):
  Calls Tryz.prog 59 #[f.v v1 v2] w (RetP w fun v w'=>Sl (Fresh w) w' v (zi f)):=by
 have h2':=h2;obtain⟨a,n,cap,rfl,Hn,hm,hcap,hcm,h1⟩:=h1.open;obtain⟨a2,n2,cap2,rfl,Hn2,hm2,hcap2,hcm2,h2⟩:=h2.open;have Hok:=Lib.hid hok;have hN6:=zp hok;have h16:=(zt hok).2.2;clear hok;have hll:(zi f).length≤600:=Nat.le_trans (zas f _) hN6;have Hpo:Hid (∀ w',Sl F w' (.slice a n cap) f.locals→Sl F' w' (.slice a2 n2 cap2) f.blocks→Calls Tryz.prog 94 #[f.v (.slice a n cap) (.slice a2 n2 cap2)] w' (RetP w' fun v w''=>Sl (Fresh w') w'' v ((zi f).map fun x=>x.at_))):=(Lib.hid fun w' k1 k2=>zgr f _ _ w' k1 k2 Hok.out)
 have Hat:Hid (∀ x∈zi f,∃ q s,LoAt f x q s):=Lib.hid fun x hx=>LoAt.of hx;generalize (zi f)=L at Hpo hll Hat ⊢;go_enter Tryz.func59,Tryz.ntmps59
 go_wp2_with (first|(go_at_call 94;((with_reducible refine armS (Hpo.out _ h1.m h2.m) ?_);intro a3 n3 cap3 x3 Hn3 hm3 hcap3 hcm3 hs3)));have hn3:n3≤600:=by rw[Hn3.out,List.length_map];exact hll
 go_loopw [4,5] (fun tv ti wr=>∃ k:Nat,k≤n3∧ti = .int .i64 k∧Grow (ext (w.alloc (bxFn f (.slice a n cap) (.slice a2 n2 cap2))) x3) wr∧Own (fun _=>False) (w.heap.size+1+x3.k) 136 wr tv (L.take k)) (fun _ ti _=>n3 - (intOf ti).toNat)
 case atStart=>exact⟨0,Nat.zero_le _,rfl,gw,Own.nil _ _ _ _⟩
 case round =>
  obtain⟨k,hk,rfl,hgr,hown⟩:=hrel;obtain⟨z,rfl⟩:=za hgr;by_cases hlt:k<n3
  ·obtain⟨g3,o3,r,rfl,⟨Hr,hrl,hrw,hcr⟩⟩:=hs3.int k hlt;obtain⟨x,hxk,hxr⟩:∃ x,L[k]?=some x∧x.at_=r:=by
    have e:=Hr.out;rw[List.getElem?_map] at e;obtain⟨x,h1,h2⟩:=Option.map_eq_some_iff.1 e;exact⟨x,h1,h2⟩
   obtain⟨q,s,hx⟩:=Hat.out x (List.mem_of_getElem? hxk);obtain rfl:r=(q:Int):=by rw[←hxr,hx.eq];rfl
   obtain⟨pb,pi,px,hp⟩:=PtAt.of hx.lt;have hsw:s.wf:=by have:=hp.wf h2';rw[hx.co] at this;exact this
   have Hc:=Lib.hid hx.co;have Hx:=Lib.hid hx.eq;have Htk:Hid (L.take (k+1)=L.take k++[loS q s]):=Lib.hid (by rw[List.take_add_one,hxk,←Hx.out];rfl);have hqN:=hx.lt;have hil:(L.take k).length≤600:=by rw[List.length_take];omega
   have hlw:∀ z:Int,z = -1∨z=s.pl.loc→I64 z:=fun z hz=>by rcases hz with rfl|rfl;exact⟨by omega,by omega⟩;exact hsw.pl.loc
   have Hq:Hid (∀ z:Int,z = -1∨z=s.pl.loc→Lo.wf ⟨(q:Int),s.r.pl,s.r.bo,z⟩):=Lib.hid fun z hz=>⟨⟨by simp only;omega,by simp only;omega⟩,hsw.r.pl,hsw.r.bo,hlw z hz⟩
   clear hx hxk hxr hlw;have Hpw:=Lib.hid (fun w'=>zbg s.pl w');cases hw:whole s.pl;all_goals
    rw[hw] at Hpw;have Hl:Hid (loS q s=⟨q,s.r.pl,s.r.bo,if whole s.pl=true then s.pl.loc else -1⟩):=Lib.hid rfl;rw[hw] at Hl;simp only[Bool.false_eq_true,if_false,if_true] at Hl;clear hw;go_wp2_with fail
    (refine z8 12 (by kernel_rfl) (by rfl) ?_;((iterate 5 ((first|refine JqW 0 ?_|refine JqW 1 ?_|refine JqW 2 ?_|refine JqW 3 ?_|refine JqW 4 ?_);(first|go_big_quiet_step (fail)|(refine wpQuiet_step (fun K hK=>?_);go_simp;split<;>(refine hK _ ?_;clear hK K)));refine wpQuiet_nil ?_));(repeat (any_goals (first|((first|refine JqW 6 ?_|refine JqW 7 ?_|refine JqW 8 ?_|refine JqW 11 ?_);(first|go_big_quiet_step (fail)|(refine wpQuiet_step (fun K hK=>?_);go_simp;split<;>(refine hK _ ?_;clear hK K)));refine wpQuiet_nil ?_)|((first|(refine J_any [5,9] (by decide +kernel) ?_;refine⟨?_,?_⟩)|(refine J_any [5] (by decide +kernel) ?_)|(refine J_any [9] (by decide +kernel) ?_)|(refine J_any [10] (by decide +kernel) ?_)|(refine J_any [11] (by decide +kernel) ?_))<;>(refine⟨_,rfl,fun K hK=>?_⟩;go_wp2_with (first|(go_at_call 95;((with_reducible refine(zk f _ _ _ h1.m h2.m Hok.out hp Hc).mono ?_);rintro e w4 ⟨rfl,hb4⟩;obtain⟨x4,rfl⟩:=za hb4;clear hb4)));refine hK _ _ (za gw) ?_;clear hK K))))));all_goals (refine J_end (by decide +kernel) ?_))
    all_goals
     go_wp2_with fail
     (refine z8 16 (by kernel_rfl) (by rfl) ?_;((iterate 14 ((first|refine JqW 0 ?_|refine JqW 1 ?_|refine JqW 2 ?_|refine JqW 3 ?_|refine JqW 4 ?_|refine JqW 5 ?_|refine JqW 6 ?_|refine JqW 7 ?_|refine JqW 8 ?_|refine JqW 9 ?_|refine JqW 10 ?_|refine JqW 11 ?_|refine JqW 12 ?_|refine JqW 13 ?_);(first|go_big_quiet_step (fail)|(refine wpQuiet_step (fun K hK=>?_);go_simp;split<;>(refine hK _ ?_;clear hK K)));refine wpQuiet_nil ?_));(repeat (any_goals (first|(refine JqW 15 ?_;(first|go_big_quiet_step (fail)|(refine wpQuiet_step (fun K hK=>?_);go_simp;split<;>(refine hK _ ?_;clear hK K)));refine wpQuiet_nil ?_)|((first|(refine J_any [14] (by decide +kernel) ?_)|(refine J_any [15] (by decide +kernel) ?_))<;>(refine⟨_,rfl,fun K hK=>?_⟩;go_wp2_with (fail);refine hK _ _ (za gw) ?_;clear hK K))))));all_goals (refine J_end (by decide +kernel) ?_))
   all_goals
    first
    |(
      go_wp2_with (first|(go_at_call 96;((with_reducible refine armV (Hpw.out _) ?_);intro x5))|(at_builtin;go_must (refine zh (α:=Lo) zji rfl rfl rfl (hown) gw (by first|exact Nat.le_refl _|(simp;done)|(simp;omega)) (by first|(simp;done)|(simp;omega)) rfl (y:=⟨(q:Int),s.r.pl,s.r.bo,-1⟩) (Gy:=fun _=>False) (⟨rfl,Hq.out _ (Or.inl rfl)⟩) (fun _ h=>h.elim) cel (by simp[Value.oneCell']) om om ?_);intro tv6 x6 ho6 hsz6 hagr6));go_roundw
      case rel=>exact⟨k+1,by omega,by go_num,gw,by rw[Htk.out,Hl.out];exact ho6⟩
      case measure=>(simp[intOf];omega))
    |(
      go_wp2_with (first|(go_at_call 96;((with_reducible refine armV (Hpw.out _) ?_);intro x5))|(at_builtin;go_must (refine zh (α:=Lo) zji rfl rfl rfl (hown) gw (by first|exact Nat.le_refl _|(simp;done)|(simp;omega)) (by first|(simp;done)|(simp;omega)) rfl (y:=⟨(q:Int),s.r.pl,s.r.bo,s.pl.loc⟩) (Gy:=fun _=>False) (⟨rfl,Hq.out _ (Or.inr rfl)⟩) (fun _ h=>h.elim) cel (by simp[Value.oneCell']) om om ?_);intro tv6 x6 ho6 hsz6 hagr6));go_roundw
      case rel=>exact⟨k+1,by omega,by go_num,gw,by rw[Htk.out,Hl.out];exact ho6⟩
      case measure=>(simp[intOf];omega))
  ·obtain rfl:k=n3:=om;have He:Hid (L.take k=L):=Lib.hid (List.take_of_length_le (by rw[Hn3.out,List.length_map];exact Nat.le_refl _));rw[He.out] at hown;go_wp2_with fail;refine zd (by simp only[results,Tryz.results59];go_simp<;>rfl) rfl gw ?_;exact(hown.sl.wide (fun b hb hF=>by rcases hF with hF|hF;exact hF.elim;exact Or.inr (by first|omega|(simp at hF;omega)))).mono gw
theorem zqk (f : Fn)(x : Lo)(v1 v2 : Value)(w : World){F F' : Nat→Prop}(h1 : Sl F w v1 f.locals)(h2 : Sl F' w v2 f.blocks)(hok : fnErr f=0){q b i : Nat}{y : Bk}(hp : PtAt f q b i y):
  Calls Tryz.prog 143 #[f.v v1 v2,x.v,.int .i64 (q:Nat)] w (Ret w (.bool (killB f x q))):=by
 obtain⟨a,n,cap,rfl,Hn,hm,hcap,hcm,h1⟩:=h1.open;obtain⟨a2,n2,cap2,rfl,Hn2,hm2,hcap2,hcm2,h2⟩:=h2.open;have Hok:=Lib.hid hok;clear hok;cases hd:x.pl.deref
 ·have He:Hid (killB f x q=false):=Lib.hid (by unfold killB;rw[hd];rfl);rw[He.out];go_enter Tryz.func143,Tryz.ntmps143
  go_wp2_with fail
  (refine zg (by kernel_rfl) (by kernel_rfl) ?_;(repeat (any_goals (first|go_big_quiet_step (first|fail)|(refine wpQuiet_step (fun K hK=>?_);go_simp;split<;>(refine hK _ ?_;clear hK K)))));all_goals (refine wpQuiet_nil ?_;intro w5 hb5;obtain⟨x5,rfl⟩:=za hb5;clear hb5))
  go_wp2_with fail
  ((try simp only[Exit.inBlock,Exit.then]);refine zf (by simp only[results,Tryz.results143];go_simp;rfl) rfl gw ?_)
  rfl
 ·have He:Hid (killB f x q=(setC (coF f q)==x.pl.loc)):=Lib.hid (by unfold killB;rw[hd];rfl);rw[He.out];have Hset:=Lib.hid (fun w' k1 k2=>zoe f (.slice a n cap) (.slice a2 n2 cap2) w' (F:=F) (F':=F') k1 k2 Hok.out hp);go_enter Tryz.func143,Tryz.ntmps143
  go_wp2_with fail
  (refine zg (by kernel_rfl) (by kernel_rfl) ?_;(repeat (any_goals (first|go_big_quiet_step (first|(go_at_call 183;refine zr (Hset.out _ h1.m h2.m)))|(refine wpQuiet_step (fun K hK=>?_);go_simp;split<;>(refine hK _ ?_;clear hK K)))));all_goals (refine wpQuiet_nil ?_;intro w5 hb5;obtain⟨x5,rfl⟩:=za hb5;clear hb5))
  go_wp2_with fail
  ((try simp only[Exit.inBlock,Exit.then]);refine zf (by simp only[results,Tryz.results143];go_simp;rfl) rfl gw ?_)
  rfl
theorem zuq (f : Fn)(x : Lo)(v1 v2 : Value)(w : World){F F' : Nat→Prop}(h1 : Sl F w v1 f.locals)(h2 : Sl F' w v2 f.blocks)(hok : fnErr f=0){q b i : Nat}{y : Bk}(hp : PtAt f q b i y)(hx : x.loc<16):
  Calls Tryz.prog 144 #[f.v v1 v2,x.v,.int .i64 (q:Nat)] w (Ret w (.bool (usesX f x q))):=by
 obtain⟨a,n,cap,rfl,Hn,hm,hcap,hcm,h1⟩:=h1.open;obtain⟨a2,n2,cap2,rfl,Hn2,hm2,hcap2,hcm2,h2⟩:=h2.open;have Hok:=Lib.hid hok;clear hok;by_cases hb:x.bo=3
 ·have e3:(x.bo==3)=true:=by simp[hb]
  by_cases hl:0≤x.loc
  ·obtain⟨t,ht⟩:=Int.eq_ofNat_of_zero_le hl;have ht16:t<16:=om;have He:Hid (usesX f x q=usesC (coF f q) t):=Lib.hid (by unfold usesX;rw[decide_eq_true hb,decide_eq_true hl,ht];simp);have hix:∀ w' : World,(Instr.index 68 (.agg (is16 (usedL (coF f q)))) (.int .i64 (t:Nat))).run Tryz.prog w' = .ok (.bool (usesC (coF f q) t)) w':=fun w'=>by rw[zdo w' _ t ht16,zfn]
   have Hus:=Lib.hid (fun w' k1 k2=>zim f (.slice a n cap) (.slice a2 n2 cap2) w' (F:=F) (F':=F') k1 k2 Hok.out hp);clear hb hl hx;rw[He.out];go_enter Tryz.func144,Tryz.ntmps144
   go_wp2_with fail
   (refine zg (by kernel_rfl) (by kernel_rfl) ?_;(repeat (any_goals (first|go_big_quiet_step (first|(go_at_call 102;refine zr (Hus.out _ h1.m h2.m)))|(refine wpQuiet_step (fun K hK=>?_);go_simp;split<;>(refine hK _ ?_;clear hK K)))));all_goals (refine wpQuiet_nil ?_;intro w5 hb5;obtain⟨x5,rfl⟩:=za hb5;clear hb5))
   go_wp2_with fail
   ((try simp only[Exit.inBlock,Exit.then]);refine zf (by simp only[results,Tryz.results144];go_simp;rfl) rfl gw ?_)
   rfl
  ·have He:Hid (usesX f x q=false):=Lib.hid (by unfold usesX;rw[decide_eq_false hl];simp);have hl2:decide (0≤x.loc)=false:=decide_eq_false hl;clear hb hx;rw[He.out];go_enter Tryz.func144,Tryz.ntmps144
   go_wp2_with fail
   (refine zg (by kernel_rfl) (by kernel_rfl) ?_;(repeat (any_goals (first|go_big_quiet_step (first|fail)|(refine wpQuiet_step (fun K hK=>?_);go_simp;split<;>(refine hK _ ?_;clear hK K)))));all_goals (refine wpQuiet_nil ?_;intro w5 hb5;obtain⟨x5,rfl⟩:=za hb5;clear hb5))
   go_wp2_with fail
   ((try simp only[Exit.inBlock,Exit.then]);refine zf (by simp only[results,Tryz.results144];go_simp;rfl) rfl gw ?_)
   rfl
 ·have e3:(x.bo==3)=false:=by simp[hb]
  have He:Hid (usesX f x q=false):=Lib.hid (by unfold usesX;rw[decide_eq_false hb];rfl);clear hb hx;rw[He.out];go_enter Tryz.func144,Tryz.ntmps144
  go_wp2_with fail
  (refine zg (by kernel_rfl) (by kernel_rfl) ?_;(repeat (any_goals (first|go_big_quiet_step (first|fail)|(refine wpQuiet_step (fun K hK=>?_);go_simp;split<;>(refine hK _ ?_;clear hK K)))));all_goals (refine wpQuiet_nil ?_;intro w5 hb5;obtain⟨x5,rfl⟩:=za hb5;clear hb5))
  go_wp2_with fail
  ((try simp only[Exit.inBlock,Exit.then]);refine zf (by simp only[results,Tryz.results144];go_simp;rfl) rfl gw ?_)
  rfl
end Go.Proofs.YtacmoaeglbggjaaGreat
