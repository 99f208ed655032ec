/- A part of the proof. -/
import Derived.Test.YtacmoaeglbggjaaGreatQ28
namespace Go.Proofs.YtacmoaeglbggjaaGreat
open Go.RowKit
set_option linter.unusedSimpArgs false
set_option linter.unusedVariables false
set_option maxRecDepth 100000
set_option maxHeartbeats 16000000
theorem zso : LeaOk:=by
 intro bv lv w Fb Fl R N bM l hb hl hin hR1 hR hN1 hN hlen;obtain⟨a,n,cap,rfl,Hn,hm,hcap,hcm,hb⟩:=hb.open;obtain⟨a2,n2,cap2,rfl,Hn2,hm2,hcap2,hcm2,hl⟩:=hl.open;obtain rfl:R=n:=by rw[Hn.out,zaz]
 have Hin:=Lib.hid hin;have hn2:n2≤1152:=by rw[Hn2.out];exact hlen
 have Hck:=Lib.hid fun (w':World) (k1:Sl Fb w' (.slice a R cap) (rL R N bM)) (k2:Sl Fl w' (.slice a2 n2 cap2) l)=>zsm _ _ w' k1 k2 (fun c hc=>by obtain⟨t,fr,e1,e2,h1,h2⟩:=Hin.out c hc;rw[e1,e2];omega) hR1 hR hN1 hN hlen;obtain⟨g,o,rfl,hlg⟩:=hb.addr om;clear hin hlen;go_enter Tryz.func240,Tryz.ntmps240
 go_wp2_with fail;refine zmv 0 (fun n' a' w'=>∃ (A0:World) (g1 g2 s3:Nat) (vs vb:Nat→Value) (M:Nat→Nat→Bool) (work:List Int) (p:Nat) (wv:Value),(a'.tmps.size=110∧a'.defers = []∧a'.eval (.tmp 7) = .slice (some ⟨g1,0,none⟩) R R∧a'.eval (.tmp 10) = .slice (some ⟨g2,0,none⟩) R R∧a'.eval (.tmp 13)=wv∧a'.eval (.tmp 15) = .int .i64 ((p:Nat):Int))∧p≤work.length∧g1=A0.heap.size∧Grow w A0∧Grow (A0.alloc (.cells (vA R vs) 66)) w'∧LzS (g1+1) g2 s3 R N 74 3 vs vb (byL l) w' wv M work∧g1<g2∧Hid (LS l R N bM M (work.drop p))∧Hid (bitsR R N M+work.length≤400000)∧Hid (n'=bitsR R N M+(work.length - p))) rfl ?_ ?_
 ·rintro mu a' w' ⟨A0,g1,g2,s3,vs,vb,M,work,p,wv,⟨hfs,hfd,e7,e10,e13,e15⟩,hp,rfl,hgw,hgr,HZ,hg2,HL,Hb,Hg⟩ RR Hgo Hret;obtain⟨f,hf,hfk⟩:=zxa hfs hfd;rw[hfk] at e7 e10 e13 e15;clear hfs hfd hfk;subst hf;rw[show (List.range 110).map f = [f 0,f 1,f 2,f 3,f 4,f 5,f 6,f 7,f 8,f 9,f 10,f 11,f 12,f 13,f 14,f 15,f 16,f 17,f 18,f 19,f 20,f 21,f 22,f 23,f 24,f 25,f 26,f 27,f 28,f 29,f 30,f 31,f 32,f 33,f 34,f 35,f 36,f 37,f 38,f 39,f 40,f 41,f 42,f 43,f 44,f 45,f 46,f 47,f 48,f 49,f 50,f 51,f 52,f 53,f 54,f 55,f 56,f 57,f 58,f 59,f 60,f 61,f 62,f 63,f 64,f 65,f 66,f 67,f 68,f 69,f 70,f 71,f 72,f 73,f 74,f 75,f 76,f 77,f 78,f 79,f 80,f 81,f 82,f 83,f 84,f 85,f 86,f 87,f 88,f 89,f 90,f 91,f 92,f 93,f 94,f 95,f 96,f 97,f 98,f 99,f 100,f 101,f 102,f 103,f 104,f 105,f 106,f 107,f 108,f 109] by kernel_rfl];rw[e7,e10,e13,e15];clear e7 e10 e13 e15;obtain⟨z,rfl⟩:=za hgr;clear hb hl Hck hgr;have hgs:=HZ.gs;obtain⟨wa,wc,rfl,hwl⟩:=HZ.own.shape;obtain⟨wn,Hwn⟩:∃ wn,wn=work.length:=⟨_,rfl⟩
  have hwn6:wn≤400000:=by have h1:=Hb.out;omega
  rw[←Hwn] at hp hwl;have hwv:(Value.slice wa work.length wc) = .slice wa wn wc:=by rw[Hwn]
  rw[hwv] at HZ ⊢;replace Hwn:=Lib.hid Hwn;clear hwv;by_cases hlt:p<wn
  ·have hpw:(((p:Nat):Int)==((wn:Nat):Int))=false:=by simp;omega
   have hsl:=HZ.own.sl;obtain⟨gp,op,c',rfl,⟨Hc,hlc,hwc,hcc⟩⟩:=hsl.int p hlt;have hdr:work.drop p=c'::work.drop (p+1):=by
    obtain⟨h1,h2⟩:=List.getElem?_eq_some_iff.1 Hc.out;rw[List.drop_eq_getElem_cons h1,h2]
   rw[hdr] at HL;clear hdr;obtain⟨c,rfl,hcR⟩:=HL.out.plt c' (List.mem_cons_self ..);have HT:=Lib.hid HL.out.pop;have hcd:=zaq HZ.hd;haveI:LtW g2 (ext (A0.alloc (.cells (vA R vs) 66)) z):=⟨(Array.getElem?_eq_some_iff.1 HZ.hd).1⟩
   have hbl:(byL l c).length≤1152:=Nat.le_trans (ztb l c) (by rw[←Hn2.out];exact hn2);obtain⟨ab,nb,cb,hvb,Hnb,hmb,hcb1,hcb2,hslb⟩:=(HZ.bu.sl hcR om).open;have hgo:(vA R vb)[c]?=some (.slice ab nb cb):=by rw[zca R vb c hcR,hvb]
   have Hvb:=Lib.hid hvb;clear hvb;have hnb:nb≤1152:=by rw[Hnb.out];exact hbl
   go_upto_region 26 with fail;go_loopw [13,87] (fun wv ti wr=>∃ (j:Nat) (M' : Nat→Nat→Bool) (work' : List Int),j≤nb∧ti = .int .i64 j∧Grow (A0.alloc (.cells (vA R vs) 66)) wr∧LzS (A0.heap.size+1) g2 s3 R N 74 3 vs vb (byL l) wr wv M' work'∧Hid (LT l R N bM M' (work'.drop (p+1)) c ((byL l c).take j))∧p+1≤work'.length∧Hid (work'[p]?=some ((c:Nat):Int))∧Hid (bitsR R N M'+work'.length≤bitsR R N M+work.length)) (fun _ ti _=>nb - (intOf ti).toNat)
   case atStart=>exact⟨0,M,work,Nat.zero_le _,rfl,gw,HZ.mono gw,HT,by rw[←Hwn.out];omega,Hc,Lib.hid (Nat.le_refl _)⟩
   case round =>
    obtain⟨j,M',work',hj,rfl,hgr',HZ',HT',hp',Hc',Hb'⟩:=hrel;obtain⟨z',rfl⟩:=za hgr';have hbw:Hid (work'.length≤400000):=Lib.hid (by have:=Hb'.out;have:=Hb.out;omega);by_cases hltj:j<nb
    ·have hbt:=HZ'.bu.sl hcR om;rw[Hvb.out] at hbt;obtain⟨gq,oq,r,rfl,⟨Hr,hrl,hrw,hcr⟩⟩:=hbt.int j hltj;obtain⟨cn,hcn,hct,hcf⟩:=(zta l c r).1 (List.mem_of_getElem? Hr.out);obtain⟨tt,fr,htt,hff,htR,hfR⟩:=Hin.out cn hcn;obtain rfl:r=(fr:Int):=by rw[←hcf,hff]
     have Hcn:=Lib.hid (And.intro hcn (And.intro hct hff));clear hcn hct hcf htt hff htR;have Htk:Hid ((byL l c).take (j+1)=(byL l c).take j++[((fr:Nat):Int)]):=Lib.hid (by rw[List.take_add_one,Hr.out];rfl);obtain⟨gf,cf,hvf⟩:=HZ'.rw.vsx hfR;obtain⟨gc,cc,hvc⟩:=HZ'.rw.vsx hcR;have Hvf:=Lib.hid hvf;have Hvc:=Lib.hid hvc;have hof:(vA R vs)[fr]?=some (.slice (some ⟨gf,0,none⟩) N cf):=by rw[zca R vs fr hfR,hvf]
     have hoc:(vA R vs)[c]?=some (.slice (some ⟨gc,0,none⟩) N cc):=by rw[zca R vs c hcR,hvc]
     have hgf:=(HZ'.rw.lt_own hfR (by rw[hvf];rfl:(vs fr).ownBlock=some gf)).1;clear hvf hvc;obtain⟨wa',wc',rfl,hwl'⟩:=HZ'.own.shape;obtain⟨wn',Hwn'⟩:∃ wn',wn'=work'.length:=⟨_,rfl⟩
     rw[←Hwn'] at hp' hwl';have hwv' : (Value.slice wa' work'.length wc') = .slice wa' wn' wc':=by rw[Hwn']
     rw[hwv'] at HZ' ⊢;have hwn7:wn'≤400000:=by rw[Hwn'];exact hbw.out
     replace Hwn':=Lib.hid Hwn';clear hwv';have hsl':=HZ'.own.sl;obtain⟨gp',op',c2,rfl,⟨Hc2,hlc2,hwc2,hcc2⟩⟩:=hsl'.int p om;obtain rfl:c2=((c:Nat):Int):=by have e1:=Hc2.out;rw[Hc'.out] at e1;injection e1 with e1;exact e1.symm
     go_upto_region 28 with fail
     ((refine zv 12 11 (by kernel_rfl) (by rfl) (by decide) ?_);(iterate 11 (all_goals (first|((first|refine Tq 0 ?_|refine Tq 1 ?_|refine Tq 2 ?_|refine Tq 3 ?_|refine Tq 4 ?_|refine Tq 5 ?_|refine Tq 6 ?_|refine Tq 7 ?_|refine Tq 8 ?_|refine Tq 9 ?_|refine Tq 10 ?_);(first|go_big_quiet_step (fail)|(refine wpQuiet_step (fun K hK=>?_);go_simp;split<;>(refine hK _ ?_;clear hK K)));refine wpQuiet_nil ?_)|((first|refine Tf 0 ?_|refine Tf 1 ?_|refine Tf 2 ?_|refine Tf 3 ?_|refine Tf 4 ?_|refine Tf 5 ?_|refine Tf 6 ?_|refine Tf 7 ?_|refine Tf 8 ?_|refine Tf 9 ?_|refine Tf 10 ?_);intro xg K hK;go_wp2_with (fail);refine hK _ _ gw ?_;clear hK K))));all_goals (refine zap (by decide +kernel) ?_;intro xR K hK;simp only[List.drop_succ_cons,List.drop_zero];go_wp2_with ((go_at_call 264;refine(zu6 _ ((HZ'.mono gw).rw) hfR hcR Hvf.out Hvc.out hN).mono ?_;rintro e w9 ⟨more,rfl,hrw9,hm1,hm2,hg9⟩;have HZ9:=fun M9 (h9:Rw _ w9 R N vs M9)=>(HZ'.mono gw).grew hfR (by rw[Hvf.out];rfl) hg9 h9;obtain⟨z9,rfl⟩:=za (zej (show Grow (A0.alloc (.cells (vA R vs) 66)) _ from gw) hg9 (fun k hk=>by injection hk with hk;subst hk;simp;omega))));refine hK _ _ ?_;clear hK K))
     clear hof hoc hcc2 hgo hcd hcr hwl' hcc;cases more
     ·have HZ3:=HZ9 M' (hrw9.congr fun k hk q hq=>by
       unfold joinM up;split
       ·rename_i e;subst e;show (M' k q||M' c q)=M' k q;cases hcq:M' c q
        ·simp
        ·simp[hm2 rfl q hq hcq]
       ·rfl)
      have HK:Hid (LT l R N bM M' (work'.drop (p+1)) c ((byL l c).take (j+1))):=Lib.hid (by rw[Htk.out];exact HT'.out.keep (hm2 rfl));clear hm1 hm2 HZ9 hrw9 hg9;go_wp2_with fail;go_roundw
      case rel=>exact⟨j+1,M',work',by omega,by go_num,gw,HZ3.mono gw,HK,by rw[←Hwn'.out];exact hp',Hc',Hb'⟩
      case measure=>exact me
     ·have HZ3:=HZ9 _ hrw9;obtain⟨q,hq,hq1,hq2⟩:=hm1 rfl;have hne:fr≠c:=fun e=>by subst e;rw[hq1] at hq2;cases hq2
      have HP:Hid (LT l R N bM (joinM M' fr c) ((work'++[((fr:Nat):Int)]).drop (p+1)) c ((byL l c).take (j+1))):=Lib.hid (by
       rw[Htk.out,List.drop_append_of_le_length (by rw[←Hwn'.out];exact hp')];exact HT'.out.put hfR hne Hcn.out.1 Hcn.out.2.1 Hcn.out.2.2)
      have Hbt:=Lib.hid (zyg (R:=R) hfR hq hq1 hq2);have h64:I64 ((fr:Nat):Int):=⟨by omega,by omega⟩
      have hwl9:work'.length≤400000:=hbw.out;have HZ4:LzS (A0.heap.size+1) g2 s3 R N 74 3 vs vb (byL l) (ext (A0.alloc (.cells (vA R vs) 66)) z9) (.slice (some ⟨gp',op',none⟩) wn' wc') (joinM M' fr c) work':=HZ3;have hs3:s3≤A0.heap.size+1+z9.k:=by have:=HZ4.own.row_lt gp' rfl;simp at this;omega
      clear hm1 hm2 HZ9 hrw9 hg9 hne;go_wp2_with ((at_builtin;(refine zfi (α:=Int) zau rfl rfl rfl (HZ4.own) gw (by first|exact Nat.le_refl _|(simp;done)|(simp;omega)) (by first|(simp;done)|(simp;omega)) rfl (y:=((fr:Nat):Int)) (Gy:=fun _=>False) (⟨rfl,h64⟩) (fun _ h=>h.elim) cel (by simp[Value.oneCell']) om om ?_);intro tv10 x10 ho10 hsz10 hagr10 hob10));go_roundw
      case rel=>exact⟨j+1,joinM M' fr c,work'++[((fr:Nat):Int)],by omega,by go_num,gw,HZ4.app (fun c e=>(HZ4.own.row_lt c e).1) ho10 hagr10,HP,by rw[List.length_append,←Hwn'.out];omega,Lib.hid (by rw[List.getElem?_append_left (by rw[←Hwn'.out];omega)];exact Hc'.out),Lib.hid (by have h1:=Hbt.out;have h2:=Hb'.out;rw[List.length_append,List.length_singleton];omega)⟩
      case measure=>exact me
    ·have HD:Hid (LS l R N bM M' (work'.drop (p+1))):=Lib.hid (HT'.out.done fun x hx hxt=>by
      rw[List.take_of_length_le (by rw[←Hnb.out];omega)];exact(zta l c _).2 ⟨x,hx,hxt,rfl⟩)
     go_wp2_with fail;go_step3;exact Hgo.out (bitsR R N M'+(work'.length - (p+1))) _ _ (by rw[Hg.out];have h1:=Hb'.out;have h2:=Hwn.out;omega) ⟨A0,_,g2,s3,vs,vb,M',work',p+1,_,⟨rfl,rfl,rfl,rfl,rfl,by first|rfl|simp⟩,hp',rfl,hgw,gw,HZ',hg2,HD,Lib.hid (by have:=Hb'.out;have:=Hb.out;omega),Lib.hid rfl⟩
  ·obtain rfl:wn=p:=om;have HF:Hid (rL R N M=rL R N (solB l R bM)):=Lib.hid (zgm fun k hk q hq=>by
    have h9:=HL.out;rw[List.drop_of_length_le (by rw[←Hwn.out];exact Nat.le_refl _)] at h9;exact h9.last (fun c hc=>by obtain⟨t,fr,e1,e2,_⟩:=Hin.out c hc;exact⟨t,fr,e1,e2⟩) hk hq)
   go_wp2_with fail;refine Hret.out _ _ ?_;refine zd (by simp only[results,Tryz.results240];go_simp<;>rfl) rfl gw ⟨_,rfl,?_⟩;rw[←HF.out];have hh:(ext (A0.alloc (.cells (vA R vs) 66)) z).heap[A0.heap.size]?=some (.cells (vA R vs) 66):=zcf A0 _ z;have hA:=hgw.size;exact((RwH.made (b0:=w.heap.size) HZ.rw om hA om hh).sl hR1 (fun b hb=>Or.inr hb)).mono gw
 intro RR Pass;go_wp2_with (first|(go_at_call 263;((with_reducible refine armV (Hck.out _ (hb.mono gw) (hl.mono gw)) ?_);intro x3))|(at_make;refine zcy (z:=.slice none 0 0) (bytes:=24) rfl rfl Tryz.underlying86 (by kernel_rfl) rfl rfl rfl om om ?_));go_loopw [29] (fun ti wr=>∃ (k:Nat) (vs:Nat→Value),k≤R∧ti = .int .i64 k∧Grow ((ext w x3).alloc (.cells (vA R vs) 66)) wr∧Rw (w.heap.size+x3.k+1) wr k N vs bM) (fun ti _=>R - (intOf ti).toNat)
 case atStart=>exact⟨0,_,Nat.zero_le _,rfl,gw,Rw.start _ _ _ _ _⟩
 case round =>
  obtain⟨k,vs,hk,rfl,hgr,hrw⟩:=hrel;obtain⟨z,rfl⟩:=za hgr;by_cases hlt:k<R
  ·obtain⟨rg,ro,rc,hhc,hlr,hrs⟩:=rL_sl hb hN1 hlt;have hgo:(vA R vs)[k]?=some (vs k):=zca R vs k hlt;have hsv:∀ v,(vA R vs).setIfInBounds k v=vA R (up vs k v):=fun v=>zhx R vs k v hlt;have hlb:(bL N (bM k)).length=N:=zdz N _;go_wp2_with (at_builtin;refine zhh (α:=Bool) (W:=(ext ((ext w x3).alloc (.cells (vA R vs) 66)) z)) (base:=w.heap.size+x3.k+1+z.k) (F:=fun _=>False) (Gy:=fun _=>False) z25 z26 rfl rfl rfl rfl gw (by simp) (by simp) (Own.zero (by rw[show w.heap.size+x3.k+1+z.k=(ext ((ext w x3).alloc (.cells (vA R vs) 66)) z).heap.size from by simp];exact heap_alloc_new _ _) (Nat.le_refl _)) (hrs.mono gw) (fun _ _ h=>h) (fun _ h=>h.elim) (by simp;omega) (by simp;omega) ?_;intro v7 w7 hg7 hgb7 ho7;rw[List.nil_append] at ho7;obtain⟨g7,cap7,C7,rfl,hc71,hc72,hb7,hC7,hT7⟩:=ho7.boolRow hN1;obtain⟨z7,rfl⟩:=za hg7);go_roundw
   case rel =>
    have hX:=hrw.keep (w':=(ext ((ext w x3).alloc (.cells (vA R (up vs k (.slice (some ⟨g7,0,none⟩) N cap7))) 66)) z)) (fun b hb _=>zlf (by simp;omega));exact⟨k+1,up vs k (.slice (some ⟨g7,0,none⟩) N cap7),by omega,by go_num,gw,(hX.snoc gw rfl hc71 hc72 (by simp;omega) om ((zw9 (by simp;omega)).trans hC7) hT7).congr (fun j _ q _=>by unfold up;split;(rename_i e;subst e;rfl);rfl)⟩
   case measure=>exact me
  ·obtain rfl:R=k:=om;have hvlt:∀ j,j<R→∀ b,(vs j).ownBlock=some b→b<w.heap.size+x3.k+1+z.k:=fun j hj b hb=>by have:=(hrw.lt_own hj hb).2;simp at this;omega
   have Hvlt:=Lib.hid hvlt;clear hvlt;have Hin2:Hid (∀ (k:Nat) (c:Cn),l[k]?=some c→∃ t fr:Nat,c.to=(t:Int)∧c.from_=(fr:Int)∧t<R∧fr<R):=Lib.hid fun k c h=>Hin.out c (List.mem_of_getElem? h);go_upto_region 11 with (at_make;refine zcy (z:=.slice none 0 0) (bytes:=24) rfl rfl Tryz.underlying244 (by kernel_rfl) rfl rfl rfl om om ?_)
   go_upto_region 12 with fail;go_loopw [46] (fun ti wr=>∃ (j:Nat) (vb:Nat→Value),j≤n2∧ti = .int .i64 j∧Grow ((ext ((ext w x3).alloc (.cells (vA R vs) 66)) z).alloc (.cells (vA R vb) 74)) wr∧Bu (w.heap.size+x3.k+1+z.k+1) wr 3 R vb (byL (l.take j))) (fun ti _=>n2 - (intOf ti).toNat)
   case atStart=>exact⟨0,_,Nat.zero_le _,rfl,gw,Bu.start _ _ _ _⟩
   case round =>
    obtain⟨j,vb,hj,rfl,hgr2,hbu⟩:=hrel;obtain⟨y,rfl⟩:=za hgr2;by_cases hltj:j<n2
    ·obtain⟨b_c,off_c,c,rfl,⟨Hg_c,hl_c,hw_c,c_c0,c_c1,c_c2,c_c3,r_c0⟩⟩:=hl.cn j hltj;obtain⟨t,fr,hct,hcf,htR,hfR⟩:=Hin2.out j c Hg_c.out;have Hsn:=Lib.hid (zyh Hg_c.out hct);have Hbl:Hid ((byL (l.take j) t).length≤1152):=Lib.hid (by
      have h1:=ztb (l.take j) t;have h2:(l.take j).length≤j:=List.length_take_le ..;omega)
     obtain⟨cfr,cto,cat,cwhy⟩:=c;simp only at hct hcf;subst hct hcf;have hgo:(vA R vb)[t]?=some (vb t):=zca R vb t htR;have hsv:∀ v,(vA R vb).setIfInBounds t v=vA R (up vb t v):=fun v=>zhx R vb t v htR;have h64:I64 ((fr:Nat):Int):=⟨by omega,by omega⟩
     go_upto_region 14 with fail;have hbx0:∀ w',Grow ((ext ((ext ((ext w x3).alloc (.cells (vA R vs) 66)) z).alloc (.cells (vA R vb) 74)) y).alloc (.cells #[.int .i64 ((fr:Nat):Int),.int .i64 ((t:Nat):Int),.int .i64 cat,.int .u8 cwhy] 229)) w'→w'.heap[(w.heap.size+x3.k+1+z.k+1+y.k)]?=some (.cells #[.int .i64 ((fr:Nat):Int),.int .i64 ((t:Nat):Int),.int .i64 cat,.int .u8 cwhy] 229):=fun w' g=>by
      have h2:=heap_alloc_new (ext ((ext ((ext w x3).alloc (.cells (vA R vs) 66)) z).alloc (.cells (vA R vb) 74)) y) (.cells #[.int .i64 ((fr:Nat):Int),.int .i64 ((t:Nat):Int),.int .i64 cat,.int .u8 cwhy] 229);rw[show (ext ((ext ((ext w x3).alloc (.cells (vA R vs) 66)) z).alloc (.cells (vA R vb) 74)) y).heap.size=(w.heap.size+x3.k+1+z.k+1+y.k) from by simp] at h2;rw[g.block _ (by simp)];exact h2
     have hC:∀ (vb' : Nat→Value) w',Grow ((ext ((ext w x3).alloc (.cells (vA R vs) 66)) z).alloc (.cells (vA R vb') 74)) w'→w'.heap[(w.heap.size+x3.k+1+z.k+1+y.k)]?=some (.cells #[.int .i64 ((fr:Nat):Int),.int .i64 ((t:Nat):Int),.int .i64 cat,.int .u8 cwhy] 229)→(∃ q:QB (ext ((ext w x3).alloc (.cells (vA R vs) 66)) z) R 74 (w.heap.size+x3.k+1+z.k+1+y.k) (.cells #[.int .i64 ((fr:Nat):Int),.int .i64 ((t:Nat):Int),.int .i64 cat,.int .u8 cwhy] 229),w'=ext ((ext ((ext w x3).alloc (.cells (vA R vs) 66)) z).alloc (.cells (vA R q.vb) 74)) q.q):=fun vb' w' g h=>QB.mk' g h;haveI:Inhabited (QB (ext ((ext w x3).alloc (.cells (vA R vs) 66)) z) R 74 (w.heap.size+x3.k+1+z.k+1+y.k) (.cells #[.int .i64 ((fr:Nat):Int),.int .i64 ((t:Nat):Int),.int .i64 cat,.int .u8 cwhy] 229)):=by
      have hne:Nonempty (∃ q:QB (ext ((ext w x3).alloc (.cells (vA R vs) 66)) z) R 74 (w.heap.size+x3.k+1+z.k+1+y.k) (.cells #[.int .i64 ((fr:Nat):Int),.int .i64 ((t:Nat):Int),.int .i64 cat,.int .u8 cwhy] 229),True):=by
       obtain⟨q,_⟩:=hC vb _ gw (hbx0 _ (Grow.refl _));exact⟨q,trivial⟩
      exact⟨Classical.choose (Classical.choice hne)⟩
     haveI:∀ q:QB (ext ((ext w x3).alloc (.cells (vA R vs) 66)) z) R 74 (w.heap.size+x3.k+1+z.k+1+y.k) (.cells #[.int .i64 ((fr:Nat):Int),.int .i64 ((t:Nat):Int),.int .i64 cat,.int .u8 cwhy] 229),LtW (w.heap.size+x3.k+1+z.k+1+y.k) (ext ((ext ((ext w x3).alloc (.cells (vA R vs) 66)) z).alloc (.cells (vA R q.vb) 74)) q.q):=fun q=>⟨(Array.getElem?_eq_some_iff.1 q.h).1⟩
     have hqc:∀ (q:QB (ext ((ext w x3).alloc (.cells (vA R vs) 66)) z) R 74 (w.heap.size+x3.k+1+z.k+1+y.k) (.cells #[.int .i64 ((fr:Nat):Int),.int .i64 ((t:Nat):Int),.int .i64 cat,.int .u8 cwhy] 229)) (i:Nat),(ext ((ext ((ext w x3).alloc (.cells (vA R vs) 66)) z).alloc (.cells (vA R q.vb) 74)) q.q).cell? ⟨(w.heap.size+x3.k+1+z.k+1+y.k),i,none⟩=(#[.int .i64 ((fr:Nat):Int),.int .i64 ((t:Nat):Int),.int .i64 cat,.int .u8 cwhy]:Array Value)[i]?:=fun q i=>zaq q.h i;refine zcx (fun w'=>∃ q:QB (ext ((ext w x3).alloc (.cells (vA R vs) 66)) z) R 74 (w.heap.size+x3.k+1+z.k+1+y.k) (.cells #[.int .i64 ((fr:Nat):Int),.int .i64 ((t:Nat):Int),.int .i64 cat,.int .u8 cwhy] 229),w'=ext ((ext ((ext w x3).alloc (.cells (vA R vs) 66)) z).alloc (.cells (vA R q.vb) 74)) q.q) 14 (by kernel_rfl) (by rfl) ?_
     ((iterate 9 ((first|refine Jq 0 ?_ (hS:=(hC _ _ gw (by first|exact hbx13 _|exact hbx9|exact hbx0 _ gw)))|refine Jq 1 ?_ (hS:=(hC _ _ gw (by first|exact hbx13 _|exact hbx9|exact hbx0 _ gw)))|refine Jq 2 ?_ (hS:=(hC _ _ gw (by first|exact hbx13 _|exact hbx9|exact hbx0 _ gw)))|refine Jq 3 ?_ (hS:=(hC _ _ gw (by first|exact hbx13 _|exact hbx9|exact hbx0 _ gw)))|refine Jq 4 ?_ (hS:=(hC _ _ gw (by first|exact hbx13 _|exact hbx9|exact hbx0 _ gw)))|refine Jq 5 ?_ (hS:=(hC _ _ gw (by first|exact hbx13 _|exact hbx9|exact hbx0 _ gw)))|refine Jq 6 ?_ (hS:=(hC _ _ gw (by first|exact hbx13 _|exact hbx9|exact hbx0 _ gw)))|refine Jq 8 ?_ (hS:=(hC _ _ gw (by first|exact hbx13 _|exact hbx9|exact hbx0 _ gw)))|refine Jq 9 ?_ (hS:=(hC _ _ gw (by first|exact hbx13 _|exact hbx9|exact hbx0 _ gw))));(first|go_big_quiet_step (fail)|(refine wpQuiet_step (fun K hK=>?_);go_simp;split<;>(refine hK _ ?_;clear hK K)));refine wpQuiet_nil ?_));(repeat (any_goals (first|(refine Jq 12 ?_ (hS:=(hC _ _ gw (by first|exact hbx13 _|exact hbx9|exact hbx0 _ gw)));(first|go_big_quiet_step (fail)|(refine wpQuiet_step (fun K hK=>?_);go_simp;split<;>(refine hK _ ?_;clear hK K)));refine wpQuiet_nil ?_)|((first|(refine J_any [7,10] (by decide +kernel) ?_;refine⟨?_,?_⟩)|(refine J_any [7] (by decide +kernel) ?_)|(refine J_any [10] (by decide +kernel) ?_)|(refine J_any [11] (by decide +kernel) ?_)|(refine J_any [12] (by decide +kernel) ?_)|(refine J_any [13] (by decide +kernel) ?_))<;>(refine⟨_,rfl,fun K hK=>?_⟩;go_wp2_with ((at_builtin;refine zff (W0:=((ext ((ext w x3).alloc (.cells (vA R vs) 66)) z).alloc (.cells (vA R vb) 74))) zau rfl rfl rfl ((hbu.mono gw).own t htR) gw (by simp) (by simp;omega) rfl (y:=.int .i64 ((fr:Nat):Int)) rfl cel (by have:=Hbl.out;omega) (by have:=Hbl.out;omega) ?_;intro v9 x9 ho9 hg9 hb9;obtain⟨g9,cap9,rfl⟩:=zom ho9;have hbx9:=(hg9.block (w.heap.size+x3.k+1+z.k+1+y.k) (by simp;omega) (fun e=>by have:=((hbu.own t htR).lt _ e.symm).2;simp at this)).trans (hbx0 _ gw);have hbx13:∀ v,(ext ((ext ((ext w x3).alloc (.cells (vA R vs) 66)) z).alloc (.cells (vA R (up vb t v)) 74)) x9).heap[(w.heap.size+x3.k+1+z.k+1+y.k)]?=some (.cells #[.int .i64 ((fr:Nat):Int),.int .i64 ((t:Nat):Int),.int .i64 cat,.int .u8 cwhy] 229):=fun v=>(zb3 (by simp;omega)).trans hbx9));refine hK _ _ (hC _ _ gw (by first|exact hbx13 _|exact hbx9|exact hbx0 _ gw)) ?_;clear hK K))))))
     all_goals (refine J_end (by decide +kernel) ?_)
     all_goals
      have hap:=hbu.app gw htR h64 ho9 hg9 hb9;go_wp2_with fail;go_roundw
      case rel=>exact⟨j+1,up vb t (.slice (some ⟨g9,0,none⟩) ((byL (l.take j) t).length+1) cap9),by omega,by go_num,gw,by rw[Hsn.out];exact hap.keep (fun b hb _=>zb3 (by simp;omega))⟩
      case measure=>exact me
    ·obtain rfl:n2=j:=om;have hbu:Bu (w.heap.size+x3.k+1+z.k+1) (ext ((ext ((ext w x3).alloc (.cells (vA R vs) 66)) z).alloc (.cells (vA R vb) 74)) y) 3 R vb (byL l):=by rw[List.take_of_length_le (by rw[←Hn2.out];omega)] at hbu;exact hbu
     have Hblt:Hid (∀ k,k<R→∀ b,(vb k).ownBlock=some b→(w.heap.size+x3.k+1+z.k)<b∧b<(w.heap.size+x3.k+1+z.k+1+y.k)):=Lib.hid fun k hk b hb=>by
      have:=(hbu.own k hk).lt b hb;simp at this;omega
     go_upto_region 18 with fail;go_loopw [13,66] (fun wv ti wr=>∃ (k:Nat),k≤R∧ti = .int .i64 k∧Grow (ext ((ext ((ext w x3).alloc (.cells (vA R vs) 66)) z).alloc (.cells (vA R vb) 74)) y) wr∧Own (fun _=>False) (w.heap.size+x3.k+1+z.k+1+y.k) 3 wr wv ((List.range k).map fun i=>((i:Nat):Int))) (fun _ ti _=>R - (intOf ti).toNat)
     case atStart=>exact⟨0,Nat.zero_le _,rfl,gw,Own.nil _ _ _ _⟩
     case round =>
      obtain⟨k,hk,rfl,hgr3,hown⟩:=hrel;obtain⟨z3,rfl⟩:=za hgr3;by_cases hltk:k<R
      ·have hlen:((List.range k).map fun i=>((i:Nat):Int)).length=k:=by simp
       have h64:I64 ((k:Nat):Int):=⟨by omega,by omega⟩
       have Hs:Hid ((List.range (k+1)).map (fun i=>((i:Nat):Int))=(List.range k).map (fun i=>((i:Nat):Int))++[((k:Nat):Int)]):=Lib.hid (by rw[List.range_succ,List.map_append];rfl);go_wp2_with ((at_builtin;(refine zh (α:=Int) zau rfl rfl rfl (hown) gw (by first|exact Nat.le_refl _|(simp;done)|(simp;omega)) (by first|(simp;done)|(simp;omega)) rfl (y:=((k:Nat):Int)) (Gy:=fun _=>False) (⟨rfl,h64⟩) (fun _ h=>h.elim) cel (by simp[Value.oneCell']) om om ?_);intro tv9 x9 ho9 hsz9 hagr9));go_roundw
       case rel=>exact⟨k+1,by omega,by go_num,gw,by rw[Hs.out];exact ho9⟩
       case measure=>exact me
      ·obtain rfl:R=k:=om;have hS0:LzS (w.heap.size+x3.k+1) (w.heap.size+x3.k+1+z.k) (w.heap.size+x3.k+1+z.k+1+y.k) R N 74 3 vs vb (byL l) (ext (ext ((ext ((ext w x3).alloc (.cells (vA R vs) 66)) z).alloc (.cells (vA R vb) 74)) y) z3) u13 bM ((List.range R).map fun i=>((i:Nat):Int)):={
        rw:=hrw.keep fun b _ hb=>(show Grow (ext ((ext w x3).alloc (.cells (vA R vs) 66)) z) (ext (ext ((ext ((ext w x3).alloc (.cells (vA R vs) 66)) z).alloc (.cells (vA R vb) 74)) y) z3) from gw).block b hb
        hd:=by
         rw[(show Grow ((ext ((ext w x3).alloc (.cells (vA R vs) 66)) z).alloc (.cells (vA R vb) 74)) (ext (ext ((ext ((ext w x3).alloc (.cells (vA R vs) 66)) z).alloc (.cells (vA R vb) 74)) y) z3) from gw).block _ (by simp)];have h2:=heap_alloc_new (ext ((ext w x3).alloc (.cells (vA R vs) 66)) z) (.cells (vA R vb) 74);rw[show (ext ((ext w x3).alloc (.cells (vA R vs) 66)) z).heap.size=(w.heap.size+x3.k+1+z.k) from by simp] at h2;exact h2
        bu:=hbu.mono gw
        own:=hown
        rlt:=Hvlt.out
        blt:=Hblt.out
        gs:=by omega }
       have HLS:=Lib.hid (LS.start (l:=l) (R:=R) (N:=N) (base:=bM) (fun c hc=>by obtain⟨t,fr,h1,_,h2,_⟩:=Hin.out c hc;exact⟨t,h1,h2⟩));have Hb0:Hid (bitsR R N bM+((List.range R).map fun i=>((i:Nat):Int)).length≤400000):=Lib.hid (by
        have h1:=zzh R N bM;have h2:R * N≤592 * 600:=Nat.mul_le_mul hR hN;simp;omega)
       clear hrw hbu hown;go_wp2_with fail;go_step3;rename_i hK;refine hK _ _ (Pass.out _ _ _ ⟨ext w x3,w.heap.size+x3.k,(w.heap.size+x3.k+1+z.k),(w.heap.size+x3.k+1+z.k+1+y.k),vs,vb,bM,_,0,_,⟨rfl,rfl,rfl,rfl,rfl,rfl⟩,Nat.zero_le _,by simp,gw,gw,hS0,by omega,HLS,Hb0,Lib.hid rfl⟩)
end Go.Proofs.YtacmoaeglbggjaaGreat
