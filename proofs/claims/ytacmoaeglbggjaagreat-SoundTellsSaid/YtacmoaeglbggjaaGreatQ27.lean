/- A part of the proof. -/
import Derived.Test.YtacmoaeglbggjaaGreatQ20
import Derived.Test.YtacmoaeglbggjaaGreatQ25
import Derived.Test.YtacmoaeglbggjaaGreatQ26
namespace Go.Proofs.YtacmoaeglbggjaaGreat
open Go.RowKit
set_option linter.unusedSimpArgs false
set_option linter.unusedVariables false
set_option maxRecDepth 100000
set_option maxHeartbeats 16000000
theorem zfi {α : Type}[Rp α]{P : Program}{ops : Array Oper}{rest : List Oper}{o : Oper}{a : Act}{w W0 : World}{x0 : Ext}{Q : Exit→Act→World→Prop}{s x : Operand}{t e : TypeId}{bytes : Nat}
  (T:SlT P t e (Rp.sz α) bytes) (hgd:o.guard=none) (ho:o.op = .call { callee:=.builtin .append,args:=#[s,x],argTypes:=#[t,t] })
  {F:Nat→Prop} {base:Nat} {v:Value} {xs:List α} (hs:a.eval s=v) (hown:Own F base e (ext W0 x0) v xs) (hgr:Grow (ext W0 x0) w) (hb:W0.heap.size≤base) (hbs:base≤w.heap.size)
  {b off c:Nat} (hx:a.eval x = .slice (some ⟨b,off,none⟩) 1 c) {y:α} {cs:List Value} {Gy:Nat→Prop} (hR:Rp.R Gy w y cs) (hGy:∀ k,Gy k→k<w.heap.size∧(F k∨base≤k)∧v.ownBlock≠some k)
  (hc:zad w b off cs) (h1:cs.all (·.oneCell')=true) (hlen:(xs.length+1) * bytes≤140737488355328) (hlen' : xs.length+1≤140737488355328)
  (h:∀ v' x',Own F base e (ext W0 x') v' (xs++[y])→(ext W0 x0).heap.size≤(ext W0 x').heap.size→(∀ G:Nat→Prop,(∀ k,G k→k<(ext W0 x0).heap.size→v.ownBlock≠some k)→Agr G (ext W0 x0) (ext W0 x'))→(∀ b,v'.ownBlock=some b→v.ownBlock=some b∨(ext W0 x0).heap.size≤b)→wpList P ops Q rest (a.put o.dst v') (ext W0 x')) :
  wpList P ops Q (o::rest) a w:=by
 obtain⟨G,css,hG,hl,hRs,hn,hor⟩:=hown.mono hgr;have hcl:cs.length=Rp.sz α:=Rp.len hR;obtain⟨v',w',hr,h2,h3,h4⟩:=zf3 (P:=P) w base t o.type e _ bytes T v _ _ hor ⟨b,off,none⟩ 1 c cs (by rw[hcl];simp) (fun j u hu=>by
  obtain⟨hj,rfl⟩:=List.getElem?_eq_some_iff.1 hu;rw[Addr.add_lit];exact hc j hj) (fun u hu=>(List.all_eq_true.1 h1) u hu) om hlen hlen' hbs
 have hrow:∀ k,v.ownBlock=some k→base≤k∧k<(ext W0 x0).heap.size:=hown.row_lt;have hgw:Grow W0 w:=(zw W0 x0).trans hgr;have hg0:Grow W0 w':=⟨h3.os.trans hgw.os,h3.tape.trans hgw.tape,h3.output.trans hgw.output,Nat.le_trans hgw.size h3.size,fun k hk=>by
  rw[h3.block k (Nat.lt_of_lt_of_le hk hgw.size) (fun e=>by have:=hrow k e.symm;omega),hgw.block k hk]⟩
 obtain⟨x',rfl⟩:=za hg0;have hOwn:Own F base e (ext W0 x') v' (xs++[y]):=Own.snoc (ds:=[cs]) (Gy:=Gy) hG hl hRs hGy rfl (fun i h h'=>match i,h with|0,_=>hR) hlen' (by simpa using h2) h3 h4;refine wpList_plain hgd fun _ hK=>?_;unfold Oper.wp execOp;simp only[ho,resolve,invoke,builtin,Sem.run_bind,Sem.run_pure,Result.andThen_ok,List.map_toArray,List.map_cons,List.map_nil,hs,hx,hr];refine hK _ _ (h v' x' hOwn (Nat.le_trans hgr.size h3.size) (fun G' hG' k hk hlt=>?_) fun b hb=>?_)
 ·rw[h3.block k (Nat.lt_of_lt_of_le hlt hgr.size) (fun e=>hG' k hk hlt e.symm),hgr.block k hlt]
 ·rcases h4 with h4|h4
  ·rw[h4] at hb;exact Or.inl hb
  ·rw[h4] at hb;injection hb with hb;right;rw[←hb];exact hgr.size
theorem Own.shp {α : Type}[Rp α]{F : Nat→Prop}{base : Nat}{e : TypeId}{w : World}{v : Value}{xs : List α}(h : Own F base e w v xs): ∃ a n cap,v = .slice a n cap:=by
 obtain⟨a,cap,h,_⟩:=h.shape;exact⟨_,_,_,h⟩
set_option linter.unusedVariables false
structure AgS (bo ba q : Nat)(w0 : World)(ov0 : Value)(w : World)(ov : Value)(out : List Cl): Prop where
 own:Own (fun _=>False) (bo+1) 113 w ov out
 at_:w.heap[ba]?=some (.cells #[.int .i64 (q:Nat)] 3)
 fr:∀ b,b<w0.heap.size→b≠bo→ov0.ownBlock≠some b→w.heap[b]?=w0.heap[b]?
 ob:∀ b,ov.ownBlock=some b→ov0.ownBlock=some b∨w0.heap.size≤b
 sz:w0.heap.size≤w.heap.size
 pa:ba<w0.heap.size∧ba≠bo∧ov0.ownBlock≠some ba
theorem AgS.mono {bo ba q : Nat}{w0 w w' : World}{ov0 ov : Value}{out : List Cl}(h : AgS bo ba q w0 ov0 w ov out)(g : Grow w w'): AgS bo ba q w0 ov0 w' ov out where
 own:=h.own.mono g
 at_:=by rw[g.block ba (Nat.lt_of_lt_of_le h.pa.1 h.sz)];exact h.at_
 fr b hb h1 h2:=by rw[g.block b (Nat.lt_of_lt_of_le hb h.sz)];exact h.fr b hb h1 h2
 ob:=h.ob
 sz:=Nat.le_trans h.sz g.size
 pa:=h.pa
theorem AgS.refl {bo ba q : Nat}{w : World}{ov : Value}{out : List Cl}(ho : Own (fun _=>False) (bo+1) 113 w ov out)(ha : w.heap[ba]?=some (.cells #[.int .i64 (q : Nat)] 3))(h1 : ba≠bo)(h2 : ov.ownBlock≠some ba): AgS bo ba q w ov w ov out where
 own:=ho
 at_:=ha
 fr _ _ _ _:=rfl
 ob b hb:=Or.inl hb
 sz:=Nat.le_refl _
 pa:=⟨(Array.getElem?_eq_some_iff.1 ha).1,h1,h2⟩
theorem AgS.trans {bo ba q : Nat}{w0 w1 w2 : World}{ov0 ov1 ov2 : Value}{out1 out2 : List Cl}(h : AgS bo ba q w0 ov0 w1 ov1 out1)(h' : AgS bo ba q w1 ov1 w2 ov2 out2): AgS bo ba q w0 ov0 w2 ov2 out2 where
 own:=h'.own
 at_:=h'.at_
 fr b hb h1 h2:=by
  rw[h'.fr b (Nat.lt_of_lt_of_le hb h.sz) h1 (fun e=>by
   rcases h.ob b e with e|e
   ·exact h2 e
   ·omega)]
  exact h.fr b hb h1 h2
 ob b hb:=by
  rcases h'.ob b hb with e|e
  ·exact h.ob b e
  ·exact Or.inr (Nat.le_trans h.sz e)
 sz:=Nat.le_trans h.sz h'.sz
 pa:=h.pa
theorem AgS.again {bo ba q : Nat}{w0 w : World}{ov0 ov : Value}{out : List Cl}(h : AgS bo ba q w0 ov0 w ov out): AgS bo ba q w ov w ov out :=
 AgS.refl h.own h.at_ h.pa.2.1 (fun e=>by
  rcases h.ob ba e with e|e
  ·exact h.pa.2.2 e
  ·have:=h.pa.1;omega)
theorem AgS.app {A : World}{z z' : Ext}{ba q : Nat}{w0 : World}{ov0 ov ov' : Value}{out out' : List Cl}{t : TypeId}(h : AgS A.heap.size ba q w0 ov0 (ext (A.alloc (.cells #[ov] t)) z) ov out)
  (ho:Own (fun _=>False) (A.heap.size+1) 113 (ext (A.alloc (.cells #[ov] t)) z') ov' out') (hs:(ext (A.alloc (.cells #[ov] t)) z).heap.size≤(ext (A.alloc (.cells #[ov] t)) z').heap.size)
  (ha:∀ G:Nat→Prop,(∀ k,G k→k<(ext (A.alloc (.cells #[ov] t)) z).heap.size→ov.ownBlock≠some k)→Agr G (ext (A.alloc (.cells #[ov] t)) z) (ext (A.alloc (.cells #[ov] t)) z'))
  (hob:∀ b,ov'.ownBlock=some b→ov.ownBlock=some b∨(ext (A.alloc (.cells #[ov] t)) z).heap.size≤b):AgS A.heap.size ba q w0 ov0 (ext (A.alloc (.cells #[ov'] t)) z') ov' out' where
 own:=ho.keep (fun b hb _=>zb3 (by
  rcases hb with hb|hb
  ·exact hb.elim
  ·omega)) (by simp)
 at_:=by
  have h1:=ha (fun k=>ov.ownBlock≠some k) (fun k hk _=>hk);rw[zb3 h.pa.2.1,h1 ba (fun e=>by
   rcases h.ob ba e with e|e
   ·exact h.pa.2.2 e
   ·have:=h.pa.1;omega) (Nat.lt_of_lt_of_le h.pa.1 h.sz)]
  exact h.at_
 fr b hb h1 h2:=by
  have h3:=ha (fun k=>ov.ownBlock≠some k) (fun k hk _=>hk);rw[zb3 h1,h3 b (fun e=>by
   rcases h.ob b e with e|e
   ·exact h2 e
   ·omega) (Nat.lt_of_lt_of_le hb h.sz)]
  exact h.fr b hb h1 h2
 ob b hb:=by
  rcases hob b hb with e|e
  ·exact h.ob b e
  ·exact Or.inr (Nat.le_trans h.sz e)
 sz:=Nat.le_trans h.sz (by simpa using hs)
 pa:=h.pa
theorem zo9 {A w : World}{ov lv iv uv : Value}{out : List Cl}{bo bl bi bu ba N q : Nat}{Fl Fi Fu : Nat→Prop}[hbo : EqW bo A][hbl : LtW bl A][hbi : LtW bi A][hbu : LtW bu A](l : List Lo)(In Us : Nat→Nat→Bool)(t : Th)(but : Int)
  (hgr:Grow (A.alloc (.cells #[ov] 64)) w) (S:AgS bo ba q w ov w ov out) (cl:A.cell? ⟨bl,0,none⟩=some lv) (ci:A.cell? ⟨bi,0,none⟩=some iv) (cu:A.cell? ⟨bu,0,none⟩=some uv)
  (hl:Sl Fl A lv l) (hi:Sl Fi A iv (rL l.length N In)) (hu:Sl Fu A uv (rL l.length N Us)) (hq:q<N) (hN:N≤600) (hl6:l.length≤600) (hlok:∀ x∈l,plErr x.pl=0∧1≤x.bo∧x.bo≤3) (ht:plErr t.pl=0) (htw:t.wf) (hout:out.length≤1000000000) :
  Calls Tryz.prog 168 #[t.v,.int .i64 but,.pointer (some ⟨bl,0,none⟩),.pointer (some ⟨bi,0,none⟩),.pointer (some ⟨ba,0,none⟩),.pointer (some ⟨bu,0,none⟩),.pointer (some ⟨bo,0,none⟩)] w
   (fun e w'=>e = .returned (.tuple #[])∧∃ ov',Grow (A.alloc (.cells #[ov'] 64)) w'∧AgS bo ba q w ov w' ov' (out++agaL l (fun k=>In k q) (fun k=>Us k q) q t but l.length)):=by
 obtain rfl:=hbo.eq;obtain⟨z0,rfl⟩:=za hgr;clear hgr;obtain⟨al,nl,capl,rfl,Hnl,hml,hcapl,hcml,hl⟩:=hl.open;obtain⟨ai,ni,capi,rfl,Hni,hmi,hcapi,hcmi,hi⟩:=hi.open;obtain⟨au,nu,capu,rfl,Hnu,hmu,hcapu,hcmu,hu⟩:=hu.open;obtain rfl:ni=nl:=by rw[Hni.out,zaz,Hnl.out]
 obtain rfl:nu=ni:=by rw[Hnu.out,zaz,Hnl.out]
 rw[←Hnl.out] at hi hu hl6 ⊢;have Hlok:=Lib.hid hlok;have hN1:1≤N:=om;have hq64:I64 (q:Int):=⟨by omega,by omega⟩
 have hat:=zaq S.at_;have hltA:ba<(ext (A.alloc (.cells #[ov] 64)) z0).heap.size:=S.pa.1;have HS:=Lib.hid S;clear S hlok;go_enter Tryz.func168,Tryz.ntmps168
 go_upto_region 2 with fail;go_loopw [12] (fun ti wr=>∃ (k:Nat) (ov' : Value),k≤nu∧ti = .int .i64 k∧Grow (A.alloc (.cells #[ov'] 64)) wr∧AgS A.heap.size ba q ((ext (A.alloc (.cells #[ov] 64)) z0).alloc (bxTh t)) ov wr ov' (out++agaL l (fun k=>In k q) (fun k=>Us k q) q t but k)) (fun ti _=>nu - (intOf ti).toNat)
 case atStart=>exact⟨0,ov,Nat.zero_le _,rfl,gw,by
  rw[show agaL l (fun k=>In k q) (fun k=>Us k q) q t but 0 = [] from rfl,List.append_nil];have h0:=HS.out.mono (w':=(ext (A.alloc (.cells #[ov] 64)) z0).alloc (bxTh t)) gw;exact AgS.refl h0.own h0.at_ h0.pa.2.1 h0.pa.2.2⟩
 case round =>
  obtain⟨k,ov',hk,rfl,hgr,S⟩:=hrel;obtain⟨z,rfl⟩:=za hgr;clear hat hltA;have hbt:(ext (A.alloc (.cells #[ov'] 64)) z).heap[A.heap.size+1+z0.k]?=some (bxTh t):=by
   have h1:=S.fr (A.heap.size+1+z0.k) (by simp) om (fun e=>by have:=(HS.out.own.row_lt _ e).2;simp at this);rw[h1];have h2:=heap_alloc_new (ext (A.alloc (.cells #[ov] 64)) z0) (bxTh t);rw[show (ext (A.alloc (.cells #[ov] 64)) z0).heap.size=A.heap.size+1+z0.k from by simp] at h2;exact h2
  have hct:=zaq hbt;have hrt:row? (ext (A.alloc (.cells #[ov'] 64)) z) (A.heap.size+1+z0.k) 0 5=some [.int .i64 t.pl.loc,.bool t.pl.deref,.int .u8 t.pl.field,.bool t.write,.bool t.deep]:=by
   have hc:zad (ext (A.alloc (.cells #[ov'] 64)) z) (A.heap.size+1+z0.k) 0 [.int .i64 t.pl.loc,.bool t.pl.deref,.int .u8 t.pl.field,.bool t.write,.bool t.deep]:=by
    repeat (refine zad.cons (by rw[hct];rfl) ?_)
    exact zad.nil _ _ _
   have:=zo hc 0 5 (by simp)
   simpa using this
  have hca:=zaq S.at_;haveI:LtW (A.heap.size+1+z0.k) (ext (A.alloc (.cells #[ov'] 64)) z):=⟨(Array.getElem?_eq_some_iff.1 hbt).1⟩
  haveI:LtW ba (ext (A.alloc (.cells #[ov'] 64)) z):=⟨(Array.getElem?_eq_some_iff.1 S.at_).1⟩
  have hlen:(out++agaL l (fun k=>In k q) (fun k=>Us k q) q t but k).length≤1000001000:=by
   have:=zgj l (fun k=>In k q) (fun k=>Us k q) q t but k
   rw[List.length_append];omega
  by_cases hltk:k<nu
  ·obtain⟨b_x,off_x,x,rfl,⟨Hg_x,hl_x,hw_x,c_x0,c_x1,c_x2,c_x3,c_x4,c_x5,r_x0,r_x1⟩⟩:=hl.lo k hltk;obtain⟨gi,oi,rfl,hgli⟩:=hi.addr om;obtain⟨gu,ou,rfl,hglu⟩:=hu.addr om;obtain⟨rg,ro,rc,hlg,hhc,hlr,hrc,hrcl,hrcm⟩:=zcg hi hN1 hltk;obtain⟨sg,so,sc,hlgs,hhs,hls,hsc,hscl,hscm⟩:=zcg hu hN1 hltk;have hrq:=hrc q hq;have hsq:=hsc q hq;clear hrc hsc;have h64:I64 (k:Int):=⟨by omega,by omega⟩
   have Hag:=Lib.hid (zi9 l (fun k=>In k q) (fun k=>Us k q) q t but Hg_x.out);obtain⟨ik,Hik⟩:∃ ik,Hid (In k q=ik):=⟨_,Lib.hid rfl⟩
   obtain⟨uk,Huk⟩:∃ uk,Hid (Us k q=uk):=⟨_,Lib.hid rfl⟩
   obtain⟨cf,Hcf⟩:∃ cf,Hid (confB t x uk=cf):=⟨_,Lib.hid rfl⟩
   have Hca:=Lib.hid (fun w'=>by
    have hx:=Hlok.out x (List.mem_of_getElem? Hg_x.out);have:=znl t x uk w' hx.2 ht hx.1 htw.pl hw_x.pl
    rw[Hcf.out] at this;exact this)
   obtain⟨kb,Hkb⟩:∃ kb,Hid (decide ((k:Int)≠but)=kb):=⟨_,Lib.hid rfl⟩
   simp only[Hik.out,Huk.out,Hcf.out,Hkb.out] at Hag;rw[Hik.out] at hrq;rw[Huk.out] at hsq;have hkb1:(((k:Nat):Int) != but)=kb:=by rw[←Hkb.out];by_cases e:(k:Int)=but<;>simp[e]
   go_upto_region 4 with fail;cases kb
   ·simp only[Bool.false_and,Bool.false_eq_true,if_false,List.append_nil] at Hag
    (refine z8 27 (by kernel_rfl) (by rfl) ?_;((iterate 27 ((first|refine JqW 0 ?_|refine JqW 1 ?_|refine JqW 2 ?_|refine JqW 3 ?_|refine JqW 4 ?_|refine JqW 5 ?_|refine JqW 6 ?_|refine JqW 7 ?_|refine JqW 8 ?_|refine JqW 9 ?_|refine JqW 10 ?_|refine JqW 11 ?_|refine JqW 12 ?_|refine JqW 13 ?_|refine JqW 14 ?_|refine JqW 15 ?_|refine JqW 16 ?_|refine JqW 17 ?_|refine JqW 18 ?_|refine JqW 19 ?_|refine JqW 20 ?_|refine JqW 21 ?_|refine JqW 22 ?_|refine JqW 23 ?_|refine JqW 24 ?_|refine JqW 25 ?_|refine JqW 26 ?_);(first|go_big_quiet_step (fail)|(refine wpQuiet_step (fun K hK=>?_);go_simp;split<;>(refine hK _ ?_;clear hK K)));refine wpQuiet_nil ?_));(repeat (any_goals (first|(refine JqW 26 ?_;(first|go_big_quiet_step (fail)|(refine wpQuiet_step (fun K hK=>?_);go_simp;split<;>(refine hK _ ?_;clear hK K)));refine wpQuiet_nil ?_)|((first|(refine J_any [25] (by decide +kernel) ?_))<;>(refine⟨_,rfl,fun K hK=>?_⟩;go_wp2_with (fail);refine hK _ _ (za gw) ?_;clear hK K))))));all_goals (refine J_end (by decide +kernel) ?_))
    go_wp2_with fail;go_roundw
    case rel=>exact⟨k+1,ov',by omega,by go_num,gw,by rw[Hag.out];exact S.mono gw⟩
    case measure=>exact me
   ·cases ik
    ·simp only[Bool.true_and,Bool.false_and,Bool.false_eq_true,if_false,List.append_nil] at Hag
     (refine z8 27 (by kernel_rfl) (by rfl) ?_;((iterate 27 ((first|refine JqW 0 ?_|refine JqW 1 ?_|refine JqW 2 ?_|refine JqW 3 ?_|refine JqW 4 ?_|refine JqW 5 ?_|refine JqW 6 ?_|refine JqW 7 ?_|refine JqW 8 ?_|refine JqW 9 ?_|refine JqW 10 ?_|refine JqW 11 ?_|refine JqW 12 ?_|refine JqW 13 ?_|refine JqW 14 ?_|refine JqW 15 ?_|refine JqW 16 ?_|refine JqW 17 ?_|refine JqW 18 ?_|refine JqW 19 ?_|refine JqW 20 ?_|refine JqW 21 ?_|refine JqW 22 ?_|refine JqW 23 ?_|refine JqW 24 ?_|refine JqW 25 ?_|refine JqW 26 ?_);(first|go_big_quiet_step (fail)|(refine wpQuiet_step (fun K hK=>?_);go_simp;split<;>(refine hK _ ?_;clear hK K)));refine wpQuiet_nil ?_));(repeat (any_goals (first|(refine JqW 26 ?_;(first|go_big_quiet_step (fail)|(refine wpQuiet_step (fun K hK=>?_);go_simp;split<;>(refine hK _ ?_;clear hK K)));refine wpQuiet_nil ?_)|((first|(refine J_any [25] (by decide +kernel) ?_))<;>(refine⟨_,rfl,fun K hK=>?_⟩;go_wp2_with (fail);refine hK _ _ (za gw) ?_;clear hK K))))));all_goals (refine J_end (by decide +kernel) ?_))
     go_wp2_with fail;go_roundw
     case rel=>exact⟨k+1,ov',by omega,by go_num,gw,by rw[Hag.out];exact S.mono gw⟩
     case measure=>exact me
    ·(refine z8 27 (by kernel_rfl) (by rfl) ?_;((iterate 25 ((first|refine JqW 0 ?_|refine JqW 1 ?_|refine JqW 2 ?_|refine JqW 3 ?_|refine JqW 4 ?_|refine JqW 5 ?_|refine JqW 6 ?_|refine JqW 7 ?_|refine JqW 8 ?_|refine JqW 9 ?_|refine JqW 10 ?_|refine JqW 11 ?_|refine JqW 12 ?_|refine JqW 13 ?_|refine JqW 14 ?_|refine JqW 15 ?_|refine JqW 16 ?_|refine JqW 17 ?_|refine JqW 18 ?_|refine JqW 19 ?_|refine JqW 20 ?_|refine JqW 21 ?_|refine JqW 22 ?_|refine JqW 23 ?_|refine JqW 24 ?_);(first|go_big_quiet_step (fail)|(refine wpQuiet_step (fun K hK=>?_);go_simp;split<;>(refine hK _ ?_;clear hK K)));refine wpQuiet_nil ?_));(repeat (any_goals (first|(refine JqW 26 ?_;(first|go_big_quiet_step (fail)|(refine wpQuiet_step (fun K hK=>?_);go_simp;split<;>(refine hK _ ?_;clear hK K)));refine wpQuiet_nil ?_)|((first|(refine J_any [25] (by decide +kernel) ?_))<;>(refine⟨_,rfl,fun K hK=>?_⟩;go_wp2_with (first|(go_at_call 169;((with_reducible refine armV (Hca.out _) ?_);intro x5)));refine hK _ _ (za gw) ?_;clear hK K))))));all_goals (refine J_end (by decide +kernel) ?_))
     cases cf
     ·simp only[Bool.true_and,Bool.false_eq_true,if_false,List.append_nil] at Hag;go_wp2_with fail;go_roundw
      case rel=>exact⟨k+1,ov',by omega,by go_num,gw,by rw[Hag.out];exact S.mono gw⟩
      case measure=>exact me
     ·simp only[Bool.true_and,if_true] at Hag;go_wp2_with ((at_builtin;(refine zfi (α:=Cl) zma rfl rfl rfl (S.own) gw (by first|exact Nat.le_refl _|(simp;done)|(simp;omega)) (by first|(simp;done)|(simp;omega)) rfl (y:=⟨(q:Int),(k:Int),t⟩) (Gy:=fun _=>False) (⟨rfl,⟨hq64,h64,htw⟩⟩) (fun _ h=>h.elim) cel (by simp[Value.oneCell']) om om ?_);intro tv6 x6 ho6 hsz6 hagr6 hob6);obtain⟨ta6,tn6,tc6,rfl⟩:=ho6.shp);go_roundw
      case rel=>exact⟨k+1,_,by omega,by go_num,gw,by rw[Hag.out,←List.append_assoc];exact S.app ho6 hsz6 hagr6 hob6⟩
      case measure=>exact me
  ·obtain rfl:k=nu:=om;go_wp2_with fail;go_end0
   exact⟨rfl,ov',gw,(HS.out.mono gw).trans (S.mono gw)⟩
end Go.Proofs.YtacmoaeglbggjaaGreat
