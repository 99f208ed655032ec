/- A part of the proof. -/
import Derived.Test.YtacmoaeglbggjaaGreatSHi
import Derived.Sort.OwnSortedInts
import Derived.Test.YtacmoaeglbggjaaGreatQ15
namespace Go.Proofs.YtacmoaeglbggjaaGreat
open Go.RowKit
set_option linter.unusedSimpArgs false
set_option linter.unusedVariables false
set_option maxRecDepth 100000
set_option maxHeartbeats 16000000
theorem hAo16 (w : World) (o : Obj) {i : Nat} (h : i < w.heap.size) : (w.alloc o).heap[i]? = w.heap[i]? := by first | exact heap_alloc_old w o h | exact heap_alloc_old w o _ h
theorem zof {f : Fn}(hok : fnErr f=0){q : Nat}{p : Pt}(h : (ptL f)[q]?=some p): 0≤p.block∧p.block≤1000∧0≤p.index∧p.index≤1000:=by
 obtain⟨b,i,x,rfl,hb,hi,_⟩:=zz3 h;have h1:=(zt hok).2.1;have h2:=(zt hok).1 x (List.mem_of_getElem? hb);have h3:=(List.getElem?_eq_some_iff.1 hb).1;simp only;omega
theorem zwc (f : Fn)(v : Value)(w : World){F : Nat→Prop}(hl : Sl F w v (ptL f))(hok : fnErr f=0){b i : Nat}{x : Bk}(hb : Hid (f.blocks[b]?=some x))(hi : i≤x.stmts.length):
  Calls Tryz.prog 191 #[v,(⟨(b:Int),(i:Int)⟩:Pt).v,.func (.func 192) #[] #[]] w (Ret w (.tuple #[.int .i64 (numF f (b,i):Nat),.bool true])):=by
 obtain⟨a,n,cap,rfl,Hn,hm,hcap,hcm,hl⟩:=hl.open;have Hok:=Lib.hid hok;clear hok;obtain⟨m,Hm⟩:∃ m,Hid (numF f (b,i)=m):=⟨_,Lib.hid rfl⟩
 have Hp:Hid ((ptL f)[m]?=some ⟨b,i⟩):=Lib.hid (by rw[←Hm.out];exact zjy hb.out hi);have hp:=Lib.hid (zof Hok.out Hp.out);have hmn:m<n:=by rw[Hn.out];exact(List.getElem?_eq_some_iff.1 Hp.out).1
 have hn6:n≤600:=by rw[Hn.out,zde];exact zp Hok.out
 rw[Hm.out];go_enter Tryz.func191,Tryz.ntmps191
 go_wp2_with fail;go_loopw [9,10] (fun s t wr=>∃ k l:Nat,k≤m∧m≤l∧l≤n∧s = .int .i64 k∧t = .int .i64 l∧Grow (w.alloc (.cells #[.int .i64 b,.int .i64 i] 165)) wr) (fun s t _=>(intOf t).toNat - (intOf s).toNat)
 case atStart=>exact⟨0,n,Nat.zero_le _,by omega,Nat.le_refl _,rfl,rfl,gw⟩
 case round =>
  obtain⟨k,l,hk,hl1,hl2,rfl,rfl,hb1⟩:=hrel;obtain⟨y1,rfl⟩:=za hb1;by_cases hkl:k<l
  ·have hh:((k+l) / 2)<n:=om;obtain⟨h,Hh⟩:∃ h,Hid ((k+l) / 2=h):=⟨_,Lib.hid rfl⟩
   have hhn:h<n:=by rw[←Hh.out];exact hh
   have hhk:k≤h:=by rw[←Hh.out];omega
   have hhl:h<l:=by rw[←Hh.out];omega
   have hdiv:Int.fdiv ((k:Int)+(l:Int)) 2=(h:Int):=by rw[Int.fdiv_eq_ediv_of_nonneg _ (by decide)];rw[←Hh.out];omega
   have hdiv2:((k:Int)+(l:Int)) / 2=(h:Int):=by rw[←Hh.out];omega
   obtain⟨b_q,off_q,q,rfl,⟨Hg_q,hl_q,hw_q,c_q0,c_q1,r_q0⟩⟩:=hl.pt h hhn;have hqs:=zof Hok.out Hg_q.out;have hcmp:=z13 Hg_q.out Hp.out;obtain⟨od,Hod⟩:∃ od,Hid (ordP q ⟨(b:Int),(i:Int)⟩=od):=⟨_,Lib.hid rfl⟩
   have Hoc:Hid (∀ w',Calls Tryz.prog 192 #[q.v,(⟨(b:Int),(i:Int)⟩:Pt).v] w' (Ret w' (.int .i64 od))):=Lib.hid fun w'=>by
    have:=zkg q ⟨(b:Int),(i:Int)⟩ w' hqs hp.out
    rw[Hod.out] at this;exact this
   rw[Hod.out] at hcmp;by_cases hhm:h<m
   ·have hd:decide (od<0)=true:=by simpa using hcmp.2 hhm
    clear hcmp hqs;go_wp2_with fail;clear hdiv hdiv2
    ((refine zv 8 7 (by kernel_rfl) (by rfl) (by decide) ?_);(iterate 7 (all_goals (first|((first|refine Tq 0 ?_|refine Tq 1 ?_|refine Tq 2 ?_|refine Tq 3 ?_|refine Tq 4 ?_|refine Tq 5 ?_|refine Tq 6 ?_);(first|go_big_quiet_step (fail)|(refine wpQuiet_step (fun K hK=>?_);go_simp;split<;>(refine hK _ ?_;clear hK K)));refine wpQuiet_nil ?_)|((first|refine Tf 0 ?_|refine Tf 1 ?_|refine Tf 2 ?_|refine Tf 3 ?_|refine Tf 4 ?_|refine Tf 5 ?_|refine Tf 6 ?_);intro xg K hK;go_wp2_with ((go_at_call 192;((with_reducible refine armV (Hoc.out _) ?_);intro x6)));refine hK _ _ gw ?_;clear hK K))));all_goals (refine zap (by decide +kernel) ?_;intro xR K hK;simp only[List.drop_succ_cons,List.drop_zero];go_wp2_with (fail);refine hK _ _ ?_;clear hK K))
    go_wp2_with fail;go_roundw
    case rel=>exact⟨h+1,l,by omega,by omega,by omega,by go_num,rfl,gw⟩
    case measure=>exact me
   ·have hd:decide (od<0)=false:=by
     have:¬od<0:=fun e=>hhm (hcmp.1 e)
     simpa using this
    clear hcmp hqs;go_wp2_with fail;clear hdiv hdiv2
    ((refine zv 8 7 (by kernel_rfl) (by rfl) (by decide) ?_);(iterate 7 (all_goals (first|((first|refine Tq 0 ?_|refine Tq 1 ?_|refine Tq 2 ?_|refine Tq 3 ?_|refine Tq 4 ?_|refine Tq 5 ?_|refine Tq 6 ?_);(first|go_big_quiet_step (fail)|(refine wpQuiet_step (fun K hK=>?_);go_simp;split<;>(refine hK _ ?_;clear hK K)));refine wpQuiet_nil ?_)|((first|refine Tf 0 ?_|refine Tf 1 ?_|refine Tf 2 ?_|refine Tf 3 ?_|refine Tf 4 ?_|refine Tf 5 ?_|refine Tf 6 ?_);intro xg K hK;go_wp2_with ((go_at_call 192;((with_reducible refine armV (Hoc.out _) ?_);intro x6)));refine hK _ _ gw ?_;clear hK K))));all_goals (refine zap (by decide +kernel) ?_;intro xR K hK;simp only[List.drop_succ_cons,List.drop_zero];go_wp2_with (fail);refine hK _ _ ?_;clear hK K))
    go_wp2_with fail;go_roundw
    case rel=>exact⟨k,h,by omega,by omega,by omega,rfl,rfl,gw⟩
    case measure=>exact me
  ·obtain rfl:k=m:=om;obtain rfl:k=l:=om;obtain⟨b_q,off_q,q,rfl,⟨Hg_q,hl_q,hw_q,c_q0,c_q1,r_q0⟩⟩:=hl.pt k hmn;obtain rfl:q=⟨(b:Int),(i:Int)⟩:=by have e1:=Hg_q.out;rw[Hp.out] at e1;injection e1 with e1;exact e1.symm
   have Hoc:Hid (∀ w',Calls Tryz.prog 192 #[(⟨(b:Int),(i:Int)⟩:Pt).v,(⟨(b:Int),(i:Int)⟩:Pt).v] w' (Ret w' (.int .i64 0))):=Lib.hid fun w'=>by
    have:=zkg ⟨(b:Int),(i:Int)⟩ ⟨(b:Int),(i:Int)⟩ w' hp.out hp.out
    rw[show ordP ⟨(b:Int),(i:Int)⟩ ⟨(b:Int),(i:Int)⟩=0 from by unfold ordP;simp] at this;exact this
   go_wp2_with fail
   (refine zg (by kernel_rfl) (by kernel_rfl) ?_;(repeat (any_goals (first|go_big_quiet_step (first|(go_at_call 192;refine zr (Hoc.out _)))|(refine wpQuiet_step (fun K hK=>?_);go_simp;split<;>(refine hK _ ?_;clear hK K)))));all_goals (refine wpQuiet_nil ?_;intro w1 hb1;obtain⟨x1,rfl⟩:=za hb1;clear hb1))
   go_wp2_with fail
   ((try simp only[Exit.inBlock,Exit.then]);refine zf (by simp only[results,Tryz.results191];go_simp;rfl) rfl gw ?_)
   rfl
theorem zgo (f : Fn)(v1 v2 : Value)(w : World){F F' : Nat→Prop}(hf : f.wf)(h1 : Sl F w v1 f.locals)(h2 : Sl F' w v2 f.blocks)(hok : fnErr f=0){b i : Nat}{x : Bk}(hb : Hid (f.blocks[b]?=some x))(hi : i≤x.stmts.length):
  Calls Tryz.prog 162 #[f.v v1 v2,(⟨(b:Int),(i:Int)⟩:Pt).v] w (Ret w (.tuple #[.int .i64 (numF f (b,i):Nat),.int .i64 0])):=by
 obtain⟨a,n,cap,rfl,Hn,hm,hcap,hcm,h1⟩:=h1.open;obtain⟨a2,n2,cap2,rfl,Hn2,hm2,hcap2,hcm2,h2⟩:=h2.open;have Hok:=Lib.hid hok;clear hok;go_enter Tryz.func162,Tryz.ntmps162
 go_wp2_with (first|(go_at_call 189;((with_reducible refine armV (zkf f _ _ _ hf h1.m h2.m Hok.out hb hi) ?_);intro x1)))
 ((refine zbb 9 (by kernel_rfl) (by rfl) ?_);(iterate 9 (all_goals (first|((first|refine Gq 0 ?_|refine Gq 2 ?_|refine Gq 1 ?_|refine Gq 3 ?_|refine Gq 4 ?_|refine Gq 5 ?_|refine Gq 6 ?_|refine Gq 7 ?_|refine Gq 8 ?_);(first|go_big_quiet_step (fail)|(refine wpQuiet_step (fun K hK=>?_);go_simp;split<;>(refine hK _ ?_;clear hK K)));refine wpQuiet_nil ?_)|((first|refine Gf 0 ?_|refine Gf 2 ?_|refine Gf 1 ?_|refine Gf 3 ?_|refine Gf 4 ?_|refine Gf 5 ?_|refine Gf 6 ?_|refine Gf 7 ?_|refine Gf 8 ?_);intro xg K hK;go_wp2_with (first|(go_at_call 163;((with_reducible refine armS (zn6 f _ _ _ h1.m h2.m Hok.out) ?_);intro a2 n2 cap2 x2 Hn2 hm2 hcap2 hcm2 hs2))|(go_at_call 191;((with_reducible refine(zwc f _ _ (hs2.mono gw) Hok.out hb hi).mono ?_);rintro e w3 ⟨rfl,hb3⟩;obtain⟨x3,rfl⟩:=za hb3;clear hb3)));refine hK _ _ gw ?_;clear hK K))));all_goals (refine G_end (by kernel_rfl) ?_;intro xR))
 go_wp2_with fail
 ((try simp only[Exit.inBlock,Exit.then]);refine zf (by simp only[results,Tryz.results162];go_simp;rfl) rfl gw ?_)
 rfl
theorem zox (j : Ju)(av : Value)(w : World)(hj : j.wf){F : Nat→Prop}(hav : Sl F w av j.args)(h0 : juErr j=0){ld : List Int}(Hld : Hid (leads j=ld))(hne : ld≠[]){ln : Nat}(Hln : Hid (ld.length=ln)):
  Calls Tryz.prog 68 #[j.v av] w (RetP w fun v w'=>∃ g off cap,v = .tuple #[.slice (some ⟨g,off,none⟩) ln cap,.int .i64 0]∧QuAt w.heap.size w' g off cap ld):=by
 refine(ziv j av w hj hav h0).mono ?_;rintro e w1 ⟨v1,rfl,⟨u1,rfl,hq1⟩,hb1⟩;rw[Hld.out] at hq1;rcases hq1 with ⟨e,_⟩|⟨_,g,off,cap,rfl,hq⟩
 ·exact absurd e hne
 ·rw[Hln.out];exact⟨_,rfl,⟨g,off,cap,rfl,hq⟩,hb1⟩
theorem zoy (j : Ju)(av : Value)(w : World)(hj : j.wf){F : Nat→Prop}(hav : Sl F w av j.args)(h0 : juErr j=0)(Hld : Hid (leads j = [])):
  Calls Tryz.prog 68 #[j.v av] w (Ret w (.tuple #[.slice none 0 0,.int .i64 0])):=by
 refine(ziv j av w hj hav h0).mono ?_;rintro e w1 ⟨v1,rfl,⟨u1,rfl,hq1⟩,hb1⟩;rcases hq1 with ⟨_,rfl⟩|⟨hne,_⟩
 ·exact⟨rfl,hb1⟩
 ·exact absurd Hld.out hne
theorem zqa {W0 : World}{x0 : Ext}{base g off cap : Nat}{xs : List Int}(h : QuAt base (ext W0 x0) g off cap xs)(hb : W0.heap.size≤base)(hl : xs.length≤1000){ln : Nat}(Hln : Hid (xs.length=ln)):
  Calls Tryz.prog 214 #[.slice (some ⟨g,off,none⟩) ln cap] (ext W0 x0) (fun e w'=>e = .returned (.tuple #[])∧∃ x',w'=ext W0 x'∧QuAt base (ext W0 x') g off cap (srt xs)∧∀ k,k<(ext W0 x0).heap.size→k≠g→(ext W0 x').heap[k]?=(ext W0 x0).heap[k]?):=by
 rw[←Hln.out];exact zp5 h hb hl
theorem zul (f : Fn)(v1 v2 : Value)(w : World){F F' : Nat→Prop}(hf : f.wf)(h1 : Sl F w v1 f.locals)(h2 : Sl F' w v2 f.blocks)(hok : fnErr f=0){b i : Nat}{x : Bk}(hb : Hid (f.blocks[b]?=some x))(hi : i≤x.stmts.length):
  Calls Tryz.prog 190 #[f.v v1 v2,(⟨(b:Int),(i:Int)⟩:Pt).v] w (RetP w fun v w'=>Sl (Fresh w) w' v (nextS b x i)):=by
 obtain⟨a,n,cap,rfl,Hn,hm,hcap,hcm,h1⟩:=h1.open;obtain⟨a2,n2,cap2,rfl,Hn2,hm2,hcap2,hcm2,h2⟩:=h2.open;have Hok:=Lib.hid hok;have hsm:=zt hok;have Hl:=Lib.hid (zif hok hb.out);clear hok;have hlt:b<n2:=by have:=(List.getElem?_eq_some_iff.1 hb.out).1;rw[←Hn2.out] at this;exact this
 obtain⟨b_y,off_y,y,y_stmts_a,y_stmts_n,y_stmts_c,y_jump_args_a,y_jump_args_n,y_jump_args_c,rfl,⟨Hg_y,hl_y,hw_y,y_stmts,y_jump_args,c_y0,c_y1,c_y2,c_y3,c_y4,c_y5,c_y6,c_y7,c_y8,c_y9,c_y10,c_y11,c_y12,c_y13,r_y0,r_y1,r_y2,r_y3,r_y4⟩⟩:=h2.bk b hlt;obtain rfl:y=x:=by have e1:=Hg_y.out;have e2:=hb.out;rw[e1] at e2;injection e2
 have Hyn:=Lib.hid y_stmts.len;have hi' : i≤y_stmts_n:=by rw[Hyn.out];exact hi
 have hyn:y_stmts_n≤24:=by rw[Hyn.out];exact hsm.1 y (List.mem_of_getElem? hb.out)
 have hn24:n2≤24:=by rw[Hn2.out];exact hsm.2.1
 clear hsm;by_cases hlt2:i<y_stmts_n
 ·have Hx:Hid (nextS b y i = [⟨(b:Int),(i:Int)+1⟩]):=Lib.hid (by unfold nextS;rw[if_pos (by rw[←Hyn.out];exact hlt2)]);have hpw:Pt.wf ⟨(b:Int),(i:Int)+1⟩:=⟨(show I64 (b:Int) from ⟨by omega,by omega⟩),(show I64 ((i:Int)+1) from ⟨by omega,by omega⟩)⟩
  rw[Hx.out];go_enter Tryz.func190,Tryz.ntmps190
  go_wp2_with fail;refine zd (by simp only[results,Tryz.results190];go_simp<;>rfl) rfl gw ?_;exact Sl.one (by simp[Fr];try omega) (by simp;try omega) om om ⟨rfl,hpw⟩ cel
 ·obtain⟨ld,Hld⟩:∃ l,Hid (leads y.jump=l):=⟨_,Lib.hid rfl⟩
  obtain⟨ln,Hln⟩:∃ k,Hid (ld.length=k):=⟨_,Lib.hid rfl⟩
  have Hx:Hid (nextS b y i=(srt ld).map (fun t=>(⟨t,0⟩:Pt))):=Lib.hid (by unfold nextS zpt;rw[if_neg (by rw[←Hyn.out];exact hlt2),Hld.out]);have hln:ln≤2:=by rw[←Hln.out,←Hld.out];exact zg1 _
  have Hlt:Hid (∀ t∈srt ld,0≤t∧t<(n2:Int)):=Lib.hid fun t ht=>by rw[Hn2.out];exact Hl.out.2 t (by rw[Hld.out];exact(zf4 _ _).1 ht)
  have Hj0:=Lib.hid Hl.out.1;have hjw:=hw_y.jump;by_cases hnil:ld = []
  ·have Hnil:Hid (leads y.jump = []):=Lib.hid (by rw[Hld.out,hnil]);have He:Hid ((srt ld).map (fun t=>(⟨t,0⟩:Pt)) = []):=Lib.hid (by rw[hnil];simp[srt]);clear hnil;rw[Hx.out,He.out];go_enter Tryz.func190,Tryz.ntmps190
   go_wp2_with (first|(go_at_call 68;((with_reducible refine armV (zoy y.jump _ _ hjw y_jump_args.m Hj0.out Hnil) ?_);intro x1))|(go_at_call 214;((with_reducible refine(Go.Proofs.Tryz.slices_Sort_int_none _ _ _).mono ?_);rintro e w2 ⟨rfl,rfl⟩)));go_loopw [8,40] (fun tv ti wr=>tv = .slice none 0 0∧ti = .int .i64 0∧Grow w wr) (fun _ ti _=>0)
   case atStart=>exact⟨rfl,rfl,gw⟩
   case round =>
    obtain⟨rfl,rfl,hgr⟩:=hrel;obtain⟨z,rfl⟩:=za hgr;go_wp2_with fail;refine zd (by simp only[results,Tryz.results190];go_simp<;>rfl) rfl gw ?_;exact Sl.nil _ _
  ·have Hne:=Lib.hid hnil;clear hnil;go_enter Tryz.func190,Tryz.ntmps190
   go_wp2_with (first|(go_at_call 68;((with_reducible refine(zox y.jump _ _ hjw y_jump_args.m Hj0.out Hld Hne.out Hln).mono ?_);rintro e w1 ⟨v1,rfl,⟨g,off,capq,rfl,hq⟩,hb1⟩;obtain⟨x1,rfl⟩:=za hb1;clear hb1))|(go_at_call 214;(refine(zqa hq (Nat.le_refl _) (by rw[Hln.out];omega) Hln).mono ?_;rintro e w2 ⟨rfl,x2,rfl,hq2,_⟩)));have Hsl:Hid ((srt ld).length=ln):=Lib.hid (by rw[zhz];exact Hln.out);go_loopw [8,40] (fun tv ti wr=>∃ k:Nat,k≤ln∧ti = .int .i64 k∧Grow (ext (((w.alloc (bxFn f (.slice a n cap) (.slice (some ⟨b_y,off_y,none⟩) n2 cap2))).alloc (.cells #[.int .i64 b,.int .i64 i] 165)).alloc (bxBk y (.slice y_stmts_a y_stmts_n y_stmts_c) (.slice y_jump_args_a y_jump_args_n y_jump_args_c))) x2) wr∧Own (fun _=>False) (ext (((w.alloc (bxFn f (.slice a n cap) (.slice (some ⟨b_y,off_y,none⟩) n2 cap2))).alloc (.cells #[.int .i64 b,.int .i64 i] 165)).alloc (bxBk y (.slice y_stmts_a y_stmts_n y_stmts_c) (.slice y_jump_args_a y_jump_args_n y_jump_args_c))) x2).heap.size 165 wr tv (((srt ld).take k).map (fun t=>(⟨t,0⟩:Pt)))) (fun _ ti _=>ln - (intOf ti).toNat)
   case atStart=>exact⟨0,Nat.zero_le _,rfl,gw,Own.nil _ _ _ _⟩
   case round =>
    obtain⟨k,hk,rfl,hgr,hown⟩:=hrel;obtain⟨z,rfl⟩:=za hgr;by_cases hltk:k<ln
    ·have hks:k<(srt ld).length:=by rw[Hsl.out];exact hltk
     have hc:=hq2.at_ k hks;obtain⟨t,Ht⟩:∃ t,Hid ((srt ld)[k]?=some t):=⟨_,Lib.hid (List.getElem?_eq_getElem hks)⟩
     have htv:(srt ld)[k]=t:=by have:=Ht.out;rw[List.getElem?_eq_getElem hks] at this;injection this
     rw[htv] at hc;have htb:=Hlt.out t (List.mem_of_getElem? Ht.out);have hpw:Pt.wf ⟨t,0⟩:=⟨(show I64 t from ⟨by omega,by omega⟩),(show I64 (0:Int) from ⟨by decide,by decide⟩)⟩
     have Hsn:Hid (((srt ld).take (k+1)).map (fun t=>(⟨t,0⟩:Pt))=((srt ld).take k).map (fun t=>(⟨t,0⟩:Pt))++[⟨t,0⟩]):=Lib.hid (by rw[List.take_add_one,Ht.out,List.map_append];rfl);have hml:(((srt ld).take k).map (fun t=>(⟨t,0⟩:Pt))).length≤2:=by rw[List.length_map,List.length_take];omega
     have hgl:=hq2.lt;haveI:LtW g (ext (((w.alloc (bxFn f (.slice a n cap) (.slice (some ⟨b_y,off_y,none⟩) n2 cap2))).alloc (.cells #[.int .i64 b,.int .i64 i] 165)).alloc (bxBk y (.slice y_stmts_a y_stmts_n y_stmts_c) (.slice y_jump_args_a y_jump_args_n y_jump_args_c))) x2):=⟨hgl⟩
     clear htv hks;go_wp2_with (first|(at_builtin;go_must (refine zh (α:=Pt) zv1 rfl rfl rfl (hown) gw (by first|exact Nat.le_refl _|(simp;done)|(simp;omega)) (by first|(simp;done)|(simp;omega)) rfl (y:=(⟨t,0⟩:Pt)) (Gy:=fun _=>False) (⟨rfl,hpw⟩) (fun _ h=>h.elim) cel (by simp[Value.oneCell']) om om ?_);intro tv7 x7 ho7 hsz7 hagr7));go_roundw
     case rel=>exact⟨k+1,by omega,by go_num,gw,by rw[Hsn.out];exact ho7⟩
     case measure=>exact me
    ·have e:(srt ld).take k=srt ld:=List.take_of_length_le (by rw[Hsl.out];omega);rw[e] at hown;clear e;go_wp2_with fail;refine zd (by simp only[results,Tryz.results190];go_simp<;>rfl) rfl gw ?_;rw[Hx.out];exact(hown.sl.wide (fun b hb hF=>by rcases hF with hF|hF;exact hF.elim;exact Or.inr (by first|omega|(simp at hF;omega)))).mono gw
theorem zin (f : Fn)(v1 v2 : Value)(w : World){F F' : Nat→Prop}(hf : f.wf)(h1 : Sl F w v1 f.locals)(h2 : Sl F' w v2 f.blocks)(hok : fnErr f=0){b i : Nat}{x : Bk}(hb : Hid (f.blocks[b]?=some x))(hi : i≤x.stmts.length):
  Calls Tryz.prog 161 #[f.v v1 v2,(⟨(b:Int),(i:Int)⟩:Pt).v] w (RetP w fun v w'=>∃ u,v = .tuple #[u,.int .i64 0]∧Sl (Fresh w) w' u (nextS b x i)):=by
 obtain⟨a,n,cap,rfl,Hn,hm,hcap,hcm,h1⟩:=h1.open;obtain⟨a2,n2,cap2,rfl,Hn2,hm2,hcap2,hcm2,h2⟩:=h2.open;have Hok:=Lib.hid hok;clear hok;go_enter Tryz.func161,Tryz.ntmps161
 go_wp2_with (first|(go_at_call 189;((with_reducible refine armV (zkf f _ _ _ hf h1.m h2.m Hok.out hb hi) ?_);intro x1))|(go_at_call 190;((with_reducible refine armS (zul f _ _ _ hf h1.m h2.m Hok.out hb hi) ?_);intro a2 n2 cap2 x2 Hn2 hm2 hcap2 hcm2 hs2)));refine zd (by simp only[results,Tryz.results161];go_simp<;>rfl) rfl gw ⟨_,rfl,?_⟩;exact hs2.wide (fun b hb hF=>by rcases hF with hF|hF;exact hF.elim;exact Or.inr (by first|omega|(simp at hF;omega)))
theorem zqb (xs : List Int): (xs.map fun x=>[Value.int .i64 x]).flatten=xs.map (Value.int .i64):=by
 induction xs with
 |nil=>rfl
 |cons x xs ih=>simp only[List.map_cons,List.flatten_cons,ih];rfl
theorem Own.intOf {base : Nat}{e : TypeId}{w : World}{v : Value}{xs : List Int}(h : Own (fun _=>False) base e w v xs): (∀ x∈xs,I64 x)∧w.ownsRow base e 1 v xs.length (xs.map (Value.int .i64))∧xs.length≤140737488355328:=by
 obtain⟨G,css,hG,hl,hR,hn,hown⟩:=h;have e1:css=xs.map fun x=>[Value.int .i64 x]:=by
  apply List.ext_getElem (by simpa using hl);intro i h1 h2;have:=(hR i om h1).1
  simpa using this
 rw[e1,zqb] at hown;refine⟨fun x hx=>?_,hown,hn⟩;obtain⟨i,hi,rfl⟩:=List.getElem_of_mem hx;exact(hR i hi om).2
theorem Own.intMk {base : Nat}{e : TypeId}{w : World}{v : Value}{xs : List Int}(h1 : ∀ x∈xs,I64 x)(h2 : w.ownsRow base e 1 v xs.length (xs.map (Value.int .i64)))(h3 : xs.length≤140737488355328): Own (fun _=>False) base e w v xs:=by
 refine⟨fun _=>False,xs.map fun x=>[Value.int .i64 x],fun _ h=>h.elim,by simp,fun i h h'=>?_,h3,by rw[zqb];exact h2⟩;simp only[List.getElem_map];exact⟨rfl,h1 _ (List.getElem_mem h)⟩
theorem ztk {W0 w w' : World}{g base : Nat}(h : Grow W0 w)(hg : w.grownBy w' (some g))(hb : W0.heap.size≤g): Grow W0 w' :=
 ⟨hg.os.trans h.os,hg.tape.trans h.tape,hg.output.trans h.output,Nat.le_trans h.size hg.size,fun k hk=>by
  rw[hg.block k (Nat.lt_of_lt_of_le hk h.size) (fun e=>by injection e;omega),h.block k hk]⟩
theorem zum (l : List Int): (srt l).Pairwise (·≤·):=by
 unfold srt;have:=List.pairwise_mergeSort (le:=fun x y:Int=>decide (x≤y)) (fun a b c h1 h2=>by simp at *;omega) (fun a b=>by simp;omega) l
 exact this.imp fun h=>by simpa using h
theorem zqc {W0 : World}{x0 : Ext}{base : Nat}{v : Value}{xs : List Int}(h : Own (fun _=>False) base 3 (ext W0 x0) v xs)(hb : W0.heap.size≤base)(hl : xs.length≤1000):
  Calls Tryz.prog 214 #[v] (ext W0 x0) (fun e w'=>e = .returned (.tuple #[])∧∃ x',w'=ext W0 x'∧Own (fun _=>False) base 3 (ext W0 x') v (srt xs)):=by
 obtain⟨h64,hown,hn⟩:=h.intOf;have hsl:=zhz xs;rcases id hown.2 with ⟨rfl,h0⟩|⟨g,cap,cur,rfl,hbg,hg,hnc,hcm,hcs,htake⟩
 ·obtain rfl:xs = []:=List.eq_nil_of_length_eq_zero h0;refine(Go.Proofs.Tryz.slices_Sort_int_none none 0 (ext W0 x0)).mono ?_;rintro e w' ⟨rfl,rfl⟩;have e0:srt [] = []:=by simp[srt]
  rw[e0];exact⟨rfl,x0,rfl,Own.nil _ _ _ _⟩
 ·rw[Nat.mul_one] at htake;refine(Go.Proofs.Tryz.slices_Sort_int g 0 cap xs (ext W0 x0) (holds_of_blockI hg htake) ((Array.getElem?_eq_some_iff.1 hg).1) om).mono ?_;rintro e w' ⟨rfl,n,os,rfl⟩;have hs:=ownsRow_sortedI (n:=n) (os:=os) (ss:=xs) (ts:=srt xs) hsl hbg hg hnc hcm hcs;have hgr:(ext W0 x0).grownBy _ (some g):=grownBy_sortedI (n:=n) (os:=os) (srt xs).toArray;obtain⟨x',hx⟩:=za (ztk (base:=base) (zw W0 x0) hgr (Nat.le_trans hb hbg));refine⟨rfl,x',hx,Own.intMk (fun x hx=>h64 x ((zf4 _ _).1 hx)) ?_ om⟩;rw[←hx];have e1:(srt xs).length=xs.length:=hsl;rw[e1];exact hs
theorem zg7 (xs : List Int): ∀ m,m≤xs.length→(Lib.compactUpTo xs.toArray m).Sublist (xs.take m)
 |0,_=>by simp[Lib.compactUpTo]
 |m+1,h=>by
  rw[Lib.compactUpTo_succ,List.take_add_one,List.getElem?_eq_getElem om];refine List.Sublist.append (zg7 xs m om) ?_;have e:(xs.toArray)[m]! = xs[m]:=by rw[getElem!_pos xs.toArray m (by simp;omega)];simp
  split
  ·rw[e];simp
  ·simp
theorem zkj (xs : List Int): (Lib.compact xs).Sublist xs:=by
 have:=zg7 xs xs.length (Nat.le_refl _)
 rw[List.take_length] at this;exact this
theorem zgp (xs : List Int)(x : Int): ∀ m,m≤xs.length→x∈xs.take m→x∈Lib.compactUpTo xs.toArray m
 |0,_,hx=>by simp at hx
 |m+1,h,hx=>by
  rw[Lib.compactUpTo_succ,List.mem_append];rw[List.take_add_one,List.getElem?_eq_getElem om,List.mem_append] at hx;rcases hx with hx|hx
  ·exact Or.inl (zgp xs x m om hx)
  ·simp only[Option.toList_some,List.mem_singleton] at hx;have e:(xs.toArray)[m]! = xs[m]:=by rw[getElem!_pos xs.toArray m (by simp;omega)];simp
   by_cases hk:Lib.keeps xs.toArray m=true
   ·right;rw[if_pos hk,e];simp[hx]
   ·left;have h2:m≠0∧(xs.toArray)[m]! = (xs.toArray)[m - 1]!:=by
     unfold Lib.keeps at hk;simp only[decide_eq_true_eq,not_or,ne_eq,Classical.not_not] at hk;exact hk
    have e2:(xs.toArray)[m - 1]! = xs[m - 1]:=by rw[getElem!_pos xs.toArray (m - 1) (by simp;omega)];simp
    rw[e,e2] at h2;refine zgp xs x m om ?_;rw[hx,h2.2];exact List.mem_take_iff_getElem.2 ⟨m - 1,by omega,rfl⟩
theorem zkk (xs : List Int)(x : Int): x∈Lib.compact xs↔x∈xs:=by
 refine⟨fun h=>(zkj xs).subset h,fun h=>zgp xs x xs.length (Nat.le_refl _) (by rw[List.take_length];exact h)⟩
theorem zl4 {W0 : World}{x0 : Ext}{base : Nat}{v : Value}{xs : List Int}(h : Own (fun _=>False) base 3 (ext W0 x0) v xs)(hb : W0.heap.size≤base)(hl : xs.length≤1000):
  Calls Tryz.prog 279 #[v] (ext W0 x0) (fun e w'=>∃ v' x',e = .returned v'∧w'=ext W0 x'∧Own (fun _=>False) base 3 (ext W0 x') v' (Lib.compact xs)):=by
 obtain⟨h64,hown,hn⟩:=h.intOf;have hcl:=Lib.compact_length_le xs;rcases id hown.2 with ⟨rfl,h0⟩|⟨g,cap,cur,rfl,hbg,hg,hnc,hcm,hcs,htake⟩
 ·obtain rfl:xs = []:=List.eq_nil_of_length_eq_zero h0;refine(Go.Proofs.Tryz.slices_Compact_int_empty none 0 (ext W0 x0)).mono ?_;rintro e w' ⟨rfl,rfl⟩;exact⟨_,x0,rfl,rfl,Own.nil _ _ _ _⟩
 ·rw[Nat.mul_one] at htake;refine(Go.Proofs.Tryz.slices_Compact_int g 0 cap xs (ext W0 x0) (holds_of_blockI hg htake) om hnc).mono ?_;rintro e w' ⟨rfl,n,rfl⟩;obtain⟨ts,hts⟩:∃ ts,ts=Lib.compact xs++List.replicate (xs.length - (Lib.compact xs).length) 0:=⟨_,rfl⟩
  have htl:ts.length=xs.length:=by rw[hts];simp;omega
  have e0:Go.Sort.putRow (Value.int .i64) (Go.Sort.ahead (ext W0 x0) n) g 0 ts.toArray=Go.Sort.grow (Go.Sort.putRow (Value.int .i64) (Go.Sort.ahead (ext W0 x0) n) g 0 ts.toArray) #[]:=by simp
  have hgr:(ext W0 x0).grownBy _ (some g):=grownBy_sortedI (n:=n) (os:=#[]) ts.toArray;obtain⟨x',hx⟩:=za (ztk (base:=base) (zw W0 x0) hgr (Nat.le_trans hb hbg));have hbk:=Go.heap_sortedI (n:=n) (os:=#[]) ts.toArray hg;have htk:=take_putCellsI cur ts om;rw[←hts,e0];refine⟨_,x',rfl,hx,Own.intMk (fun x hx=>h64 x ((zkk _ _).1 hx)) ?_ om⟩;rw[←hx];refine⟨by simp,.inr ⟨g,cap,_,rfl,hbg,hbk,by omega,hcm,by simp[Go.Sort.putCells,hcs],?_⟩⟩;rw[Nat.mul_one];have e2:(Lib.compact xs).length=min (Lib.compact xs).length ts.length:=om;rw[e2,←List.take_take,htk,hts];rw[←List.map_take,List.take_left' rfl]
theorem ze6 {W0 : World}{x0 : Ext}{base : Nat}{v : Value}{xs : List Int}(h : Own (fun _=>False) base 3 (ext W0 x0) v xs)(hl : xs.length≤1000)(hs : xs.Pairwise (·≤·))(y : Int):
  Calls Tryz.prog 243 #[v,.int .i64 y] (ext W0 x0) (Ret (ext W0 x0) (.tuple #[.int .i64 (xs.countP (·<y):Nat),.bool (xs.contains y)])):=by
 obtain⟨h64,hown,hn⟩:=h.intOf;rcases id hown.2 with ⟨rfl,h0⟩|⟨g,cap,cur,rfl,hbg,hg,hnc,hcm,hcs,htake⟩
 ·obtain rfl:xs = []:=List.eq_nil_of_length_eq_zero h0;refine(Go.Proofs.Tryz.slices_BinarySearch_int_empty none 0 y (ext W0 x0)).mono ?_;rintro e w' ⟨rfl,rfl⟩;exact⟨rfl,Grow.refl _⟩
 ·rw[Nat.mul_one] at htake;have hH:=Go.holds_of_blockI hg htake;refine(Go.Proofs.Tryz.slices_BinarySearch_int g 0 xs.length cap xs y (ext W0 x0) (Nat.le_refl _) om (fun j hj=>?_) (by rw[List.take_length];exact hs)).mono ?_
  ·rw[(hH j (by simpa using hj)).1];simp[hj]
  ·rintro e w' ⟨rfl,q,rfl⟩;rw[List.take_length];exact⟨rfl,⟨rfl,rfl,rfl,Nat.le_refl _,fun _ _=>rfl⟩⟩
theorem zcj {g : Nat}{e : TypeId}{fr : Nat×Nat}: ∀ (vs : List Value) (off : Nat) (w : World) (c : Array Value),w.heap[g]?=some (.cells c e fr)→(w.setCells g off vs).heap[g]?=some (.cells (spl c off vs) e fr)
 |[],off,w,c,h=>h
 |v::r,off,w,c,h=>by
  rw[World.setCells];refine zcj r (off+1) _ _ ?_;simp only[World.setCell,Array.getElem?_modify,h];simp
theorem Grow.setCells {a : World}{g : Nat}(hg : a.heap.size≤g): ∀ (vs : List Value) (off : Nat) {b : World},Grow a b→Grow a (b.setCells g off vs)
 |[],off,b,h=>h
 |v::r,off,b,h=>by
  rw[World.setCells];exact Grow.setCells hg r (off+1) (h.setCell hg v)
theorem ze7 {c : Array Value}{off : Nat}{vs : List Value}(h : off+vs.length≤c.size): (spl c off vs).toList=c.toList.take off++(vs++c.toList.drop (off+vs.length)):=by
 rw[zpd vs c off h]
theorem zgq {c : Array Value}{off : Nat}{vs : List Value}(h : off+vs.length≤c.size): (spl c off vs).size=c.size:=by
 have:=congrArg List.length (ze7 h)
 simp at this;omega
theorem zwd {α : Type}{l : List α}{n : Nat}{k : List α}(h : l.take n=k)(hn : k.length=n): ∃ r,l=k++r:=⟨l.drop n,by rw[←h,List.take_append_drop]⟩
theorem zyp {cs R : List Value}{y : Value}{i : Nat}(hi : i≤cs.length){c c1 c2 : Array Value}(hc : c.toList=cs++R)(hR : 1≤R.length)(h1 : c1=spl c (i+1) (cs.drop i))(h2 : c2=spl c1 i [y]): c2.toList.take (cs.length+1)=cs.take i++y::cs.drop i∧c2.size=c.size:=by
 have hcs:c.size=cs.length+R.length:=by have:=congrArg List.length hc;simpa using this
 have hf1:i+1+(cs.drop i).length≤c.size:=by rw[List.length_drop];omega
 have hs1:c1.size=c.size:=by rw[h1];exact zgq hf1
 have hf2:i+([y]:List Value).length≤c1.size:=by simp;omega
 have hl1:=ze7 hf1;have hl2:=ze7 hf2;rw[←h1] at hl1;rw[←h2] at hl2;refine⟨?_,by rw[h2,zgq hf2,hs1]⟩;have ht1:c1.toList.take i=cs.take i:=by
  rw[hl1,List.take_append_of_le_length (by simp;omega),List.take_take,hc,List.take_append_of_le_length om,Nat.min_eq_left om]
 have hd1:c1.toList.drop (i+1)=cs.drop i++c.toList.drop (i+1+(cs.drop i).length):=by
  rw[hl1,List.drop_left' (by simp;omega)]
 rw[hl2,ht1,List.length_singleton,hd1];have e:cs.take i++([y]++(cs.drop i++c.toList.drop (i+1+(cs.drop i).length)))=(cs.take i++y::cs.drop i)++c.toList.drop (i+1+(cs.drop i).length):=by simp
 rw[e,List.take_left' (by simp;omega)]
theorem zwe {cs Z : List Value}{y : Value}{i : Nat}(hi : i≤cs.length){c c1 c2 : Array Value}(hc : c.toList=cs.take i++Z)(hZ : cs.length+1 - i≤Z.length)(h1 : c1=spl c i [y])(h2 : c2=spl c1 (i+1) (cs.drop i)): c2.toList.take (cs.length+1)=cs.take i++y::cs.drop i∧c2.size=c.size:=by
 have hti:(cs.take i).length=i:=by rw[List.length_take];omega
 have hcs:c.size=i+Z.length:=by have:=congrArg List.length hc;rw[List.length_append,hti] at this;simpa using this
 have hf1:i+([y]:List Value).length≤c.size:=by simp;omega
 have hs1:c1.size=c.size:=by rw[h1];exact zgq hf1
 have hf2:i+1+(cs.drop i).length≤c1.size:=by rw[List.length_drop];omega
 have hl1:=ze7 hf1;have hl2:=ze7 hf2;rw[←h1] at hl1;rw[←h2] at hl2;refine⟨?_,by rw[h2,zgq hf2,hs1]⟩;have ht1:c1.toList.take (i+1)=cs.take i++[y]:=by
  rw[hl1,hc,List.take_left' hti];have e:cs.take i++([y]++List.drop (i+([y]:List Value).length) (cs.take i++Z))=(cs.take i++[y])++List.drop (i+([y]:List Value).length) (cs.take i++Z):=by simp
  rw[e,List.take_left' (by simp;omega)]
 rw[hl2,ht1];have e:cs.take i++[y]++(cs.drop i++c1.toList.drop (i+1+(cs.drop i).length))=(cs.take i++y::cs.drop i)++c1.toList.drop (i+1+(cs.drop i).length):=by simp
 rw[e,List.take_left' (by simp;omega)]
theorem z0s (xs : List Int): ∀ v∈xs.map (Value.int .i64),v.oneCell'=true:=fun v hv=>by
 obtain⟨x,_,rfl⟩:=List.mem_map.1 hv;rfl
theorem ztl (xs : List Int)(y : Int){i : Nat}(hi : i≤xs.length): (xs.take i++y::xs.drop i).length=xs.length+1:=by simp;omega
theorem z0t (xs : List Int)(y : Int)(i : Nat): (xs.take i++y::xs.drop i).map (Value.int .i64)=(xs.map (Value.int .i64)).take i++Value.int .i64 y::(xs.map (Value.int .i64)).drop i:=by
 rw[List.map_append,List.map_cons,List.map_take,List.map_drop]
theorem znc {W0 : World}{x0 : Ext}{base : Nat}{v : Value}{xs : List Int}(h : Own (fun _=>False) base 3 (ext W0 x0) v xs)(hb : W0.heap.size≤base)(hbs : base≤(ext W0 x0).heap.size)(hl : xs.length≤1000){i : Nat}(hi : i≤xs.length){y : Int}(hy : I64 y){vb : Nat}(hvb : vb=(ext W0 x0).heap.size):
  Calls Tryz.prog 245 #[v,.int .i64 (i:Nat),.slice (some ⟨vb,0,none⟩) 1 1] ((ext W0 x0).alloc (.cells #[.int .i64 y] 3)) (fun e w'=>∃ v' x',e = .returned v'∧w'=ext W0 x'∧Own (fun _=>False) base 3 (ext W0 x') v' (xs.take i++y::xs.drop i)):=by
 subst hvb;obtain⟨h64,hown,hn⟩:=h.intOf;have h64' : ∀ x∈xs.take i++y::xs.drop i,I64 x:=by
  intro x hx;rcases List.mem_append.1 hx with hx|hx
  ·exact h64 x (List.mem_of_mem_take hx)
  ·rcases List.mem_cons.1 hx with rfl|hx
   ·exact hy
   ·exact h64 x (List.mem_of_mem_drop hx)
 have hil:=ztl xs y hi;have him:=z0t xs y i;have hml:(xs.map (Value.int .i64)).length=xs.length:=by simp
 have h1c:=z0s xs;have hG0:Grow W0 ((ext W0 x0).alloc (.cells #[.int .i64 y] 3)):=(zw W0 x0).alloc _;have hvs:∀ j u,([Value.int .i64 y])[j]?=some u→((ext W0 x0).alloc (.cells #[.int .i64 y] 3)).cell? ⟨(ext W0 x0).heap.size,0+j,none⟩=some u:=by
  intro j u hu;match j,hu with
  |0,hu=>simp at hu;subst hu;rw[Nat.add_zero,World.cell?_alloc_new];rfl
 have h1v:∀ u∈[Value.int .i64 y],u.oneCell'=true:=by intro u hu;simp at hu;subst hu;rfl
 have hsz1:((ext W0 x0).alloc (.cells #[.int .i64 y] 3)).heap.size=(ext W0 x0).heap.size+1:=by simp
 generalize hw1:(ext W0 x0).alloc (.cells #[.int .i64 y] 3)=w1 at hG0 hvs hsz1 ⊢;generalize hS:(ext W0 x0).heap.size=S at hvs hsz1 hbs ⊢;obtain⟨cs,hcs0⟩:∃ cs,cs=xs.map (Value.int .i64):=⟨_,rfl⟩
 rw[←hcs0] at hml h1c him hown;rw[←hml] at hi hil hl hn;have hnew:∀ (w' : World) (g cap:Nat) (cur:Array Value),Grow W0 w'→base≤g→w'.heap[g]?=some (.cells cur 3 (0,0))→cs.length+1≤cap→cap≤maxLen→cur.size=cap→cur.toList.take (cs.length+1)=cs.take i++Value.int .i64 y::cs.drop i →
   ∃ v' x',(Ending.returned (.slice (some ⟨g,0,none⟩) (cs.length+1) cap)) = .returned v'∧w'=ext W0 x'∧Own (fun _=>False) base 3 (ext W0 x') v' (xs.take i++y::xs.drop i):=by
  intro w' g cap cur hg hbg hgg hc1 hc2 hc3 hc4;obtain⟨x',rfl⟩:=za hg;refine⟨_,x',rfl,rfl,Own.intMk h64' ?_ om⟩;rw[hil,him];exact⟨by rw[←him,List.length_map,hil,Nat.mul_one],.inr ⟨g,cap,cur,rfl,hbg,hgg,hc1,hc2,by omega,by rw[Nat.mul_one];exact hc4⟩⟩
 rcases id hown.2 with ⟨rfl,h0⟩|⟨g,cap,cur,rfl,hbg,hg,hnc,hcm,hcs,htake⟩
 ·have hcn:cs = []:=List.eq_nil_of_length_eq_zero om;subst hcn;obtain rfl:i=0:=by simpa using hi
  refine(Any2.slices_Insert_int_end_grow Go.Proofs.Tryz.laysNm221 none 0 0 S 0 1 1 [] [Value.int .i64 y] w1 om (Nat.le_refl _) om om rfl rfl (fun _=>rfl) (fun a h=>by cases h) (fun j u hu=>hvs j u hu) h1v).mono ?_;rintro e w' ⟨rfl,rfl⟩;have hge:=grownCap_ge w1 (0+1) 0 3;have hcm:=grownCap_le_maxLen w1 (0+1) 0 3 (by unfold maxLen;omega);refine hnew _ _ _ _ (Grow.alloc (Grow.drew hG0) _) om (heap_alloc_new w1.drew _) hge hcm ?_ ?_
  ·simp only[Array.size_append,List.size_toArray,List.nil_append,List.length_singleton,size_zeroCells];show 1+(grownCap w1 (0+1) 0 3 - (0+1)) * 1=grownCap w1 (0+1) 0 3;omega
  ·simp
 ·rw[Nat.mul_one] at htake hcs;have hgS:g<S:=by rw[←hS];exact(Array.getElem?_eq_some_iff.1 hg).1
  have hg1:w1.heap[g]?=some (.cells cur 3 (0,0)):=by rw[←hw1,hAo16 _ _ (by rw[hS];exact hgS)];exact hg
  rw[←hml] at htake hnc;obtain⟨R,hR⟩:=zwd htake rfl;have hRl:cur.size=cs.length+R.length:=by have:=congrArg List.length hR;simpa using this
  have hcell:∀ j u,cs[j]?=some u→w1.cell? ⟨g,0+j,none⟩=some u:=by
   intro j u hu;have hj:=(List.getElem?_eq_some_iff.1 hu).1;simp only[World.cell?,hg1,Nat.zero_add,Option.isSome_none,Bool.false_eq_true,if_false];rw[←Array.getElem?_toList,hR,List.getElem?_append_left hj];exact hu
  have hsome:∀ j,j<cap→(w1.cell? ⟨g,j,none⟩).isSome=true:=by
   intro j hj;simp only[World.cell?,hg1,Option.isSome_none,Bool.false_eq_true,if_false];rw[Array.getElem?_eq_getElem om];rfl
  have hfz:∀ j,w1.frozen? ⟨g,j,none⟩=false:=by intro j;simp[World.frozen?,hg1]
  have hcx:xs.length=cs.length:=by rw[hcs0];simp
  rw[hcx];have hc63:cap≤9223372036854775807:=by unfold maxLen at hcm;exact hcm
  by_cases hroom:cs.length+1≤cap
  ·by_cases hlt:i<cs.length
   ·have hshA:w1.shape? S=some (3,1):=by rw[←hw1,←hS];unfold World.shape?;rw[heap_alloc_new];rfl
    have hshB:w1.shape? g=some (3,cap):=by simp[World.shape?,hg1,hcs]
    have hfa:∀ o,w1.frozen? ⟨S,o,none⟩=false:=by intro o;rw[←hw1,←hS];exact World.frozen?_alloc_new _ _ _ _
    refine(Any2.slices_Insert_int_shift Go.Proofs.Tryz.laysNm221 g 0 cs.length cap i S 0 1 1 cs [Value.int .i64 y] w1 hlt om hroom hc63 om rfl rfl hcell (fun j hj=>by rw[Nat.zero_add];exact hsome j om) (fun j _=>hfz _) hvs h1c h1v 3 3 1 cap hshA hshB om (hfa 0) (hfa 1)).mono ?_;rintro e w' ⟨rfl,rfl⟩;rw[Nat.zero_add,Nat.zero_add];have hb1:=zcj (cs.drop i) (i+1) w1.drew cur hg1;have hb2:=zcj [Value.int .i64 y] i _ _ hb1;have hin:=zyp (y:=Value.int .i64 y) hi hR om rfl rfl;refine hnew _ g cap _ (Grow.setCells om _ _ (Grow.setCells om _ _ (Grow.drew hG0))) hbg hb2 hroom hcm (by rw[hin.2,hcs]) hin.1
   ·obtain rfl:i=cs.length:=om;refine(Any2.slices_Insert_int_end_room Go.Proofs.Tryz.laysNm221 g 0 cs.length cap S 0 1 1 [Value.int .i64 y] w1 om hroom hc63 rfl (fun j hj=>by rw[Nat.zero_add];exact hsome _ om) (fun j _=>hfz _) hvs h1v).mono ?_;rintro e w' ⟨rfl,rfl⟩;rw[Nat.zero_add];have hb1:=zcj [Value.int .i64 y] cs.length w1 cur hg1;have hf1:cs.length+([Value.int .i64 y]:List Value).length≤cur.size:=by simp;omega
    refine hnew _ g cap _ (Grow.setCells om _ _ hG0) hbg hb1 hroom hcm (by rw[zgq hf1,hcs]) ?_;rw[ze7 hf1,htake,List.take_length,List.drop_length];have e:cs++([Value.int .i64 y]++cur.toList.drop (cs.length+([Value.int .i64 y]:List Value).length))=(cs++[Value.int .i64 y])++cur.toList.drop (cs.length+([Value.int .i64 y]:List Value).length):=by simp
    rw[e,List.take_left' (by simp)]
  ·have hge:=grownCap_ge w1 (cs.length+1) cap 3;have hcm2:=grownCap_le_maxLen w1 (cs.length+1) cap 3 (by unfold maxLen;omega);by_cases hlt:i<cs.length
   ·refine(Any2.slices_Insert_int_grow Go.Proofs.Tryz.laysNm221 g 0 cs.length cap i S 0 1 1 cs [Value.int .i64 y] w1 hlt om hnc om om rfl rfl hcell hvs h1c h1v).mono ?_;rintro e w' ⟨rfl,rfl⟩;change ∃ v' x',Ending.returned (.slice (some ⟨w1.heap.size,0,none⟩) (cs.length+1) (grownCap w1 (cs.length+1) cap 3)) = .returned v'∧_;obtain⟨C,hC⟩:∃ C:Array Value,C=(cs.take i).toArray++Builtin.zeroCells (Value.int .i64 0).cells (cs.length+1 - i)++Builtin.zeroCells (Value.int .i64 0).cells (grownCap w1 (cs.length+1) cap 3 - (cs.length+1)):=⟨_,rfl⟩
    have hCl:C.toList=cs.take i++((Builtin.zeroCells (Value.int .i64 0).cells (cs.length+1 - i)).toList++(Builtin.zeroCells (Value.int .i64 0).cells (grownCap w1 (cs.length+1) cap 3 - (cs.length+1))).toList):=by rw[hC];simp
    have hz1:(Builtin.zeroCells (Value.int .i64 0).cells (cs.length+1 - i)).size=cs.length+1 - i:=by rw[size_zeroCells];show (cs.length+1 - i) * 1=_;omega
    have hz2:(Builtin.zeroCells (Value.int .i64 0).cells (grownCap w1 (cs.length+1) cap 3 - (cs.length+1))).size=grownCap w1 (cs.length+1) cap 3 - (cs.length+1):=by rw[size_zeroCells];show (grownCap w1 (cs.length+1) cap 3 - (cs.length+1)) * 1=_;omega
    have hCs:C.size=grownCap w1 (cs.length+1) cap 3:=by
     rw[hC,Array.size_append,Array.size_append,hz1,hz2];simp;omega
    have hb0:(w1.alloc (.cells C 3)).drew.heap[w1.heap.size]?=some (.cells C 3 (0,0)):=heap_alloc_new w1 _;have hb1:=zcj [Value.int .i64 y] i _ _ hb0;have hb2:=zcj (cs.drop i) (i+1) (((w1.alloc (.cells C 3)).drew.setCells w1.heap.size i [Value.int .i64 y]).drew) _ hb1;have hin:=zwe (y:=Value.int .i64 y) hi hCl (by simp[hz1]) rfl rfl;have hwb:W0.heap.size≤w1.heap.size:=om;refine hnew _ _ _ _ ?_ om ?_ hge hcm2 ?_ hin.1
    ·exact Grow.setCells hwb _ _ (Grow.drew (Grow.setCells hwb _ _ (Grow.drew (Grow.alloc hG0 _))))
    ·rw[hC] at hb2 ⊢;exact hb2
    ·rw[hin.2,hCs]
   ·obtain rfl:i=cs.length:=om;refine(Any2.slices_Insert_int_end_grow Go.Proofs.Tryz.laysNm221 (some ⟨g,0,none⟩) cs.length cap S 0 1 1 cs [Value.int .i64 y] w1 om hnc om om rfl rfl (fun h=>by cases h) (fun a ha j u hu=>by injection ha with ha;subst ha;rw[Addr.add_lit];exact hcell j u hu) hvs h1v).mono ?_;rintro e w' ⟨rfl,rfl⟩;change ∃ v' x',Ending.returned (.slice (some ⟨w1.heap.size,0,none⟩) (cs.length+1) (grownCap w1 (cs.length+1) cap 3)) = .returned v'∧_;refine hnew _ _ _ _ (Grow.alloc (Grow.drew hG0) _) om (heap_alloc_new w1.drew _) hge hcm2 ?_ ?_
    ·simp only[Array.size_append,List.size_toArray,List.length_append,List.length_singleton,size_zeroCells];show cs.length+1+(grownCap w1 (cs.length+1) cap 3 - (cs.length+1)) * 1=_;omega
    ·rw[List.take_length,List.drop_length,Array.toList_append,List.take_append_of_le_length (by simp)];show (cs++[Value.int .i64 y]).take (cs.length+1)=_;rw[List.take_of_length_le (by simp)]
instance : Rp Pl where
 sz:=3
 R _ _ t cs:=cs=t.c∧t.wf
 len h:=by obtain⟨rfl,_⟩:=h;rfl
 keep _ h:=h
 wide _ h:=h
theorem sz_pl : Rp.sz Pl=3:=rfl
attribute [go_sem] sz_pl
structure AtPl (F : Nat→Prop)(w : World)(ts : List Pl)(i : Nat)(b off : Nat)(x : Pl): Prop where
 g:Hid (ts[i]?=some x)
 lt:LtW b w
 wf:x.wf
 r0:row? w b (off+i * 3) 3=some [.int .i64 x.loc,.bool x.deref,.int .u8 x.field]
theorem Sl.pl {F : Nat→Prop}{w : World}{a : Option Addr}{n cap : Nat}{ts : List Pl}(h : Sl F w (.slice a n cap) ts)(i : Nat)(hi : i<n): ∃ b off x,a=some ⟨b,off,none⟩∧AtPl F w ts i b off x:=by
 obtain⟨b,off,x,cs,ha,hx,hlt,⟨rfl,hw⟩,hc⟩:=h.get i hi;exact⟨b,off,x,ha,⟨hx,hlt,hw,zo hc 0 3 (by simp)⟩⟩
theorem zwf : SlT Tryz.prog 310 43 3 16:=SlT.mk' (z:=.agg #[.int .i64 0,.bool false,.int .u8 0]) Tryz.underlying310 (by kernel_rfl) rfl om
def plsO1 (o : Opd): List Pl:=if o.kind=1 then [] else [o.pl]
def plsO (l : List Opd): List Pl:=l.flatMap plsO1
theorem zwg {l : List Opd}{k : Nat}{o : Opd}(h : Hid (l[k]?=some o)): plsO (l.take (k+1))=plsO (l.take k)++plsO1 o :=by
 unfold plsO;rw[List.take_add_one,h.out,List.flatMap_append];simp
theorem zqd (l : List Opd): (plsO l).length≤l.length:=by
 unfold plsO;induction l with
 |nil=>simp
 |cons o l ih =>
   rw[List.flatMap_cons,List.length_append];have:(plsO1 o).length≤1:=by unfold plsO1;split<;>simp
   simp only[List.length_cons];omega
theorem zyr (l : List Opd): (plsO l).map (fun p=>p.loc)=rdO l:=by
 unfold plsO rdO;induction l with
 |nil=>rfl
 |cons o l ih=>rw[List.flatMap_cons,List.flatMap_cons,List.map_append,ih];congr 1;unfold plsO1 rdO1;split<;>rfl
theorem uses1 (k : Int)(w : World): Calls Tryz.prog 266 #[.int .u8 k] w (Ret w (.bool true)):=by
 go_enter Tryz.func266,Tryz.ntmps266
 go_wp2_with fail;go_ret
 exact Ret.mk rfl gw
theorem zjf (l : List Opd)(v : Value)(w : World){F : Nat→Prop}(hl : Sl F w v l)(hlen : l.length≤100):
  Calls Tryz.prog 265 #[v,.func (.func 266) #[] #[]] w (RetP w fun v w'=>Own (fun _=>False) w.heap.size 43 w' v (plsO l)):=by
 obtain⟨a,n,cap,rfl,Hn,hm,hcap,hcm,hl⟩:=hl.open;have hn:n≤100:=by rw[Hn.out];exact hlen
 clear hlen;go_enter Tryz.func265,Tryz.ntmps265
 go_wp2_with fail;go_loopw [5,10] (fun tv i wr=>∃ k:Nat,k≤n∧i = .int .i64 k∧Grow w wr∧Own (fun _=>False) w.heap.size 43 wr tv (plsO (l.take k))) (fun _ i _=>n - (intOf i).toNat)
 case atStart=>exact⟨0,Nat.zero_le _,rfl,gw,Own.nil _ _ _ _⟩
 case round =>
  obtain⟨k,hk,rfl,hb1,hown⟩:=hrel;obtain⟨x,rfl⟩:=za hb1;by_cases hlt:k<n
  ·obtain⟨b_o,off_o,o,rfl,⟨Hg_o,hl_o,hw_o,c_o0,c_o1,c_o2,c_o3,c_o4,r_o0,r_o1⟩⟩:=hl.opd k hlt;have Hsn:=Lib.hid (zwg Hg_o);by_cases h1:o.kind=1
   ·have h1' : (o.kind != 1)=false:=by simp[h1]
    have He:=Lib.hid h1;clear h1;go_wp2_with fail;go_roundw
    case rel=>exact⟨k+1,by omega,by go_num,gw,by rw[Hsn.out];unfold plsO1;rw[if_pos He.out,List.append_nil];exact hown.mono gw⟩
    case measure=>exact me
   ·have h1' : (o.kind != 1)=true:=by simp[h1]
    have He:=Lib.hid h1;clear h1;have hl3:=zqd (l.take k);have hl4:(l.take k).length≤n:=by rw[List.length_take,Hn.out];omega
    go_wp2_with (first|(go_at_call 266;((with_reducible refine armV (uses1 o.kind _) ?_);intro x2))|(at_builtin;go_must (refine zh (α:=Pl) zwf rfl rfl rfl (hown.mono gw) gw (by first|exact Nat.le_refl _|(simp;done)|(simp;omega)) (by first|(simp;done)|(simp;omega)) rfl (y:=o.pl) (Gy:=fun _=>False) (⟨rfl,hw_o.pl⟩) (fun _ h=>h.elim) cel (by simp[Value.oneCell']) om om ?_);intro tv1 x1 ho1 hsz1 hagr1));go_roundw
    case rel=>exact⟨k+1,by omega,by go_num,gw,by rw[Hsn.out];unfold plsO1;rw[if_neg He.out];exact ho1⟩
    case measure=>exact me
  ·have e:l.take k=l:=List.take_of_length_le (by have:=Hn.out;omega);rw[e] at hown;go_wp2_with fail;refine zd (by simp only[results,Tryz.results265];go_simp<;>rfl) rfl gw ?_;exact hown.mono gw
theorem zjg (l : List Pl)(v : Value)(w : World){F : Nat→Prop}(hl : Sl F w v l)(hlen : l.length≤100):
  Calls Tryz.prog 267 #[v] w (RetP w fun v w'=>∃ ls,Own (fun _=>False) w.heap.size 3 w' v ls∧(∀ x,x∈ls↔x∈l.map (fun p=>p.loc))∧ls.Pairwise (·≤·)∧ls.length≤100):=by
 obtain⟨a,n,cap,rfl,Hn,hm,hcap,hcm,hl⟩:=hl.open;have hn:n≤100:=by rw[Hn.out];exact hlen
 clear hlen;go_enter Tryz.func267,Tryz.ntmps267
 go_wp2_with fail;go_loopw [3,8] (fun tv i wr=>∃ k:Nat,k≤n∧i = .int .i64 k∧Grow w wr∧Own (fun _=>False) w.heap.size 3 wr tv ((l.take k).map (fun p=>p.loc))) (fun _ i _=>n - (intOf i).toNat)
 case atStart=>exact⟨0,Nat.zero_le _,rfl,gw,Own.nil _ _ _ _⟩
 case round =>
  obtain⟨k,hk,rfl,hb1,hown⟩:=hrel;obtain⟨x,rfl⟩:=za hb1;have hl4:((l.take k).map (fun p=>p.loc)).length≤n:=by rw[List.length_map,List.length_take,Hn.out];omega
  by_cases hlt:k<n
  ·obtain⟨b_o,off_o,o,rfl,⟨Hg_o,hl_o,hw_o,r_o0⟩⟩:=hl.pl k hlt;have Hsn:Hid ((l.take (k+1)).map (fun p=>p.loc)=(l.take k).map (fun p=>p.loc)++[o.loc]):=Lib.hid (by rw[List.take_add_one,Hg_o.out,List.map_append];rfl);have h64:I64 o.loc:=hw_o.loc;go_wp2_with (first|(at_builtin;go_must (refine zh (α:=Int) zau rfl rfl rfl (hown.mono gw) gw (by first|exact Nat.le_refl _|(simp;done)|(simp;omega)) (by first|(simp;done)|(simp;omega)) rfl (y:=o.loc) (Gy:=fun _=>False) (⟨rfl,h64⟩) (fun _ h=>h.elim) cel (by simp[Value.oneCell']) om om ?_);intro tv1 x1 ho1 hsz1 hagr1));go_roundw
   case rel=>exact⟨k+1,by omega,by go_num,gw,by rw[Hsn.out];exact ho1⟩
   case measure=>exact me
  ·have e:l.take k=l:=List.take_of_length_le (by have:=Hn.out;omega);rw[e] at hown hl4;clear e;have hl5:=zhz (l.map (fun p=>p.loc));have hl6:=Lib.compact_length_le (srt (l.map (fun p=>p.loc)));go_wp2_with (first|(go_at_call 214;(refine(zqc (hown.mono gw) (Nat.le_refl _) om).mono ?_);rintro e w2 ⟨rfl,x2,rfl,ho2⟩)|(go_at_call 279;(refine(zl4 (ho2.mono gw) (Nat.le_refl _) om).mono ?_);rintro e w3 ⟨v3,x3,rfl,rfl,ho3⟩));refine zd (by simp only[results,Tryz.results267];go_simp<;>rfl) rfl gw ?_;exact⟨_,ho3.mono gw,fun x=>(zkk _ x).trans (zf4 _ x),(zum _).sublist (zkj _),by omega⟩
theorem Own.lower {α : Type}[Rp α]{F : Nat→Prop}{base base' : Nat}{e : TypeId}{w : World}{v : Value}{xs : List α}(h : Own F base e w v xs)(hb : base'≤base): Own F base' e w v xs:=by
 obtain⟨G,css,hG,hl,hR,hn,hown⟩:=h;refine⟨G,css,fun k hk=>?_,hl,hR,hn,hown.1,?_⟩
 ·have q:=hG k hk;exact⟨q.1,by rcases q.2.1 with h|h;exact Or.inl h;exact Or.inr om,q.2.2⟩
 ·rcases hown.2 with h0|⟨g,cap,cur,hv,hbg,hr⟩
  ·exact .inl h0
  ·exact .inr ⟨g,cap,cur,hv,by omega,hr⟩
theorem zl5 (r : Rv)(w : World)(hr : r.wf)(h0 : rvErr r=0):
  Calls Tryz.prog 242 #[r.v] w (RetP w fun v w'=>∃ u ls,v = .tuple #[u,.int .i64 0]∧Own (fun _=>False) w.heap.size 3 w' u ls∧(∀ x,x∈ls↔x∈rdO (ze r)++rd45 r)∧ls.Pairwise (·≤·)∧ls.length≤100):=by
 have H0:Hid (rvErr r=0):=Lib.hid h0;have h0' : (rvErr r != 0)=false:=by simp[h0]
 clear h0;have hp2:=zc2 r;have hpl:=hr.pl;have hl1:=zqd (ze r);have Hpa:=Lib.hid (fun w'=>zhe r w' hr);have Hck:=Lib.hid (fun w'=>zhf r w' hr);have Hloc:=Lib.hid (zyr (ze r));by_cases h45:r.kind=4∨r.kind=5
 ·have Hrd:Hid (rd45 r = [r.pl.loc]):=Lib.hid (by unfold rd45;rw[if_pos h45]);have hr4:((r.kind==4)=true)∨((r.kind==4)=false∧(r.kind==5)=true):=by rcases h45 with h|h<;>simp[h]
  rw[Hrd.out];clear h45;rcases hr4 with h4|⟨h4,h5⟩;all_goals
   go_enter Tryz.func242,Tryz.ntmps242
   go_wp2_with (first|(go_at_call 105;((with_reducible refine armV (Hck.out _) ?_);intro x1))|(go_at_call 152;((with_reducible refine armS (Hpa.out _) ?_);intro a2 n2 cap2 x2 Hn2 hm2 hcap2 hcm2 hs2))|(go_at_call 265;((with_reducible refine(zjf (ze r) _ _ (hs2.mono gw) om).mono ?_);rintro e w3 ⟨v3,rfl,ho3,hb3⟩;obtain⟨x3,rfl⟩:=za hb3;clear hb3))|(at_builtin;go_must (refine zh (α:=Pl) zwf rfl rfl rfl (ho3.mono gw) gw (by first|exact Nat.le_refl _|(simp;done)|(simp;omega)) (by first|(simp;done)|(simp;omega)) rfl (y:=r.pl) (Gy:=fun _=>False) (⟨rfl,hpl⟩) (fun _ h=>h.elim) cel (by simp[Value.oneCell']) om om ?_);intro tv4 x4 ho4 hsz4 hagr4)|(go_at_call 267;((with_reducible refine(zjg (plsO (ze r)++[r.pl]) _ _ (ho4.sl.mono gw) (by simp;omega)).mono ?_);rintro e w5 ⟨v5,rfl,⟨ls,ho5,hm5,hs5,hl5⟩,hb5⟩;obtain⟨x5,rfl⟩:=za hb5;clear hb5)));refine zd (by simp only[results,Tryz.results242];go_simp<;>rfl) rfl gw ⟨_,ls,rfl,?_,?_,hs5,hl5⟩
   ·refine ho5.lower ?_;first|omega|(simp;done)|(simp;omega)
   ·intro x;rw[hm5,List.map_append,Hloc.out];rfl
 ·have Hrd:Hid (rd45 r = []):=Lib.hid (by unfold rd45;rw[if_neg h45]);have h4:(r.kind==4)=false:=by simp;omega
  have h5:(r.kind==5)=false:=by simp;omega
  rw[Hrd.out,List.append_nil];clear h45;go_enter Tryz.func242,Tryz.ntmps242
  go_wp2_with (first|(go_at_call 105;((with_reducible refine armV (Hck.out _) ?_);intro x1))|(go_at_call 152;((with_reducible refine armS (Hpa.out _) ?_);intro a2 n2 cap2 x2 Hn2 hm2 hcap2 hcm2 hs2))|(go_at_call 265;((with_reducible refine(zjf (ze r) _ _ (hs2.mono gw) om).mono ?_);rintro e w3 ⟨v3,rfl,ho3,hb3⟩;obtain⟨x3,rfl⟩:=za hb3;clear hb3))|(go_at_call 267;((with_reducible refine(zjg (plsO (ze r)) _ _ (ho3.sl.mono gw) om).mono ?_);rintro e w5 ⟨v5,rfl,⟨ls,ho5,hm5,hs5,hl5⟩,hb5⟩;obtain⟨x5,rfl⟩:=za hb5;clear hb5)));refine zd (by simp only[results,Tryz.results242];go_simp<;>rfl) rfl gw ⟨_,ls,rfl,?_,?_,hs5,hl5⟩
  ·refine ho5.lower ?_;first|omega|(simp;done)|(simp;omega)
  ·intro x;rw[hm5,Hloc.out]
def readR (s : St): Rv:=if s.kind=1 then s.r else ⟨1,0,0,s.a,⟨0,0,⟨0,false,0⟩⟩,⟨0,false,0⟩⟩
theorem zog (s : St)(w : World)(hs : s.wf): Calls Tryz.prog 241 #[s.v] w (Ret w (.tuple #[(readR s).v,.bool (s.kind != 3)])):=by
 by_cases h1:s.kind=1
 ·have e:readR s=s.r:=by unfold readR;rw[if_pos h1]
  have e3:(s.kind != 3)=true:=by simp[h1]
  have e1:(s.kind==1)=true:=by simp[h1]
  rw[e,e3];clear e e3 h1;go_enter Tryz.func241,Tryz.ntmps241
  go_wp2_with fail
  ((try simp only[Exit.inBlock,Exit.then]);refine zf (by simp only[results,Tryz.results241];go_simp;rfl) rfl gw ?_)
  rfl
 ·have e:readR s=⟨1,0,0,s.a,⟨0,0,⟨0,false,0⟩⟩,⟨0,false,0⟩⟩:=by unfold readR;rw[if_neg h1]
  have e1:(s.kind==1)=false:=by simp[h1]
  rw[e];clear e h1;cases h3:(s.kind != 3);all_goals
   go_enter Tryz.func241,Tryz.ntmps241
   go_wp2_with fail;go_region
   go_wp2_with fail
   ((try simp only[Exit.inBlock,Exit.then]);refine zf (by simp only[results,Tryz.results241];go_simp;rfl) rfl gw ?_)
   rfl
theorem z0u {s : St}(h0 : stErr s=0)(h3 : s.kind≠3): rvErr (readR s)=0:=by
 have hok:=(zax _).1 h0;unfold readR;by_cases h1:s.kind=1
 ·rw[if_pos h1];unfold stOk at hok;rw[if_pos h1] at hok;simp only[Bool.and_eq_true] at hok;exact(zec _).2 hok.1.1.2
 ·rw[if_neg h1];unfold stOk at hok;rw[if_neg h1] at hok;have h24:s.kind=2∨s.kind=4:=by
   by_cases h:s.kind=2∨s.kind=4
   ·exact h
   ·rw[if_neg h,if_neg h3] at hok;cases hok
  rw[if_pos h24] at hok;simp only[Bool.and_eq_true,decide_eq_true_eq] at hok;refine(zec _).2 ?_;unfold rvOk;rw[if_pos rfl];have ha:decide (zn s.a=0)=true:=by simpa using hok.1.2
  show (decide (zn s.a=0)&&opdZ ⟨0,0,⟨0,false,0⟩⟩&&plZ ⟨0,false,0⟩&&decide ((0:Int)=0)&&decide ((0:Int)=0))=true;rw[ha];decide
theorem z0v {s : St}(hs : s.wf): (readR s).wf:=by
 have hr:=hs.r;have ha:=hs.a;unfold readR;split
 ·exact hr
 ·have z1:U8 0:=⟨by decide,by decide⟩
  have z2:I64 0:=⟨by decide,by decide⟩
  have z3:U8 1:=⟨by decide,by decide⟩
  exact⟨z3,z1,z1,ha,⟨z1,z2,⟨z2,z1⟩⟩,⟨z2,z1⟩⟩
theorem zwh {s : St}(h0 : stErr s=0)(h3 : s.kind≠3)(x : Int): x∈usedL (.st s)↔(x∈rdO (ze (readR s))++rd45 (readR s))∨(whole s.pl=false∧x=s.pl.loc):=by
 have hok:=(zax _).1 h0;show x∈rdO (if s.kind=1 then ze s.r else if s.kind=3 then [] else [s.a])++(if s.kind=1 then (if s.r.kind=4∨s.r.kind=5 then [s.r.pl.loc] else [])++(if whole s.pl=true then [] else [s.pl.loc]) else [])↔_;unfold readR;by_cases h1:s.kind=1
 ·rw[if_pos h1,if_pos h1,if_pos h1,←List.append_assoc,List.mem_append (t:=if whole s.pl=true then [] else [s.pl.loc])];refine or_congr Iff.rfl ?_;cases whole s.pl<;>simp
 ·rw[if_neg h1,if_neg h1,if_neg h1,if_neg h3,List.append_nil];have hw:whole s.pl=true:=by
   unfold stOk at hok;rw[if_neg h1] at hok;by_cases h:s.kind=2∨s.kind=4
   ·rw[if_pos h] at hok;simp only[Bool.and_eq_true] at hok;have hz:plZ s.pl=true:=hok.1.1.1;unfold plZ at hz;have:=of_decide_eq_true hz
    unfold whole;rw[this.2.1,this.2.2];rfl
   ·rw[if_neg h,if_neg h3] at hok;cases hok
  have e1:ze ⟨1,0,0,s.a,⟨0,0,⟨0,false,0⟩⟩,⟨0,false,0⟩⟩ = [s.a]:=by unfold ze;rw[if_pos rfl]
  have e2:rd45 ⟨1,0,0,s.a,⟨0,0,⟨0,false,0⟩⟩,⟨0,false,0⟩⟩ = []:=by unfold rd45;rw[if_neg (by simp)]
  rw[e1,e2,List.append_nil,hw];simp
theorem zwi (s : St)(w : World)(hs : s.wf)(h0 : stErr s=0):
  Calls Tryz.prog 226 #[s.v] w (RetP w fun v w'=>∃ (u:Value) (l:List Int),v = .tuple #[u,.int .i64 0]∧Sl (Fresh w) w' u l∧(∀ x,x∈l↔x∈usedL (.st s))∧l.length≤101):=by
 have H0:Hid (stErr s=0):=Lib.hid h0;have h0' : (stErr s != 0)=false:=by simp[h0]
 have hpl:=hs.pl;by_cases h3:s.kind=3
 ·have Hu:Hid (usedL (.st s) = []):=Lib.hid (by
   show rdO (if s.kind=1 then ze s.r else if s.kind=3 then [] else [s.a])++(if s.kind=1 then (if s.r.kind=4∨s.r.kind=5 then [s.r.pl.loc] else [])++(if whole s.pl=true then [] else [s.pl.loc]) else [])=_;rw[if_neg om,if_pos h3,if_neg om];rfl)
  have Hrd:Hid (∀ w',Calls Tryz.prog 241 #[s.v] w' (Ret w' (.tuple #[(readR s).v,.bool false]))):=Lib.hid fun w'=>by
   have:=zog s w' hs
   rw[show (s.kind != 3)=false from by simp[h3]] at this;exact this
  clear h0 h3;obtain⟨rr,Hrr⟩:∃ rr,Hid (readR s=rr):=⟨_,Lib.hid rfl⟩
  rw[Hrr.out] at Hrd;go_enter Tryz.func226,Tryz.ntmps226
  go_wp2_with (first|(go_at_call 66;((with_reducible refine armV (zb0 s _ hs) ?_);intro x1))|(go_at_call 241;((with_reducible refine armV (Hrd.out _) ?_);intro x2)));refine zd (by simp only[results,Tryz.results226];go_simp<;>rfl) rfl gw ⟨_,[],rfl,Sl.nil _ _,?_,by simp⟩;intro x;rw[Hu.out]
 ·have Hrv:=Lib.hid (z0u h0 h3);have Hwf:=Lib.hid (z0v hs);have Hme:=Lib.hid (zwh h0 h3);have Hrd:Hid (∀ w',Calls Tryz.prog 241 #[s.v] w' (Ret w' (.tuple #[(readR s).v,.bool true]))):=Lib.hid fun w'=>by
   have:=zog s w' hs
   rw[show (s.kind != 3)=true from by simp[h3]] at this;exact this
  clear h0 h3;generalize (readR s)=rr at Hrv Hwf Hme Hrd;have h64:I64 s.pl.loc:=hpl.loc;obtain⟨wh,Hwh⟩:∃ wh,Hid (whole s.pl=wh):=⟨_,Lib.hid rfl⟩
  have Hpt:Hid (∀ w',Calls Tryz.prog 244 #[s.pl.v] w' (Ret w' (.bool (!wh)))):=Lib.hid fun w'=>by
   have:=zod s.pl w' hpl;rw[Hwh.out] at this;exact this
  rw[Hwh.out] at Hme;cases wh
  ·simp only[Bool.not_false] at Hpt;go_enter Tryz.func226,Tryz.ntmps226
   go_upto_region 8 with (first|(go_at_call 66;((with_reducible refine armV (zb0 s _ hs) ?_);intro x1))|(go_at_call 241;((with_reducible refine armV (Hrd.out _) ?_);intro x2))|(go_at_call 242;((with_reducible refine(zl5 rr _ Hwf.out Hrv.out).mono ?_);rintro e w5 ⟨v5,rfl,⟨u5,ls,rfl,ho5,hm5,hs5,hl5⟩,hb5⟩;obtain⟨x5,rfl⟩:=za hb5;clear hb5)))
   obtain⟨c,Hc⟩:∃ c,Hid (ls.contains s.pl.loc=c):=⟨_,Lib.hid rfl⟩
   obtain⟨i,Hi⟩:∃ i,Hid (ls.countP (·<s.pl.loc)=i):=⟨_,Lib.hid rfl⟩
   have hil:i≤ls.length:=by rw[←Hi.out];exact List.countP_le_length
   cases c
   ·go_upto_region 10 with (first|(go_at_call 243;((refine(ze6 ho5 om hs5 s.pl.loc).mono ?_);rintro e w6 ⟨rfl,hb6⟩;rw[Hc.out,Hi.out];obtain⟨x6,rfl⟩:=za hb6;clear hb6))|(go_at_call 244;((with_reducible refine armV (Hpt.out _) ?_);intro x7)))
    obtain⟨z,hz⟩:=za (show Grow (ext ((ext (ext (w.alloc (bxSt s)) x1) x2).alloc (bxRv rr)) x5) (ext (ext (ext ((ext (ext (w.alloc (bxSt s)) x1) x2).alloc (bxRv rr)) x5) x6) x7) from gw);obtain⟨z2,hz2⟩:=zth ((ext (ext (w.alloc (bxSt s)) x1) x2).alloc (bxRv rr)) x5 z;rw[hz,hz2];have ho6:=ho5.mono (zw _ z);rw[hz2] at ho6;clear hz hz2 ho5;go_wp2_with (first|(go_at_call 245;((refine(znc ho6 (Nat.le_refl _) (by simp) om hil h64 (by simp)).mono ?_);rintro e w8 ⟨v8,x8,rfl,rfl,ho8⟩)));refine zd (by simp only[results,Tryz.results226];go_simp<;>rfl) rfl gw ⟨_,ls.take i++s.pl.loc::ls.drop i,rfl,?_,?_,?_⟩
    ·exact ho8.sl.wide (fun b hb hF=>by rcases hF with hF|hF;exact hF.elim;exact Or.inr (by first|omega|(simp at hF;omega)))
    ·intro x;rw[Hme.out,←hm5];have e:=List.take_append_drop i ls;constructor
     ·intro hx;rcases List.mem_append.1 hx with hx|hx
      ·exact Or.inl (List.mem_of_mem_take hx)
      ·rcases List.mem_cons.1 hx with rfl|hx
       ·exact Or.inr ⟨by first|rfl|trivial,rfl⟩
       ·exact Or.inl (List.mem_of_mem_drop hx)
     ·rintro(hx|⟨_,rfl⟩)
      ·rw[←e] at hx;rcases List.mem_append.1 hx with hx|hx
       ·exact List.mem_append.2 (Or.inl hx)
       ·exact List.mem_append.2 (Or.inr (List.mem_cons_of_mem _ hx))
      ·simp
    ·rw[ztl ls s.pl.loc hil];omega
   ·have hin:s.pl.loc∈ls:=by have:=Hc.out;simpa using this
    have Hin:=Lib.hid hin;clear hin;go_wp2_with (first|(go_at_call 243;((refine(ze6 ho5 om hs5 s.pl.loc).mono ?_);rintro e w6 ⟨rfl,hb6⟩;rw[Hc.out,Hi.out];obtain⟨x6,rfl⟩:=za hb6;clear hb6))|(go_at_call 244;((with_reducible refine armV (Hpt.out _) ?_);intro x7)));refine zd (by simp only[results,Tryz.results226];go_simp<;>rfl) rfl gw ⟨_,ls,rfl,?_,?_,?_⟩
    ·exact(ho5.sl.wide (fun b hb hF=>by rcases hF with hF|hF;exact hF.elim;exact Or.inr (by first|omega|(simp at hF;omega)))).mono gw
    ·intro x;rw[Hme.out,←hm5];constructor
     ·exact Or.inl
     ·rintro(hx|⟨_,rfl⟩)
      ·exact hx
      ·exact Hin.out
    ·omega
  ·simp only[Bool.not_true] at Hpt;go_enter Tryz.func226,Tryz.ntmps226
   go_wp2_with (first|(go_at_call 66;((with_reducible refine armV (zb0 s _ hs) ?_);intro x1))|(go_at_call 241;((with_reducible refine armV (Hrd.out _) ?_);intro x2))|(go_at_call 242;((with_reducible refine(zl5 rr _ Hwf.out Hrv.out).mono ?_);rintro e w5 ⟨v5,rfl,⟨u5,ls,rfl,ho5,hm5,hs5,hl5⟩,hb5⟩;obtain⟨x5,rfl⟩:=za hb5;clear hb5))|(go_at_call 243;((refine(ze6 ho5 om hs5 s.pl.loc).mono ?_);rintro e w6 ⟨rfl,hb6⟩;obtain⟨x6,rfl⟩:=za hb6;clear hb6))|(go_at_call 244;((with_reducible refine armV (Hpt.out _) ?_);intro x7)));refine zd (by simp only[results,Tryz.results226];go_simp<;>rfl) rfl gw ⟨_,ls,rfl,?_,?_,?_⟩
   ·exact(ho5.sl.wide (fun b hb hF=>by rcases hF with hF|hF;exact hF.elim;exact Or.inr (by first|omega|(simp at hF;omega)))).mono gw
   ·intro x;rw[Hme.out,←hm5];simp
   ·omega
end Go.Proofs.YtacmoaeglbggjaaGreat
