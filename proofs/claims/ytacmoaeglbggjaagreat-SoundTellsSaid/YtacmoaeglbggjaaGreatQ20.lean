/- A part of the proof. -/
import Derived.Test.YtacmoaeglbggjaaGreatQ19
namespace Go.Proofs.YtacmoaeglbggjaaGreat
open Go.RowKit
set_option linter.unusedSimpArgs false
set_option linter.unusedVariables false
set_option maxRecDepth 100000
set_option maxHeartbeats 16000000
theorem zma : SlT Tryz.prog 64 113 7 40:=SlT.mk' (z:=.agg #[.int .i64 0,.int .i64 0,.int .i64 0,.bool false,.int .u8 0,.bool false,.bool false]) Tryz.underlying64 (by kernel_rfl) rfl om
def zql (f : Fn)(L : List Lo)(In Us : Nat→Nat→Bool)(q : Nat): List Cl:=oneL L (fun k=>In k q) (fun k=>Us k q) q (tchC f (coF f q))++twoL f L (fun k=>In k q) (fun k=>Us k q) q L.length
theorem zr1 (f : Fn)(v1 v2 lv iv uv : Value)(w : World){F F' Fl Fi Fu : Nat→Prop}(h1 : Sl F w v1 f.locals)(h2 : Sl F' w v2 f.blocks)(hok : fnErr f=0){q b i : Nat}{x : Bk}(hp : PtAt f q b i x)
  {L:List Lo} {m N:Nat} {In Us:Nat→Nat→Bool} (hl:Sl Fl w lv L) (hin:Sl Fi w iv (rL m N In)) (hus:Sl Fu w uv (rL m N Us)) (hm:m=L.length) (hm6:m≤600) (hqN:q<N) (hN:N≤600) (hL:∀ x∈L,x.bo=3→0≤x.loc∧x.loc<16) :
  Calls Tryz.prog 62 #[f.v v1 v2,.int .i64 (q:Nat),lv,iv,uv] w (RetP w fun v w'=>Sl (Fresh w) w' v (zql f L In Us q)):=by
 obtain⟨a,n,cap,rfl,Hn,hm',hcap,hcm,h1⟩:=h1.open;obtain⟨a2,n2,cap2,rfl,Hn2,hm2,hcap2,hcm2,h2⟩:=h2.open;obtain⟨al,nl,capl,rfl,Hnl,hml,hcapl,hcml,hl⟩:=hl.open;obtain⟨ai,ni,capi,rfl,Hni,hmi,hcapi,hcmi,hin⟩:=hin.open;obtain⟨au,nu,capu,rfl,Hnu,hmu,hcapu,hcmu,hus⟩:=hus.open;obtain rfl:ni=m:=by rw[Hni.out,zaz]
 obtain rfl:nu=ni:=by rw[Hnu.out,zaz]
 obtain rfl:nl=nu:=by rw[Hnl.out,hm]
 have Hok:=Lib.hid hok;have HL:=Lib.hid hL;have Hm:=Lib.hid hm;have hN1:1≤N:=om;clear hok hL hm;have Hto:=Lib.hid fun (w':World) (k1:Sl F w' (.slice a n cap) f.locals) (k2:Sl F' w' (.slice a2 n2 cap2) f.blocks)=>zuo f _ _ w' k1 k2 Hok.out hp;have Hus:=Lib.hid fun (w':World) (k1:Sl F w' (.slice a n cap) f.locals) (k2:Sl F' w' (.slice a2 n2 cap2) f.blocks)=>zim f _ _ w' k1 k2 Hok.out hp;have hq64:I64 (q:Int):=⟨by omega,by omega⟩
 have HR:Hid (zql f L In Us q=oneL L (fun k=>In k q) (fun k=>Us k q) q (tchC f (coF f q))++twoL f L (fun k=>In k q) (fun k=>Us k q) q nl):=Lib.hid (by unfold zql;rw[←Hnl.out]);rw[HR.out];clear HR;generalize (tchC f (coF f q))=ts at Hto ⊢;go_enter Tryz.func62,Tryz.ntmps62
 go_wp2_with (first|(go_at_call 100;((with_reducible refine(Hto.out _ h1.m h2.m).mono ?_);rintro e w3 ⟨v3,rfl,⟨hs3,hl3⟩,hb3⟩;obtain⟨x3,rfl⟩:=za hb3;clear hb3;obtain⟨a3,n3,cap3,rfl,Hn3,hm3,hcap3,hcm3,hs3⟩:=hs3.open)));have hn3:n3≤20:=by rw[Hn3.out];exact hl3
 have Hone:Hid (∀ j,j≤n3→(oneL L (fun k=>In k q) (fun k=>Us k q) q (ts.take j)).length≤12000):=Lib.hid fun j hj=>by
  have h:=zk9 L (fun k=>In k q) (fun k=>Us k q) q (ts.take j);have h2:(ts.take j).length * L.length≤20 * 600:=Nat.mul_le_mul (by rw[List.length_take];omega) (by rw[←Hnl.out];exact hm6);omega
 have Haga:Hid (∀ t but j,j≤nl→(agaL L (fun k=>In k q) (fun k=>Us k q) q t but j).length≤600):=Lib.hid fun t but j hj=>Nat.le_trans (zgj _ _ _ _ _ _ _) om;have Htwo:Hid (∀ j,j≤nl→(twoL f L (fun k=>In k q) (fun k=>Us k q) q j).length≤360000):=Lib.hid fun j hj=>by
  have h:=zik f L (fun k=>In k q) (fun k=>Us k q) q j;have h2:j * L.length≤600 * 600:=Nat.mul_le_mul om (by rw[←Hnl.out];exact hm6);omega
 go_loopw [11,13] (fun tv ti wr=>∃ j:Nat,j≤n3∧ti = .int .i64 j∧Grow (ext (w.alloc (bxFn f (.slice a n cap) (.slice a2 n2 cap2))) x3) wr∧Own (fun _=>False) (w.heap.size+1+x3.k) 113 wr tv (oneL L (fun k=>In k q) (fun k=>Us k q) q (ts.take j))) (fun _ ti _=>n3 - (intOf ti).toNat)
 case atStart=>exact⟨0,Nat.zero_le _,rfl,gw,Own.nil _ _ _ _⟩
 case round =>
  obtain⟨j,hj,rfl,hgr,hown⟩:=hrel;obtain⟨z,rfl⟩:=za hgr;have hlo:=Hone.out j hj;by_cases hltj:j<n3
  ·obtain⟨b_t,off_t,t,rfl,⟨Hg_t,hl_t,hw_t,c_t0,c_t1,c_t2,c_t3,c_t4,r_t0,r_t1⟩⟩:=hs3.th j hltj;have Hsn:Hid (oneL L (fun k=>In k q) (fun k=>Us k q) q (ts.take (j+1))=oneL L (fun k=>In k q) (fun k=>Us k q) q (ts.take j)++agaL L (fun k=>In k q) (fun k=>Us k q) q t (-1) nl):=Lib.hid (by rw[zn5 _ _ _ _ Hg_t.out,←Hnl.out]);go_wp2_with fail;go_loopw [11,14] (fun tv ti wr=>∃ k:Nat,k≤nl∧ti = .int .i64 k∧Grow (ext (w.alloc (bxFn f (.slice a n cap) (.slice a2 n2 cap2))) x3) wr∧Own (fun _=>False) (w.heap.size+1+x3.k) 113 wr tv (oneL L (fun k=>In k q) (fun k=>Us k q) q (ts.take j)++agaL L (fun k=>In k q) (fun k=>Us k q) q t (-1) k)) (fun _ ti _=>nl - (intOf ti).toNat)
   case atStart=>exact⟨0,Nat.zero_le _,rfl,gw,by rw[show agaL L (fun k=>In k q) (fun k=>Us k q) q t (-1) 0 = [] from rfl,List.append_nil];exact hown.mono gw⟩
   case round =>
    obtain⟨k,hk,rfl,hgr2,hown2⟩:=hrel;obtain⟨z2,rfl⟩:=za hgr2;have hla:=Haga.out t (-1) k hk;by_cases hltk:k<nl
    ·obtain⟨b_x,off_x,x,rfl,⟨Hg_x,hl_x,hw_x,c_x0,c_x1,c_x2,c_x3,c_x4,c_x5,r_x0,r_x1⟩⟩:=hl.lo k hltk;obtain⟨gi,oi,rfl,hgli⟩:=hin.addr om;obtain⟨gu,ou,rfl,hglu⟩:=hus.addr om;obtain⟨rg,ro,rc,hlg,hhc,hlr,hrc,hrcl,hrcm⟩:=zcg hin hN1 hltk;obtain⟨sg,so,sc,hlgs,hhs,hls,hsc,hscl,hscm⟩:=zcg hus hN1 hltk;have hrq:=hrc q hqN;have hsq:=hsc q hqN;clear hrc hsc;have h64:I64 (k:Int):=⟨by omega,by omega⟩
     have Hag:Hid (agaL L (fun k=>In k q) (fun k=>Us k q) q t (-1) (k+1)=agaL L (fun k=>In k q) (fun k=>Us k q) q t (-1) k++(if In k q&&confB t x (Us k q) then [⟨((q:Nat):Int),((k:Nat):Int),t⟩] else [])):=Lib.hid (by
      rw[zi9 _ _ _ _ _ _ Hg_x.out,decide_eq_true (by omega:(k:Int)≠-1),Bool.true_and])
     obtain⟨ik,Hik⟩:∃ ik,Hid (In k q=ik):=⟨_,Lib.hid rfl⟩
     obtain⟨uk,Huk⟩:∃ uk,Hid (Us k q=uk):=⟨_,Lib.hid rfl⟩
     obtain⟨cf,Hcf⟩:∃ cf,Hid (confB t x uk=cf):=⟨_,Lib.hid rfl⟩
     have Hca:=Lib.hid (fun w'=>ziw t x uk w');rw[Hcf.out] at Hca;rw[Hik.out,Huk.out,Hcf.out] at Hag;rw[Hik.out] at hrq;rw[Huk.out] at hsq;go_wp2_with fail;cases ik
     ·simp only[Bool.false_and,Bool.false_eq_true,if_false,List.append_nil] at Hag
      (refine z8 25 (by kernel_rfl) (by rfl) ?_;((iterate 25 ((first|refine JqW 0 ?_|refine JqW 1 ?_|refine JqW 2 ?_|refine JqW 3 ?_|refine JqW 4 ?_|refine JqW 5 ?_|refine JqW 6 ?_|refine JqW 7 ?_|refine JqW 8 ?_|refine JqW 9 ?_|refine JqW 10 ?_|refine JqW 11 ?_|refine JqW 12 ?_|refine JqW 13 ?_|refine JqW 14 ?_|refine JqW 15 ?_|refine JqW 16 ?_|refine JqW 17 ?_|refine JqW 18 ?_|refine JqW 19 ?_|refine JqW 20 ?_|refine JqW 21 ?_|refine JqW 22 ?_|refine JqW 23 ?_|refine JqW 24 ?_);(first|go_big_quiet_step (fail)|(refine wpQuiet_step (fun K hK=>?_);go_simp;split<;>(refine hK _ ?_;clear hK K)));refine wpQuiet_nil ?_));(repeat (any_goals (first|(refine JqW 24 ?_;(first|go_big_quiet_step (fail)|(refine wpQuiet_step (fun K hK=>?_);go_simp;split<;>(refine hK _ ?_;clear hK K)));refine wpQuiet_nil ?_)|((first|(refine J_any [23] (by decide +kernel) ?_))<;>(refine⟨_,rfl,fun K hK=>?_⟩;go_wp2_with (fail);refine hK _ _ (za gw) ?_;clear hK K))))));all_goals (refine J_end (by decide +kernel) ?_))
      go_wp2_with fail;go_roundw
      case rel=>exact⟨k+1,by omega,by go_num,gw,by rw[Hag.out];exact hown2.mono gw⟩
      case measure=>exact me
     ·(refine z8 25 (by kernel_rfl) (by rfl) ?_;((iterate 23 ((first|refine JqW 0 ?_|refine JqW 1 ?_|refine JqW 2 ?_|refine JqW 3 ?_|refine JqW 4 ?_|refine JqW 5 ?_|refine JqW 6 ?_|refine JqW 7 ?_|refine JqW 8 ?_|refine JqW 9 ?_|refine JqW 10 ?_|refine JqW 11 ?_|refine JqW 12 ?_|refine JqW 13 ?_|refine JqW 14 ?_|refine JqW 15 ?_|refine JqW 16 ?_|refine JqW 17 ?_|refine JqW 18 ?_|refine JqW 19 ?_|refine JqW 20 ?_|refine JqW 21 ?_|refine JqW 22 ?_);(first|go_big_quiet_step (fail)|(refine wpQuiet_step (fun K hK=>?_);go_simp;split<;>(refine hK _ ?_;clear hK K)));refine wpQuiet_nil ?_));(repeat (any_goals (first|(refine JqW 24 ?_;(first|go_big_quiet_step (fail)|(refine wpQuiet_step (fun K hK=>?_);go_simp;split<;>(refine hK _ ?_;clear hK K)));refine wpQuiet_nil ?_)|((first|(refine J_any [23] (by decide +kernel) ?_))<;>(refine⟨_,rfl,fun K hK=>?_⟩;go_wp2_with (first|(go_at_call 101;((with_reducible refine armV (Hca.out _) ?_);intro x5)));refine hK _ _ (za gw) ?_;clear hK K))))));all_goals (refine J_end (by decide +kernel) ?_))
      cases cf
      ·simp only[Bool.and_false,Bool.false_eq_true,if_false,List.append_nil] at Hag;go_wp2_with fail;go_roundw
       case rel=>exact⟨k+1,by omega,by go_num,gw,by rw[Hag.out];exact hown2.mono gw⟩
       case measure=>exact me
      ·simp only[Bool.and_true,if_true] at Hag;go_wp2_with (first|(at_builtin;go_must (refine zh (α:=Cl) zma rfl rfl rfl (hown2) gw (by first|exact Nat.le_refl _|(simp;done)|(simp;omega)) (by first|(simp;done)|(simp;omega)) rfl (y:=⟨(q:Int),(k:Int),t⟩) (Gy:=fun _=>False) (⟨rfl,⟨hq64,h64,hw_t⟩⟩) (fun _ h=>h.elim) cel (by simp[Value.oneCell']) om om ?_);intro tv6 x6 ho6 hsz6 hagr6));go_roundw
       case rel=>exact⟨k+1,by omega,by go_num,gw,by rw[Hag.out,←List.append_assoc];exact ho6⟩
       case measure=>exact me
    ·obtain rfl:k=nl:=om;go_wp2_with fail;go_roundw
     case rel=>exact⟨j+1,by omega,by go_num,gw,by rw[Hsn.out];exact hown2⟩
     case measure=>exact me
  ·obtain rfl:j=n3:=om;have Hts:Hid (ts.take j=ts):=Lib.hid (List.take_of_length_le (by rw[Hn3.out];exact Nat.le_refl _));rw[Hts.out] at hown hlo;clear hs3 Hone Hn3 hn3 hl3 Hts;go_wp2_with fail;go_loopw [11,15] (fun tv ti wr=>∃ k:Nat,k≤nl∧ti = .int .i64 k∧Grow (ext (w.alloc (bxFn f (.slice a n cap) (.slice a2 n2 cap2))) x3) wr∧Own (fun _=>False) (w.heap.size+1+x3.k) 113 wr tv (oneL L (fun k=>In k q) (fun k=>Us k q) q ts++twoL f L (fun k=>In k q) (fun k=>Us k q) q k)) (fun _ ti _=>nl - (intOf ti).toNat)
   case atStart=>exact⟨0,Nat.zero_le _,rfl,gw,by rw[show twoL f L (fun k=>In k q) (fun k=>Us k q) q 0 = [] from rfl,List.append_nil];exact hown.mono gw⟩
   case round =>
    obtain⟨k,hk,rfl,hgr2,hown2⟩:=hrel;obtain⟨z2,rfl⟩:=za hgr2;have hlt2:=Htwo.out k hk;by_cases hltk:k<nl
    ·obtain⟨b_x,off_x,x,rfl,⟨Hg_x,hl_x,hw_x,c_x0,c_x1,c_x2,c_x3,c_x4,c_x5,r_x0,r_x1⟩⟩:=hl.lo k hltk;obtain⟨gi,oi,rfl,hgli⟩:=hin.addr om;obtain⟨gu,ou,rfl,hglu⟩:=hus.addr om;obtain⟨rg,ro,rc,hlg,hhc,hlr,hrc,hrcl,hrcm⟩:=zcg hin hN1 hltk;have hrq:=hrc q hqN;clear hrc;have Hxl:=Lib.hid (HL.out x (List.mem_of_getElem? Hg_x.out));have Htw:Hid (twoL f L (fun k=>In k q) (fun k=>Us k q) q (k+1)=twoL f L (fun k=>In k q) (fun k=>Us k q) q k++(if decide (x.bo=3)&&(In k q&&usesC (coF f q) x.loc.toNat) then agaL L (fun k=>In k q) (fun k=>Us k q) q (tch2 x) k nl else [])):=Lib.hid (by rw[zn4 _ _ _ _ _ Hg_x.out,←Hnl.out]);obtain⟨ik,Hik⟩:∃ ik,Hid (In k q=ik):=⟨_,Lib.hid rfl⟩
     rw[Hik.out] at Htw hrq;go_wp2_with fail;by_cases hskip:¬(ik=true∧x.bo=3∧usesC (coF f q) x.loc.toNat=true)
     ·have Hnx:Hid (twoL f L (fun k=>In k q) (fun k=>Us k q) q (k+1)=twoL f L (fun k=>In k q) (fun k=>Us k q) q k):=Lib.hid (by
       rw[Htw.out,if_neg,List.append_nil];intro e;simp only[Bool.and_eq_true,decide_eq_true_eq] at e;exact hskip ⟨e.2.1,e.1,e.2.2⟩)
      cases ik
      ·clear hskip
       (refine z8 28 (by kernel_rfl) (by rfl) ?_;((iterate 28 ((first|refine JqW 0 ?_|refine JqW 1 ?_|refine JqW 2 ?_|refine JqW 3 ?_|refine JqW 4 ?_|refine JqW 5 ?_|refine JqW 6 ?_|refine JqW 7 ?_|refine JqW 8 ?_|refine JqW 9 ?_|refine JqW 10 ?_|refine JqW 11 ?_|refine JqW 12 ?_|refine JqW 13 ?_|refine JqW 14 ?_|refine JqW 15 ?_|refine JqW 16 ?_|refine JqW 17 ?_|refine JqW 18 ?_|refine JqW 19 ?_|refine JqW 20 ?_|refine JqW 21 ?_|refine JqW 22 ?_|refine JqW 23 ?_|refine JqW 24 ?_|refine JqW 25 ?_|refine JqW 26 ?_|refine JqW 27 ?_);(first|go_big_quiet_step (fail)|(refine wpQuiet_step (fun K hK=>?_);go_simp;split<;>(refine hK _ ?_;clear hK K)));refine wpQuiet_nil ?_));(repeat (any_goals (first|(refine JqW 27 ?_;(first|go_big_quiet_step (fail)|(refine wpQuiet_step (fun K hK=>?_);go_simp;split<;>(refine hK _ ?_;clear hK K)));refine wpQuiet_nil ?_)|((first|(refine J_any [19] (by decide +kernel) ?_))<;>(refine⟨_,rfl,fun K hK=>?_⟩;go_wp2_with (fail);refine hK _ _ (za gw) ?_;clear hK K))))));all_goals (refine J_end (by decide +kernel) ?_))
       go_wp2_with fail;go_roundw
       case rel=>exact⟨k+1,by omega,by go_num,gw,by rw[Hnx.out];exact hown2.mono gw⟩
       case measure=>exact me
      ·by_cases hb3:x.bo=3
       ·have e3:(x.bo != 3)=false:=by simp[hb3]
        have hu0:usesC (coF f q) x.loc.toNat=false:=by
         cases h:usesC (coF f q) x.loc.toNat
         ·rfl
         ·exact absurd ⟨rfl,hb3,h⟩ hskip
        obtain⟨hx0,hx16⟩:=Hxl.out hb3;obtain⟨p,hpx⟩:=Int.eq_ofNat_of_zero_le hx0;have hix:∀ w' : World,(Instr.index 68 (.agg (is16 (usedL (coF f q)))) (.int .i64 x.loc)).run Tryz.prog w' = .ok (.bool false) w':=fun w'=>by
         rw[hpx] at hu0 ⊢;rw[zdo w' _ p om,zfn];rw[Int.toNat_natCast] at hu0;rw[hu0]
        clear hskip hb3 hu0 hx0 hx16 hpx
        (refine z8 28 (by kernel_rfl) (by rfl) ?_;((iterate 24 ((first|refine JqW 0 ?_|refine JqW 1 ?_|refine JqW 2 ?_|refine JqW 3 ?_|refine JqW 4 ?_|refine JqW 5 ?_|refine JqW 6 ?_|refine JqW 7 ?_|refine JqW 8 ?_|refine JqW 9 ?_|refine JqW 10 ?_|refine JqW 11 ?_|refine JqW 12 ?_|refine JqW 13 ?_|refine JqW 14 ?_|refine JqW 15 ?_|refine JqW 16 ?_|refine JqW 17 ?_|refine JqW 18 ?_|refine JqW 20 ?_|refine JqW 21 ?_|refine JqW 22 ?_|refine JqW 23 ?_|refine JqW 24 ?_);(first|go_big_quiet_step (fail)|(refine wpQuiet_step (fun K hK=>?_);go_simp;split<;>(refine hK _ ?_;clear hK K)));refine wpQuiet_nil ?_));(repeat (any_goals (first|((first|refine JqW 25 ?_|refine JqW 26 ?_|refine JqW 27 ?_);(first|go_big_quiet_step (fail)|(refine wpQuiet_step (fun K hK=>?_);go_simp;split<;>(refine hK _ ?_;clear hK K)));refine wpQuiet_nil ?_)|((first|(refine J_any [19] (by decide +kernel) ?_))<;>(refine⟨_,rfl,fun K hK=>?_⟩;go_wp2_with (first|(go_at_call 102;((with_reducible refine armV (Hus.out _ h1.m h2.m) ?_);intro x5)));refine hK _ _ (za gw) ?_;clear hK K))))));all_goals (refine J_end (by decide +kernel) ?_))
        go_wp2_with fail;go_roundw
        case rel=>exact⟨k+1,by omega,by go_num,gw,by rw[Hnx.out];exact hown2.mono gw⟩
        case measure=>exact me
       ·have e3:(x.bo != 3)=true:=by simp[hb3]
        clear hskip hb3
        (refine z8 28 (by kernel_rfl) (by rfl) ?_;((iterate 28 ((first|refine JqW 0 ?_|refine JqW 1 ?_|refine JqW 2 ?_|refine JqW 3 ?_|refine JqW 4 ?_|refine JqW 5 ?_|refine JqW 6 ?_|refine JqW 7 ?_|refine JqW 8 ?_|refine JqW 9 ?_|refine JqW 10 ?_|refine JqW 11 ?_|refine JqW 12 ?_|refine JqW 13 ?_|refine JqW 14 ?_|refine JqW 15 ?_|refine JqW 16 ?_|refine JqW 17 ?_|refine JqW 18 ?_|refine JqW 19 ?_|refine JqW 20 ?_|refine JqW 21 ?_|refine JqW 22 ?_|refine JqW 23 ?_|refine JqW 24 ?_|refine JqW 25 ?_|refine JqW 26 ?_|refine JqW 27 ?_);(first|go_big_quiet_step (fail)|(refine wpQuiet_step (fun K hK=>?_);go_simp;split<;>(refine hK _ ?_;clear hK K)));refine wpQuiet_nil ?_));(repeat (any_goals (first|(refine JqW 27 ?_;(first|go_big_quiet_step (fail)|(refine wpQuiet_step (fun K hK=>?_);go_simp;split<;>(refine hK _ ?_;clear hK K)));refine wpQuiet_nil ?_)|((first|(refine J_any [19] (by decide +kernel) ?_))<;>(refine⟨_,rfl,fun K hK=>?_⟩;go_wp2_with (fail);refine hK _ _ (za gw) ?_;clear hK K))))));all_goals (refine J_end (by decide +kernel) ?_))
        go_wp2_with fail;go_roundw
        case rel=>exact⟨k+1,by omega,by go_num,gw,by rw[Hnx.out];exact hown2.mono gw⟩
        case measure=>exact me
     ·obtain⟨rfl,hb3,hu1⟩:ik=true∧x.bo=3∧usesC (coF f q) x.loc.toNat=true:=Classical.not_not.1 hskip;have e3:(x.bo != 3)=false:=by simp[hb3]
      have Hnx:Hid (twoL f L (fun k=>In k q) (fun k=>Us k q) q (k+1)=twoL f L (fun k=>In k q) (fun k=>Us k q) q k++agaL L (fun k=>In k q) (fun k=>Us k q) q (tch2 x) k nl):=Lib.hid (by
       rw[Htw.out,if_pos];simp only[Bool.and_eq_true,decide_eq_true_eq];exact⟨hb3,trivial,hu1⟩)
      obtain⟨hx0,hx16⟩:=Hxl.out hb3;obtain⟨p,hpx⟩:=Int.eq_ofNat_of_zero_le hx0;have hix:∀ w' : World,(Instr.index 68 (.agg (is16 (usedL (coF f q)))) (.int .i64 x.loc)).run Tryz.prog w' = .ok (.bool true) w':=fun w'=>by
       rw[hpx] at hu1 ⊢;rw[zdo w' _ p om,zfn];rw[Int.toNat_natCast] at hu1;rw[hu1]
      clear hskip hb3 hu1 hx0 hx16 hpx
      (refine z8 28 (by kernel_rfl) (by rfl) ?_;((iterate 24 ((first|refine JqW 0 ?_|refine JqW 1 ?_|refine JqW 2 ?_|refine JqW 3 ?_|refine JqW 4 ?_|refine JqW 5 ?_|refine JqW 6 ?_|refine JqW 7 ?_|refine JqW 8 ?_|refine JqW 9 ?_|refine JqW 10 ?_|refine JqW 11 ?_|refine JqW 12 ?_|refine JqW 13 ?_|refine JqW 14 ?_|refine JqW 15 ?_|refine JqW 16 ?_|refine JqW 17 ?_|refine JqW 18 ?_|refine JqW 20 ?_|refine JqW 21 ?_|refine JqW 22 ?_|refine JqW 23 ?_|refine JqW 24 ?_);(first|go_big_quiet_step (fail)|(refine wpQuiet_step (fun K hK=>?_);go_simp;split<;>(refine hK _ ?_;clear hK K)));refine wpQuiet_nil ?_));(repeat (any_goals (first|((first|refine JqW 25 ?_|refine JqW 26 ?_|refine JqW 27 ?_);(first|go_big_quiet_step (fail)|(refine wpQuiet_step (fun K hK=>?_);go_simp;split<;>(refine hK _ ?_;clear hK K)));refine wpQuiet_nil ?_)|((first|(refine J_any [19] (by decide +kernel) ?_))<;>(refine⟨_,rfl,fun K hK=>?_⟩;go_wp2_with (first|(go_at_call 102;((with_reducible refine armV (Hus.out _ h1.m h2.m) ?_);intro x5)));refine hK _ _ (za gw) ?_;clear hK K))))));all_goals (refine J_end (by decide +kernel) ?_))
      go_wp2_with fail;clear hix;refine zl9 (W3:=(ext (w.alloc (bxFn f (.slice a n cap) (.slice a2 n2 cap2))) x3)) (fun X=>Own (fun _=>False) (w.heap.size+1+x3.k) 113 X u11 (oneL L (fun k=>In k q) (fun k=>Us k q) q ts++twoL f L (fun k=>In k q) (fun k=>Us k q) q k)∧X.heap[(w.heap.size+1+x3.k+z2.k+x5.k)]?=some (.cells #[.int .i64 x.pl.loc,.bool x.pl.deref,.int .u8 x.pl.field,.bool true,.bool true] 111)) gw ⟨hown2.mono gw,hp_at⟩ ?_;rintro zz ⟨hown3,hg0⟩;have hxw:x.pl.wf:=hw_x.pl;clear hgr2 hown2;go_loopw [11,17] (fun tv ti wr=>∃ e:Nat,e≤nl∧ti = .int .i64 e∧Grow (ext (w.alloc (bxFn f (.slice a n cap) (.slice a2 n2 cap2))) x3) wr∧Own (fun _=>False) (w.heap.size+1+x3.k) 113 wr tv ((oneL L (fun k=>In k q) (fun k=>Us k q) q ts++twoL f L (fun k=>In k q) (fun k=>Us k q) q k)++agaL L (fun k=>In k q) (fun k=>Us k q) q (tch2 x) k e)∧wr.heap[(w.heap.size+1+x3.k+z2.k+x5.k)]?=some (.cells #[.int .i64 x.pl.loc,.bool x.pl.deref,.int .u8 x.pl.field,.bool true,.bool true] 111)) (fun _ ti _=>nl - (intOf ti).toNat)
      case atStart=>exact⟨0,Nat.zero_le _,rfl,gw,by rw[show agaL L (fun k=>In k q) (fun k=>Us k q) q (tch2 x) k 0 = [] from rfl,List.append_nil];exact hown3,hg0⟩
      case round =>
       obtain⟨e,he,rfl,hgr4,hown4,hg4⟩:=hrel;obtain⟨z4,rfl⟩:=za hgr4;have hla:=Haga.out (tch2 x) k e he;haveI:LtW (w.heap.size+1+x3.k+z2.k+x5.k) (ext (ext (w.alloc (bxFn f (.slice a n cap) (.slice a2 n2 cap2))) x3) z4):=⟨(Array.getElem?_eq_some_iff.1 hg4).1⟩
       have hcell:=zaq hg4;have hrow:=zqh hg4;by_cases hlte:e<nl
       ·(obtain⟨b_y,off_y,y,he_y,⟨Hg_y,hl_y,hw_y,c_y0,c_y1,c_y2,c_y3,c_y4,c_y5,r_y0,r_y1⟩⟩:=hl.lo e hlte;simp only[Option.some.injEq,Addr.mk.injEq,and_true] at he_y;obtain⟨rfl,rfl⟩:=he_y)
        obtain⟨rg',ro',rc',hlg',hhc',hlr',hrc',hrcl',hrcm'⟩:=zcg hin hN1 hlte;obtain⟨sg',so',sc',hlgs',hhs',hls',hsc',hscl',hscm'⟩:=zcg hus hN1 hlte;have hrq':=hrc' q hqN;have hsq':=hsc' q hqN;clear hrc' hsc';have h64:I64 (e:Int):=⟨by omega,by omega⟩
        have Hag:Hid (agaL L (fun k=>In k q) (fun k=>Us k q) q (tch2 x) k (e+1)=agaL L (fun k=>In k q) (fun k=>Us k q) q (tch2 x) k e++(if decide ((e:Int)≠(k:Int))&&(In e q&&confB (tch2 x) y (Us e q)) then [⟨((q:Nat):Int),((e:Nat):Int),tch2 x⟩] else [])):=Lib.hid (zi9 _ _ _ _ _ _ Hg_y.out);obtain⟨ie,Hie⟩:∃ ie,Hid (In e q=ie):=⟨_,Lib.hid rfl⟩
        obtain⟨ue,Hue⟩:∃ ue,Hid (Us e q=ue):=⟨_,Lib.hid rfl⟩
        obtain⟨cf,Hcf⟩:∃ cf,Hid (confB (tch2 x) y ue=cf):=⟨_,Lib.hid rfl⟩
        have Hca:Hid (∀ w',Calls Tryz.prog 101 #[(⟨x.pl,true,true⟩:Th).v,y.v,.bool ue] w' (Ret w' (.bool (confB (tch2 x) y ue)))):=(Lib.hid (fun w'=>ziw (tch2 x) y ue w'))
        rw[Hcf.out] at Hca;rw[Hie.out,Hue.out,Hcf.out] at Hag;rw[Hie.out] at hrq';rw[Hue.out] at hsq';by_cases hek:e=k
        ·have hne:((e:Int) != (k:Int))=false:=by simp[hek]
         rw[if_neg (by simp[hek]),List.append_nil] at Hag;clear hek;go_wp2_with fail
         (refine z8 27 (by kernel_rfl) (by rfl) ?_;((iterate 27 ((first|refine JqW 0 ?_|refine JqW 1 ?_|refine JqW 2 ?_|refine JqW 3 ?_|refine JqW 4 ?_|refine JqW 5 ?_|refine JqW 6 ?_|refine JqW 7 ?_|refine JqW 8 ?_|refine JqW 9 ?_|refine JqW 10 ?_|refine JqW 11 ?_|refine JqW 12 ?_|refine JqW 13 ?_|refine JqW 14 ?_|refine JqW 15 ?_|refine JqW 16 ?_|refine JqW 17 ?_|refine JqW 18 ?_|refine JqW 19 ?_|refine JqW 20 ?_|refine JqW 21 ?_|refine JqW 22 ?_|refine JqW 23 ?_|refine JqW 24 ?_|refine JqW 25 ?_|refine JqW 26 ?_);(first|go_big_quiet_step (fail)|(refine wpQuiet_step (fun K hK=>?_);go_simp;split<;>(refine hK _ ?_;clear hK K)));refine wpQuiet_nil ?_));(repeat (any_goals (first|(refine JqW 26 ?_;(first|go_big_quiet_step (fail)|(refine wpQuiet_step (fun K hK=>?_);go_simp;split<;>(refine hK _ ?_;clear hK K)));refine wpQuiet_nil ?_)|((first|(refine J_any [25] (by decide +kernel) ?_))<;>(refine⟨_,rfl,fun K hK=>?_⟩;go_wp2_with (fail);refine hK _ _ (za gw) ?_;clear hK K))))));all_goals (refine J_end (by decide +kernel) ?_))
         go_wp2_with fail;go_roundw
         case rel=>exact⟨e+1,by omega,by go_num,gw,by rw[Hag.out];exact hown4.mono gw,by rw[←hg4];exact(show Grow (ext (ext (w.alloc (bxFn f (.slice a n cap) (.slice a2 n2 cap2))) x3) z4) _ from gw).block _ (LtW.lt)⟩
         case measure=>exact me
        ·have hne:((e:Int) != (k:Int))=true:=by simp;omega
         have hdk:decide ((e:Int)≠(k:Int))=true:=decide_eq_true om;rw[hdk,Bool.true_and] at Hag;clear hek hdk;go_wp2_with fail;cases ie
         ·simp only[Bool.false_and,Bool.false_eq_true,if_false,List.append_nil] at Hag
          (refine z8 27 (by kernel_rfl) (by rfl) ?_;((iterate 27 ((first|refine JqW 0 ?_|refine JqW 1 ?_|refine JqW 2 ?_|refine JqW 3 ?_|refine JqW 4 ?_|refine JqW 5 ?_|refine JqW 6 ?_|refine JqW 7 ?_|refine JqW 8 ?_|refine JqW 9 ?_|refine JqW 10 ?_|refine JqW 11 ?_|refine JqW 12 ?_|refine JqW 13 ?_|refine JqW 14 ?_|refine JqW 15 ?_|refine JqW 16 ?_|refine JqW 17 ?_|refine JqW 18 ?_|refine JqW 19 ?_|refine JqW 20 ?_|refine JqW 21 ?_|refine JqW 22 ?_|refine JqW 23 ?_|refine JqW 24 ?_|refine JqW 25 ?_|refine JqW 26 ?_);(first|go_big_quiet_step (fail)|(refine wpQuiet_step (fun K hK=>?_);go_simp;split<;>(refine hK _ ?_;clear hK K)));refine wpQuiet_nil ?_));(repeat (any_goals (first|(refine JqW 26 ?_;(first|go_big_quiet_step (fail)|(refine wpQuiet_step (fun K hK=>?_);go_simp;split<;>(refine hK _ ?_;clear hK K)));refine wpQuiet_nil ?_)|((first|(refine J_any [25] (by decide +kernel) ?_))<;>(refine⟨_,rfl,fun K hK=>?_⟩;go_wp2_with (fail);refine hK _ _ (za gw) ?_;clear hK K))))));all_goals (refine J_end (by decide +kernel) ?_))
          go_wp2_with fail;go_roundw
          case rel=>exact⟨e+1,by omega,by go_num,gw,by rw[Hag.out];exact hown4.mono gw,by rw[←hg4];exact(show Grow (ext (ext (w.alloc (bxFn f (.slice a n cap) (.slice a2 n2 cap2))) x3) z4) _ from gw).block _ (LtW.lt)⟩
          case measure=>exact me
         ·(refine z8 27 (by kernel_rfl) (by rfl) ?_;((iterate 25 ((first|refine JqW 0 ?_|refine JqW 1 ?_|refine JqW 2 ?_|refine JqW 3 ?_|refine JqW 4 ?_|refine JqW 5 ?_|refine JqW 6 ?_|refine JqW 7 ?_|refine JqW 8 ?_|refine JqW 9 ?_|refine JqW 10 ?_|refine JqW 11 ?_|refine JqW 12 ?_|refine JqW 13 ?_|refine JqW 14 ?_|refine JqW 15 ?_|refine JqW 16 ?_|refine JqW 17 ?_|refine JqW 18 ?_|refine JqW 19 ?_|refine JqW 20 ?_|refine JqW 21 ?_|refine JqW 22 ?_|refine JqW 23 ?_|refine JqW 24 ?_);(first|go_big_quiet_step (fail)|(refine wpQuiet_step (fun K hK=>?_);go_simp;split<;>(refine hK _ ?_;clear hK K)));refine wpQuiet_nil ?_));(repeat (any_goals (first|(refine JqW 26 ?_;(first|go_big_quiet_step (fail)|(refine wpQuiet_step (fun K hK=>?_);go_simp;split<;>(refine hK _ ?_;clear hK K)));refine wpQuiet_nil ?_)|((first|(refine J_any [25] (by decide +kernel) ?_))<;>(refine⟨_,rfl,fun K hK=>?_⟩;go_wp2_with (first|(go_at_call 101;((with_reducible refine armV (Hca.out _) ?_);intro x6)));refine hK _ _ (za gw) ?_;clear hK K))))));all_goals (refine J_end (by decide +kernel) ?_))
          cases cf
          ·simp only[Bool.and_false,Bool.false_eq_true,if_false,List.append_nil] at Hag;go_wp2_with fail;go_roundw
           case rel=>exact⟨e+1,by omega,by go_num,gw,by rw[Hag.out];exact hown4.mono gw,by rw[←hg4];exact(show Grow (ext (ext (w.alloc (bxFn f (.slice a n cap) (.slice a2 n2 cap2))) x3) z4) _ from gw).block _ (LtW.lt)⟩
           case measure=>exact me
          ·simp only[Bool.and_true,if_true] at Hag;have hgA:∀ X,Grow (ext (ext (w.alloc (bxFn f (.slice a n cap) (.slice a2 n2 cap2))) x3) z4) X→X.heap[(w.heap.size+1+x3.k+z2.k+x5.k)]?=some (.cells #[.int .i64 x.pl.loc,.bool x.pl.deref,.int .u8 x.pl.field,.bool true,.bool true] 111):=fun X g=>by rw[←hg4];exact g.block _ (LtW.lt)
           have HgA:=Lib.hid hgA;clear hgA;go_wp2_with (first|(at_builtin;go_must (refine zh (α:=Cl) zma rfl rfl rfl ((hown4.mono (Grow.refl _))) gw (by first|exact Nat.le_refl _|(simp;done)|(simp;omega)) (by first|(simp;done)|(simp;omega)) rfl (y:=⟨(q:Int),(e:Int),⟨x.pl,true,true⟩⟩) (Gy:=fun _=>False) (⟨rfl,⟨hq64,h64,⟨hxw⟩⟩⟩) (fun _ h=>h.elim) cel (by simp[Value.oneCell']) om om ?_);intro tv7 x7 ho7 hsz7 hagr7));have hgB:=zh9 hagr7 (hp_ne hown4 hg4 (by decide)) hg4;go_roundw
           case rel=>exact⟨e+1,by omega,by go_num,gw,by rw[Hag.out,←List.append_assoc];exact ho7,hgB⟩
           case measure=>exact me
       ·obtain rfl:e=nl:=om;go_wp2_with fail;go_roundw
        case rel=>exact⟨k+1,by omega,by go_num,gw,by rw[Hnx.out,←List.append_assoc];exact hown4⟩
        case measure=>exact me
    ·obtain rfl:k=nl:=om;go_wp2_with fail;refine zd (by simp only[results,Tryz.results62];go_simp<;>rfl) rfl gw ?_;exact(hown2.sl.wide (fun b hb hF=>by rcases hF with hF|hF;exact hF.elim;exact Or.inr (by first|omega|(simp at hF;omega)))).mono gw
end Go.Proofs.YtacmoaeglbggjaaGreat
