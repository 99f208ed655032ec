/- A part of the proof. -/
import Derived.WalkMore
import Derived.Test.YtacmoaeglbggjaaGreatQ13
namespace Go.Proofs.YtacmoaeglbggjaaGreat
open Go.RowKit
set_option linter.unusedSimpArgs false
set_option linter.unusedVariables false
set_option maxRecDepth 100000
set_option maxHeartbeats 16000000
theorem zti {p : Pl}(hp : p.wf): decide (0<p.field)=(p.field != 0):=by
 have:=hp.field.1
 rw[Bool.eq_iff_iff,decide_eq_true_eq,bne_iff_ne];omega
theorem zoc (p : Pl): (!whole p)=(p.deref||(p.field != 0)):=by
 unfold whole;cases p.deref
 ·simp[bne];rfl
 ·simp
theorem zod (p : Pl)(w : World)(hp : p.wf): Calls Tryz.prog 244 #[p.v] w (Ret w (.bool (!whole p))):=by
 rw[zoc];have e:=zti hp;obtain⟨loc,de,fi⟩:=p;cases de
 ·rw[←e];clear e hp;go_enter Tryz.func244,Tryz.ntmps244
  go_wp2_with fail;go_ret
  exact Ret.mk (by simp) gw
 ·clear e hp;go_enter Tryz.func244,Tryz.ntmps244
  go_wp2_with fail;go_ret
  exact Ret.mk (by simp) gw
theorem zg6 (p : Pl)(w : World)(hp : p.wf): Calls Tryz.prog 247 #[p.v] w (Ret w (.bool (!whole p))):=by
 rw[zoc];have e:=zti hp;obtain⟨loc,de,fi⟩:=p;cases de
 ·rw[←e];clear e hp;go_enter Tryz.func247,Tryz.ntmps247
  go_wp2_with fail;go_ret
  exact Ret.mk (by simp) gw
 ·clear e hp;go_enter Tryz.func247,Tryz.ntmps247
  go_wp2_with fail;go_ret
  exact Ret.mk (by simp) gw
theorem zdg (p : Pl)(w : World): Calls Tryz.prog 187 #[p.v] w (Ret w (.bool (whole p))):=by
 obtain⟨loc,de,fi⟩:=p;cases de;all_goals
  go_enter Tryz.func187,Tryz.ntmps187
  go_wp2_with fail;go_ret
  exact Ret.mk (by unfold whole;first|(simp;done)|(simp;rfl)) gw
theorem zf8 (s : St): setC (.st s)=if s.kind=1∧whole s.pl=true then s.pl.loc else if s.kind=3 then s.loc else -1:=rfl
theorem zj3 (j : Ju): setC (.ju j)=if j.kind=4∧whole j.dest=true then j.dest.loc else -1:=rfl
theorem zv6 (s : St)(w : World)(hs : s.wf)(h0 : stErr s=0): Calls Tryz.prog 227 #[s.v] w (Ret w (.tuple #[.int .i64 (setC (.st s)),.int .i64 0])):=by
 have H0:Hid (stErr s=0):=Lib.hid h0;have h0' : (stErr s != 0)=false:=by simp[h0]
 clear h0;have hpl:=hs.pl;by_cases h3:s.kind=3
 ·have He:Hid (setC (.st s)=s.loc):=Lib.hid (by rw[zf8,if_neg om,if_pos h3]);have e3:(s.kind==3)=true:=by simp[h3]
  clear h3;rw[He.out];go_enter Tryz.func227,Tryz.ntmps227
  go_wp2_with (first|(go_at_call 66;((with_reducible refine armV (zb0 s _ hs) ?_);intro x1)))
  ((try simp only[Exit.inBlock,Exit.then]);refine zf (by simp only[results,Tryz.results227];go_simp;rfl) rfl gw ?_)
  rfl
 ·have e3:(s.kind==3)=false:=by simp[h3]
  by_cases h1:s.kind=1
  ·have e1:(s.kind==1)=true:=by simp[h1]
   cases hw:whole s.pl;all_goals
    have He:=Lib.hid (show setC (.st s)=(if whole s.pl=true then s.pl.loc else -1) from by
     rw[zf8,hw];simp[h1])
    rw[hw] at He;simp only[Bool.false_eq_true,if_false,if_true] at He;have Hp:=Lib.hid (fun w'=>zod s.pl w' hpl);rw[hw] at Hp;simp only[Bool.not_false,Bool.not_true] at Hp;clear hw h1 h3;rw[He.out];go_enter Tryz.func227,Tryz.ntmps227
    go_wp2_with (first|(go_at_call 66;((with_reducible refine armV (zb0 s _ hs) ?_);intro x1))|(go_at_call 244;((with_reducible refine armV (Hp.out _) ?_);intro x2)))
    ((try simp only[Exit.inBlock,Exit.then]);refine zf (by simp only[results,Tryz.results227];go_simp;rfl) rfl gw ?_)
    rfl
  ·have e1:(s.kind==1)=false:=by simp[h1]
   have He:Hid (setC (.st s) = -1):=Lib.hid (by rw[zf8,if_neg om,if_neg h3]);clear h1 h3;rw[He.out];go_enter Tryz.func227,Tryz.ntmps227
   go_wp2_with (first|(go_at_call 66;((with_reducible refine armV (zb0 s _ hs) ?_);intro x1)))
   ((try simp only[Exit.inBlock,Exit.then]);refine zf (by simp only[results,Tryz.results227];go_simp;rfl) rfl gw ?_)
   rfl
theorem zv7 (s : St)(w : World): Calls Tryz.prog 211 #[s.v] w (Ret w (.int .i64 (setC (.st s)))):=by
 by_cases h1:s.kind=1
 ·have e1:(s.kind==1)=true:=by simp[h1]
  have e3:(s.kind==3)=false:=by simp[h1]
  cases hw:whole s.pl;all_goals
   have He:=Lib.hid (show setC (.st s)=(if whole s.pl=true then s.pl.loc else -1) from by
    rw[zf8,hw];simp[h1])
   rw[hw] at He;simp only[Bool.false_eq_true,if_false,if_true] at He;have Hp:=Lib.hid (fun w'=>zdg s.pl w');rw[hw] at Hp;clear hw h1;rw[He.out];go_enter Tryz.func211,Tryz.ntmps211
   go_wp2_with (first|(go_at_call 187;((with_reducible refine armV (Hp.out _) ?_);intro x2)));go_ret
   exact Ret.mk rfl gw
 ·have e1:(s.kind==1)=false:=by simp[h1]
  cases h3:(s.kind==3)
  ·have He:Hid (setC (.st s) = -1):=Lib.hid (by rw[zf8,if_neg om,if_neg (by simpa using h3)]);clear h1;rw[He.out];go_enter Tryz.func211,Tryz.ntmps211
   go_wp2_with fail;go_ret
   exact Ret.mk rfl gw
  ·have He:Hid (setC (.st s)=s.loc):=Lib.hid (by rw[zf8,if_neg om,if_pos (by simpa using h3)]);clear h1;rw[He.out];go_enter Tryz.func211,Tryz.ntmps211
   go_wp2_with fail;go_ret
   exact Ret.mk rfl gw
theorem zv8 (j : Ju)(av : Value)(w : World)(hj : j.wf){F : Nat→Prop}(hav : Sl F w av j.args)(h0 : juErr j=0): Calls Tryz.prog 229 #[j.v av] w (Ret w (.tuple #[.int .i64 (setC (.ju j)),.int .i64 0])):=by
 obtain⟨a,n,cap,rfl,Hn,hm,hcap,hcm,hav⟩:=hav.open;have H0:Hid (juErr j=0):=Lib.hid h0;have h0' : (juErr j != 0)=false:=by simp[h0]
 clear h0;have hpl:=hj.dest;by_cases h4:j.kind=4
 ·have e1:(j.kind==4)=true:=by simp[h4]
  cases hw:whole j.dest;all_goals
   have He:=Lib.hid (show setC (.ju j)=(if whole j.dest=true then j.dest.loc else -1) from by
    rw[zj3,hw];simp[h4])
   rw[hw] at He;simp only[Bool.false_eq_true,if_false,if_true] at He;have Hp:=Lib.hid (fun w'=>zg6 j.dest w' hpl);rw[hw] at Hp;simp only[Bool.not_false,Bool.not_true] at Hp;clear hw h4;rw[He.out];go_enter Tryz.func229,Tryz.ntmps229
   go_wp2_with (first|(go_at_call 108;((with_reducible refine armV (zbj j _ _ hj hav.m) ?_);intro x1))|(go_at_call 247;((with_reducible refine armV (Hp.out _) ?_);intro x2)))
   ((try simp only[Exit.inBlock,Exit.then]);refine zf (by simp only[results,Tryz.results229];go_simp;rfl) rfl gw ?_)
   rfl
 ·have e1:(j.kind==4)=false:=by simp[h4]
  have He:Hid (setC (.ju j) = -1):=Lib.hid (by rw[zj3,if_neg om]);clear h4;rw[He.out];go_enter Tryz.func229,Tryz.ntmps229
  go_wp2_with (first|(go_at_call 108;((with_reducible refine armV (zbj j _ _ hj hav.m) ?_);intro x1)))
  ((try simp only[Exit.inBlock,Exit.then]);refine zf (by simp only[results,Tryz.results229];go_simp;rfl) rfl gw ?_)
  rfl
theorem zv9 (j : Ju)(av : Value)(w : World){F : Nat→Prop}(hav : Sl F w av j.args): Calls Tryz.prog 212 #[j.v av] w (Ret w (.int .i64 (setC (.ju j)))):=by
 obtain⟨a,n,cap,rfl,Hn,hm,hcap,hcm,hav⟩:=hav.open;by_cases h4:j.kind=4
 ·have e1:(j.kind==4)=true:=by simp[h4]
  cases hw:whole j.dest;all_goals
   have He:=Lib.hid (show setC (.ju j)=(if whole j.dest=true then j.dest.loc else -1) from by
    rw[zj3,hw];simp[h4])
   rw[hw] at He;simp only[Bool.false_eq_true,if_false,if_true] at He;have Hp:=Lib.hid (fun w'=>zdg j.dest w');rw[hw] at Hp;clear hw h4;rw[He.out];go_enter Tryz.func212,Tryz.ntmps212
   go_wp2_with (first|(go_at_call 187;((with_reducible refine armV (Hp.out _) ?_);intro x2)));go_ret
   exact Ret.mk rfl gw
 ·have e1:(j.kind==4)=false:=by simp[h4]
  have He:Hid (setC (.ju j) = -1):=Lib.hid (by rw[zj3,if_neg om]);clear h4;rw[He.out];go_enter Tryz.func212,Tryz.ntmps212
  go_wp2_with fail;go_ret
  exact Ret.mk rfl gw
theorem zoe (f : Fn)(v1 v2 : Value)(w : World){F F' : Nat→Prop}(h1 : Sl F w v1 f.locals)(h2 : Sl F' w v2 f.blocks)(hok : fnErr f=0){q b i : Nat}{x : Bk}(hp : PtAt f q b i x):
  Calls Tryz.prog 183 #[f.v v1 v2,.int .i64 (q:Nat)] w (Ret w (.int .i64 (setC (coF f q)))):=by
 obtain⟨a,n,cap,rfl,Hn,hm,hcap,hcm,h1⟩:=h1.open;obtain⟨a2,n2,cap2,rfl,Hn2,hm2,hcap2,hcm2,h2⟩:=h2.open;have Hok:=Lib.hid hok;clear hok;rcases hp.cases with ⟨s,hs,hc⟩|hc
 ·rw[hc];have Hc:=Lib.hid hc;clear hc hs;go_enter Tryz.func183,Tryz.ntmps183
  go_wp2_with (first|(go_at_call 95;((with_reducible refine armV (zk f _ _ _ h1.m h2.m Hok.out hp Hc) ?_);intro x3))|(go_at_call 211;((with_reducible refine armV (zv7 s _) ?_);intro x4)));go_ret
  exact Ret.mk rfl gw
 ·rw[hc];have Hc:=Lib.hid hc;clear hc;go_enter Tryz.func183,Tryz.ntmps183
  go_wp2_with (first|(go_at_call 95;((with_reducible refine armV (zai f _ _ _ h1.m h2.m Hok.out hp Hc) ?_);intro x3))|(go_at_call 147;((with_reducible refine(zb2 f _ _ _ h1.m h2.m Hok.out hp).mono ?_);rintro e w4 ⟨v4,rfl,⟨av,rfl,hav⟩,hb4⟩;obtain⟨x4,rfl⟩:=za hb4;clear hb4;obtain⟨a4,n4,cap4,rfl,Hn4,hm4,hcap4,hcm4,hav⟩:=hav.open))|(go_at_call 212;((with_reducible refine armV (zv9 x.jump _ _ hav.m) ?_);intro x5)));go_ret
  exact Ret.mk rfl gw
theorem zby {o : Opd}(h : o.kind=1∨o.kind=2∨o.kind=3): zaf o = !(o.kind==1):=by
 unfold zaf;rcases h with h|h|h<;>simp[h]
def rd45 (r : Rv): List Int:=if r.kind=4∨r.kind=5 then [r.pl.loc] else []
def usedL (c : Co): List Int:=rdO (opsC c)++rdsC c
theorem zfn (c : Co)(i : Nat): decide ((i : Int)∈usedL c)=usesC c i:=by
 rw[Bool.eq_iff_iff,decide_eq_true_eq];unfold usedL usesC usesO rdO rdO1;simp only[List.mem_append,Bool.or_eq_true,List.any_eq_true,List.mem_flatMap,Bool.and_eq_true,decide_eq_true_eq];constructor
 ·rintro(⟨o,ho,h⟩|h)
  ·split at h
   ·cases h
   ·rename_i hk;rw[List.mem_singleton] at h;exact Or.inl ⟨o,ho,hk,h.symm⟩
  ·exact Or.inr ⟨_,h,rfl⟩
 ·rintro(⟨o,ho,h,e⟩|⟨x,hx,e⟩)
  ·exact Or.inl ⟨o,ho,by rw[if_neg h,List.mem_singleton];exact e.symm⟩
  ·rw[←e];exact Or.inr hx
theorem zui (r : Rv)(w : World)(hr : r.wf)(hops : ∀ o∈ze r,0≤o.pl.loc∧o.pl.loc<16∧(o.kind=1∨o.kind=2∨o.kind=3))(href : r.kind=4∨r.kind=5→0≤r.pl.loc∧r.pl.loc<16):
  Calls Tryz.prog 186 #[r.v] w (Ret w (.agg (is16 (rdO (ze r)++rd45 r)))):=by
 have Ho:=Lib.hid hops;have e1:=zcu;clear hops;by_cases h45:r.kind=4∨r.kind=5
 ·have hb:=href h45;have Hnp:Hid (ze r = []):=Lib.hid (by unfold ze;rw[if_neg om,if_neg om]);have Hrd:Hid (rd45 r = [r.pl.loc]):=Lib.hid (by unfold rd45;rw[if_pos h45]);have hr4:((r.kind==4)=true)∨((r.kind==4)=false∧(r.kind==5)=true):=by rcases h45 with h|h<;>simp[h]
  have Hpt:Hid (∀ w',Calls Tryz.prog 88 #[r.v] w' (RetP w' fun v w''=>Sl (Fresh w') w'' v ([]:List Opd))):=Lib.hid fun w'=>by
   have:=zdb r w' hr;rw[Hnp.out] at this;exact this
  rw[Hnp.out,Hrd.out];clear href h45 hr Ho;obtain⟨kd,op,bo,ra,rb,⟨pl,pd,pf⟩⟩:=r;obtain⟨q,rfl⟩:=Int.eq_ofNat_of_zero_le hb.1;have hq:q<16:=by have:=hb.2;simp only at this;omega
  have hg1:∀ l,(is16 l)[q]?=some (.bool (decide ((q:Int)∈l))):=fun l=>zaj l q hq;have hs1:∀ l,(is16 l).setIfInBounds q (.bool true)=is16 (l++[(q:Int)]):=fun l=>za7 l q hq;clear hb;simp only at hr4;rcases hr4 with h4|⟨h4,h5⟩;all_goals
   go_enter Tryz.func186,Tryz.ntmps186
   go_wp2_with (first|(go_at_call 88;((with_reducible refine armS (Hpt.out _) ?_);intro a3 n3 cap3 x3 Hn3 hm3 hcap3 hcm3 hs3)));obtain rfl:n3=0:=by rw[Hn3.out];rfl
   clear e1;go_loopw [5] (fun ti wr=>ti = .int .i64 0∧Grow ((((w.alloc (bxRv (⟨kd,op,bo,ra,rb,⟨(q:Int),pd,pf⟩⟩:Rv))).alloc (.cells (is16 []) 68))).alloc (.cells (is16 []) 68)) wr) (fun ti _=>0)
   case atStart=>exact⟨rfl,gw⟩
   case round =>
    obtain⟨rfl,hgr⟩:=hrel;obtain⟨z,rfl⟩:=za hgr;go_wp2_with fail
    ((try simp only[Exit.inBlock,Exit.then]);refine zf (by simp only[results,Tryz.results186];go_simp;rfl) rfl gw ?_)
    rfl
 ·have Hrd:Hid (rd45 r = []):=Lib.hid (by unfold rd45;rw[if_neg h45]);have h4:(r.kind==4)=false:=by simp;omega
  have h5:(r.kind==5)=false:=by simp;omega
  rw[Hrd.out,List.append_nil];clear href h45;go_enter Tryz.func186,Tryz.ntmps186
  go_wp2_with (first|(go_at_call 88;((with_reducible refine armS (zdb r _ hr) ?_);intro a3 n3 cap3 x3 Hn3 hm3 hcap3 hcm3 hs3)));clear e1;have Hall:Hid (∀ l' : List Int,Sl (fun k=>((w.alloc (bxRv r)).alloc (.cells (is16 []) 68)).heap.size<k) (ext (((w.alloc (bxRv r)).alloc (.cells (is16 []) 68)).alloc (.cells (is16 l') 68)) x3) (.slice a3 n3 cap3) (ze r)):=Lib.hid fun l'=>(hs3.wide (F':=fun k=>((w.alloc (bxRv r)).alloc (.cells (is16 []) 68)).heap.size<k) (by intro k _ hF;rcases hF with hF|hF;exact hF.elim;first|(simp at hF ⊢;omega)|(simp only[zav] at hF ⊢;omega)|exact hF|(unfold bxRv;exact hF))).swap0 (by first|omega|(unfold bxRv;omega)|(unfold bxRv;exact Nat.le_refl _)|(unfold bxRv;simp));clear hs3;go_loopw [5] (fun ti wr=>∃ (k:Nat) (l' : List Int),k≤n3∧ti = .int .i64 k∧Hid (l'=rdO ((ze r).take k))∧Grow (ext (((w.alloc (bxRv r)).alloc (.cells (is16 []) 68)).alloc (.cells (is16 l') 68)) x3) wr) (fun ti _=>n3 - (intOf ti).toNat)
  case atStart=>exact⟨0,[],Nat.zero_le _,rfl,Lib.hid rfl,gw⟩
  case round =>
   obtain⟨k,l',hk,rfl,Hl,hgr⟩:=hrel;obtain⟨z,rfl⟩:=za hgr;by_cases hlt:k<n3
   ·have hsz:=(Hall.out l').mono (zw _ z);obtain⟨b_o,off_o,o,rfl,⟨Hg_o,hl_o,hw_o,c_o0,c_o1,c_o2,c_o3,c_o4,r_o0,r_o1⟩⟩:=hsz.opd k hlt;have Hsn:=Lib.hid (zea Hg_o);have Hoo:=Lib.hid (Ho.out o (List.mem_of_getElem? Hg_o.out));cases hk1:(o.kind==1)
    ·have Hp1:Hid (rdO1 o = [o.pl.loc]):=Lib.hid (by unfold rdO1;rw[if_neg (by simpa using hk1)]);have Hpd:Hid (zaf o=true):=Lib.hid (by rw[zby Hoo.out.2.2,hk1];rfl);have hlb:=Hoo.out;obtain⟨ok,on,⟨lc,de,fi⟩⟩:=o;obtain⟨q,rfl⟩:=Int.eq_ofNat_of_zero_le hlb.1;have hq:q<16:=by have:=hlb.2.1;simp only at this;omega
     have hg1:∀ l,(is16 l)[q]?=some (.bool (decide ((q:Int)∈l))):=fun l=>zaj l q hq;have hs1:∀ l,(is16 l).setIfInBounds q (.bool true)=is16 (l++[(q:Int)]):=fun l=>za7 l q hq;clear hlb;go_wp2_with (first|(go_at_call 129;((with_reducible refine(zu ⟨ok,on,⟨(q:Int),de,fi⟩⟩ _).mono ?_);rintro e w6 ⟨rfl,hb6⟩;obtain⟨x6,rfl⟩:=za hb6;clear hb6;rw[Hpd.out])));go_roundw
     case rel=>exact⟨k+1,l'++[(q:Int)],by omega,by go_num,Lib.hid (by rw[Hsn.out,Hp1.out,Hl.out]),gw⟩
     case measure=>exact me
    ·have Hp1:Hid (rdO1 o = []):=Lib.hid (by unfold rdO1;rw[if_pos (by simpa using hk1)]);have Hpd:Hid (zaf o=false):=Lib.hid (by rw[zby Hoo.out.2.2,hk1];rfl);go_wp2_with (first|(go_at_call 129;((with_reducible refine(zu o _).mono ?_);rintro e w6 ⟨rfl,hb6⟩;obtain⟨x6,rfl⟩:=za hb6;clear hb6;rw[Hpd.out])));go_roundw
     case rel=>exact⟨k+1,l',by omega,by go_num,Lib.hid (by rw[Hsn.out,Hp1.out,List.append_nil,Hl.out]),gw⟩
     case measure=>exact me
   ·have Hl2:Hid (l'=rdO (ze r)):=Lib.hid (by rw[Hl.out,List.take_of_length_le (by have:=Hn3.out;omega)]);clear Hl;go_wp2_with fail
    ((try simp only[Exit.inBlock,Exit.then]);refine zf (by simp only[results,Tryz.results186];go_simp;rfl) rfl gw ?_)
    rw[←Hl2.out]
theorem zl3 {n : Nat}{c : Co}(hn : n≤16)(h : CoOk n c): ∀ o∈opsC c,0≤o.pl.loc∧o.pl.loc<16∧(o.kind=1∨o.kind=2∨o.kind=3):=fun o ho=>by
 have:=h.ops o ho;omega
theorem st_a0 {s : St}(h0 : stErr s=0)(h : s.kind=1∨s.kind=3): zaf s.a=false:=by
 have hok:=(zax _).1 h0;have hz:opdZ s.a=true:=by
  unfold stOk at hok;rcases h with h|h
  ·rw[if_pos h] at hok;simp only[Bool.and_eq_true] at hok;exact hok.1.2
  ·rw[if_neg om,if_neg om,if_pos h] at hok;simp only[Bool.and_eq_true] at hok;exact hok.1.1.2
 have:s.a.kind=0:=by
  unfold opdZ at hz;simp only[Bool.and_eq_true,decide_eq_true_eq] at hz;first
   |exact hz.1.1.1.1
   |exact hz.1.1.1
   |exact hz.1.1
   |exact hz.1
   |(revert hz;simp;omega)
 unfold zaf;simp[this]
theorem zuj (s : St)(w : World)(hs : s.wf){n : Nat}(hn : n≤16)(h : CoOk n (.st s)): Calls Tryz.prog 150 #[s.v] w (Ret w (.agg (is16 (usedL (.st s))))):=by
 have hk:=h.st s rfl;have hcops:=zl3 hn h;have e1:=zcu;by_cases h1:s.kind=1
 ·have e:usedL (.st s)=rdO (ze s.r)++rd45 s.r++(if whole s.pl=true then [] else [s.pl.loc]):=by
   show rdO (if s.kind=1 then ze s.r else if s.kind=3 then [] else [s.a])++(if s.kind=1 then (if s.r.kind=4∨s.r.kind=5 then [s.r.pl.loc] else [])++(if whole s.pl=true then [] else [s.pl.loc]) else [])=_;rw[if_pos h1,if_pos h1,←List.append_assoc];rfl
  have hops' : ∀ o∈ze s.r,0≤o.pl.loc∧o.pl.loc<16∧(o.kind=1∨o.kind=2∨o.kind=3):=by
   intro o ho;exact hcops o (by show o∈(if s.kind=1 then ze s.r else if s.kind=3 then [] else [s.a]);rw[if_pos h1];exact ho)
  have href:s.r.kind=4∨s.r.kind=5→0≤s.r.pl.loc∧s.r.pl.loc<16:=fun h45=>by have:=h.ref s rfl h1 h45;omega
  have htg:=h.tgt s.pl (by show (if s.kind=1 then some s.pl else none)=_;rw[if_pos h1]);have Hu:=Lib.hid fun (w':World)=>zui s.r w' hs.r hops' href;have Hpa:=Lib.hid (st_a0 hk.1 (Or.inl h1));have k1:(s.kind==1)=true:=by simp[h1]
  rw[e];clear e h1 hops' href h hk hcops hs;generalize (rdO (ze s.r)++rd45 s.r)=L at Hu ⊢;cases hw:whole s.pl
  ·have Hw:=Lib.hid hw;clear hw;obtain⟨kd,⟨lc,de,fi⟩,sr,sa,sl⟩:=s;obtain⟨q,rfl⟩:=Int.eq_ofNat_of_zero_le htg.1;have hq:q<16:=by have:=htg.2;simp only at this;omega
   have hg1:∀ l,(is16 l)[q]?=some (.bool (decide ((q:Int)∈l))):=fun l=>zaj l q hq;have hs1:∀ l,(is16 l).setIfInBounds q (.bool true)=is16 (l++[(q:Int)]):=fun l=>za7 l q hq;clear htg;go_enter Tryz.func150,Tryz.ntmps150
   go_wp2_with (first|(go_at_call 186;((with_reducible refine armV (Hu.out _) ?_);intro x3))|(go_at_call 187;((with_reducible refine(zdg ⟨(q:Int),de,fi⟩ _).mono ?_);rintro e w4 ⟨rfl,hb4⟩;obtain⟨x4,rfl⟩:=za hb4;clear hb4;rw[Hw.out]))|(go_at_call 129;((with_reducible refine(zu sa _).mono ?_);rintro e w6 ⟨rfl,hb6⟩;obtain⟨x6,rfl⟩:=za hb6;clear hb6;rw[Hpa.out])))
   ((try simp only[Exit.inBlock,Exit.then]);refine zf (by simp only[results,Tryz.results150];go_simp;rfl) rfl gw ?_)
   rfl
  ·have Hw:=Lib.hid hw;clear hw;go_enter Tryz.func150,Tryz.ntmps150
   go_wp2_with (first|(go_at_call 186;((with_reducible refine armV (Hu.out _) ?_);intro x3))|(go_at_call 187;((with_reducible refine(zdg s.pl _).mono ?_);rintro e w4 ⟨rfl,hb4⟩;obtain⟨x4,rfl⟩:=za hb4;clear hb4;rw[Hw.out]))|(go_at_call 129;((with_reducible refine(zu s.a _).mono ?_);rintro e w6 ⟨rfl,hb6⟩;obtain⟨x6,rfl⟩:=za hb6;clear hb6;rw[Hpa.out])))
   ((try simp only[Exit.inBlock,Exit.then]);refine zf (by simp only[results,Tryz.results150];go_simp;rfl) rfl gw ?_)
   simp
 ·have k1:(s.kind==1)=false:=by simp[h1]
  by_cases h3:s.kind=3
  ·have e:usedL (.st s) = []:=by
    show rdO (if s.kind=1 then ze s.r else if s.kind=3 then [] else [s.a])++(if s.kind=1 then _ else [])=_;rw[if_neg h1,if_pos h3,if_neg h1];rfl
   have Hpa:=Lib.hid (st_a0 hk.1 (Or.inr h3));rw[e];clear e h1 h3 h hk hcops hs;go_enter Tryz.func150,Tryz.ntmps150
   go_wp2_with (first|(go_at_call 129;((with_reducible refine(zu s.a _).mono ?_);rintro e w6 ⟨rfl,hb6⟩;obtain⟨x6,rfl⟩:=za hb6;clear hb6;rw[Hpa.out])))
   ((try simp only[Exit.inBlock,Exit.then]);refine zf (by simp only[results,Tryz.results150];go_simp;rfl) rfl gw ?_)
   rfl
  ·have e:usedL (.st s)=rdO1 s.a:=by
    show rdO (if s.kind=1 then ze s.r else if s.kind=3 then [] else [s.a])++(if s.kind=1 then _ else [])=_;rw[if_neg h1,if_neg h3,if_neg h1,List.append_nil];unfold rdO;simp
   have hao:=hcops s.a (by show s.a∈(if s.kind=1 then ze s.r else if s.kind=3 then [] else [s.a]);rw[if_neg h1,if_neg h3];simp);rw[e];clear e h1 h3 h hk hcops hs;cases hka:(s.a.kind==1)
   ·have Hr1:Hid (rdO1 s.a = [s.a.pl.loc]):=Lib.hid (by unfold rdO1;rw[if_neg (by simpa using hka)]);have Hpa:Hid (zaf s.a=true):=Lib.hid (by rw[zby hao.2.2,hka];rfl);rw[Hr1.out];clear hka Hr1;obtain⟨kd,sp,sr,⟨ok,on,⟨lc,de,fi⟩⟩,sl⟩:=s;obtain⟨q,rfl⟩:=Int.eq_ofNat_of_zero_le hao.1;have hq:q<16:=by have:=hao.2.1;simp only at this;omega
    have hg1:∀ l,(is16 l)[q]?=some (.bool (decide ((q:Int)∈l))):=fun l=>zaj l q hq;have hs1:∀ l,(is16 l).setIfInBounds q (.bool true)=is16 (l++[(q:Int)]):=fun l=>za7 l q hq;clear hao;go_enter Tryz.func150,Tryz.ntmps150
    go_wp2_with (first|(go_at_call 129;((with_reducible refine(zu ⟨ok,on,⟨(q:Int),de,fi⟩⟩ _).mono ?_);rintro e w6 ⟨rfl,hb6⟩;obtain⟨x6,rfl⟩:=za hb6;clear hb6;rw[Hpa.out])))
    ((try simp only[Exit.inBlock,Exit.then]);refine zf (by simp only[results,Tryz.results150];go_simp;rfl) rfl gw ?_)
    rfl
   ·have Hr1:Hid (rdO1 s.a = []):=Lib.hid (by unfold rdO1;rw[if_pos (by simpa using hka)]);have Hpa:Hid (zaf s.a=false):=Lib.hid (by rw[zby hao.2.2,hka];rfl);rw[Hr1.out];clear hka Hr1 hao;go_enter Tryz.func150,Tryz.ntmps150
    go_wp2_with (first|(go_at_call 129;((with_reducible refine(zu s.a _).mono ?_);rintro e w6 ⟨rfl,hb6⟩;obtain⟨x6,rfl⟩:=za hb6;clear hb6;rw[Hpa.out])))
    ((try simp only[Exit.inBlock,Exit.then]);refine zf (by simp only[results,Tryz.results150];go_simp;rfl) rfl gw ?_)
    rfl
theorem zuk (j : Ju)(av : Value)(w : World)(hj : j.wf){F0 : Nat→Prop}(hav0 : Sl F0 w av j.args){n0 : Nat}(hn0 : n0≤16)(h : CoOk n0 (.ju j)): Calls Tryz.prog 151 #[j.v av] w (Ret w (.agg (is16 (usedL (.ju j))))):=by
 obtain⟨a,n,cap,rfl,Hn,hm,hcap,hcm,hav⟩:=hav0.old.open;have Ho:=Lib.hid (zl3 hn0 h);have e1:=zcu;have hr:usedL (.ju j)=rdO (zs j)++(if j.kind=4 then (if whole j.dest=true then [] else [j.dest.loc]) else if j.kind=3 then [0] else []):=rfl;have htg:j.kind=4→0≤j.dest.loc∧j.dest.loc<16:=fun h4=>by
  have:=h.tgt j.dest (by show (if j.kind=4 then some j.dest else none)=_;rw[if_pos h4]);omega
 rw[hr];clear hr h;have Ho:Hid (∀ o∈zs j,0≤o.pl.loc∧o.pl.loc<16∧(o.kind=1∨o.kind=2∨o.kind=3)):=Ho;by_cases hA:j.kind=4∧whole j.dest=false
 ·have Hrd:Hid ((if j.kind=4 then (if whole j.dest=true then [] else [j.dest.loc]) else if j.kind=3 then [0] else []) = [j.dest.loc]):=Lib.hid (by rw[if_pos hA.1,hA.2];simp);have htg:=htg hA.1;have k4:(j.kind==4)=true:=by simp[hA.1]
  have k3:(j.kind==3)=false:=by simp[hA.1]
  have Hw:=Lib.hid hA.2;rw[Hrd.out];clear Hrd hA;obtain⟨kd,ja,jf,nx,el,ar,⟨dl,dd,df⟩⟩:=j;obtain⟨p,rfl⟩:=Int.eq_ofNat_of_zero_le htg.1;have hp:p<16:=by have:=htg.2;simp only at this;omega
  clear htg;go_enter Tryz.func151,Tryz.ntmps151
  go_wp2_with (first|(go_at_call 130;((with_reducible refine armS (zdc (⟨kd,ja,jf,nx,el,ar,⟨(p:Int),dd,df⟩⟩:Ju) _ _ hj hav.m) ?_);intro a3 n3 cap3 x3 Hn3 hm3 hcap3 hcm3 hs3)));clear e1;have Hall:Hid (∀ l' : List Int,Sl (fun k=>k≠((w.alloc (bxJu (⟨kd,ja,jf,nx,el,ar,⟨(p:Int),dd,df⟩⟩:Ju) (.slice a n cap))).alloc (.cells (is16 []) 68)).heap.size) (ext (((w.alloc (bxJu (⟨kd,ja,jf,nx,el,ar,⟨(p:Int),dd,df⟩⟩:Ju) (.slice a n cap))).alloc (.cells (is16 []) 68)).alloc (.cells (is16 l') 68)) x3) (.slice a3 n3 cap3) (zs (⟨kd,ja,jf,nx,el,ar,⟨(p:Int),dd,df⟩⟩:Ju))):=Lib.hid fun l'=>(hs3.wide (F':=fun k=>k≠((w.alloc (bxJu (⟨kd,ja,jf,nx,el,ar,⟨(p:Int),dd,df⟩⟩:Ju) (.slice a n cap))).alloc (.cells (is16 []) 68)).heap.size) (by intro k _ hF;rcases hF with hF|hF;(simp[Old] at hF ⊢;omega);(simp at hF ⊢;omega))).swap0 (by simp);clear hs3;go_loopw [5] (fun ti wr=>∃ (k:Nat) (l' : List Int),k≤n3∧ti = .int .i64 k∧Hid (l'=rdO ((zs (⟨kd,ja,jf,nx,el,ar,⟨(p:Int),dd,df⟩⟩:Ju)).take k))∧Grow (ext (((w.alloc (bxJu (⟨kd,ja,jf,nx,el,ar,⟨(p:Int),dd,df⟩⟩:Ju) (.slice a n cap))).alloc (.cells (is16 []) 68)).alloc (.cells (is16 l') 68)) x3) wr) (fun ti _=>n3 - (intOf ti).toNat)
  case atStart=>exact⟨0,[],Nat.zero_le _,rfl,Lib.hid rfl,gw⟩
  case round =>
   obtain⟨k,l',hk,rfl,Hl,hgr⟩:=hrel;obtain⟨z,rfl⟩:=za hgr;by_cases hlt:k<n3
   ·have hsz:=(Hall.out l').mono (zw _ z);obtain⟨b_o,off_o,o,rfl,⟨Hg_o,hl_o,hw_o,c_o0,c_o1,c_o2,c_o3,c_o4,r_o0,r_o1⟩⟩:=hsz.opd k hlt;have Hsn:=Lib.hid (zea Hg_o);have Hoo:=Lib.hid (Ho.out o (List.mem_of_getElem? Hg_o.out));cases hk1:(o.kind==1)
    ·have Hp1:Hid (rdO1 o = [o.pl.loc]):=Lib.hid (by unfold rdO1;rw[if_neg (by simpa using hk1)]);have Hpd:Hid (zaf o=true):=Lib.hid (by rw[zby Hoo.out.2.2,hk1];rfl);have hlb:=Hoo.out;obtain⟨ok,on,⟨lc,de,fi⟩⟩:=o;obtain⟨q,rfl⟩:=Int.eq_ofNat_of_zero_le hlb.1;have hq:q<16:=by have:=hlb.2.1;simp only at this;omega
     have hg1:∀ l,(is16 l)[q]?=some (.bool (decide ((q:Int)∈l))):=fun l=>zaj l q hq;have hs1:∀ l,(is16 l).setIfInBounds q (.bool true)=is16 (l++[(q:Int)]):=fun l=>za7 l q hq;clear hlb;go_wp2_with (first|(go_at_call 129;((with_reducible refine(zu ⟨ok,on,⟨(q:Int),de,fi⟩⟩ _).mono ?_);rintro e w6 ⟨rfl,hb6⟩;obtain⟨x6,rfl⟩:=za hb6;clear hb6;rw[Hpd.out])));go_roundw
     case rel=>exact⟨k+1,l'++[(q:Int)],by omega,by go_num,Lib.hid (by rw[Hsn.out,Hp1.out,Hl.out]),gw⟩
     case measure=>exact me
    ·have Hp1:Hid (rdO1 o = []):=Lib.hid (by unfold rdO1;rw[if_pos (by simpa using hk1)]);have Hpd:Hid (zaf o=false):=Lib.hid (by rw[zby Hoo.out.2.2,hk1];rfl);go_wp2_with (first|(go_at_call 129;((with_reducible refine(zu o _).mono ?_);rintro e w6 ⟨rfl,hb6⟩;obtain⟨x6,rfl⟩:=za hb6;clear hb6;rw[Hpd.out])));go_roundw
     case rel=>exact⟨k+1,l',by omega,by go_num,Lib.hid (by rw[Hsn.out,Hp1.out,List.append_nil,Hl.out]),gw⟩
     case measure=>exact me
   ·have Hl2:Hid (l'=rdO (zs (⟨kd,ja,jf,nx,el,ar,⟨(p:Int),dd,df⟩⟩:Ju))):=Lib.hid (by rw[Hl.out,List.take_of_length_le (by have:=Hn3.out;omega)]);clear Hl;have hg1:∀ l,(is16 l)[p]?=some (.bool (decide ((p:Int)∈l))):=fun l=>zaj l p hp;have hs1:∀ l,(is16 l).setIfInBounds p (.bool true)=is16 (l++[(p:Int)]):=fun l=>za7 l p hp;go_wp2_with (first|(go_at_call 187;((with_reducible refine(zdg ⟨(p:Int),dd,df⟩ _).mono ?_);rintro e w4 ⟨rfl,hb4⟩;obtain⟨x4,rfl⟩:=za hb4;clear hb4;rw[Hw.out])))
    ((try simp only[Exit.inBlock,Exit.then]);refine zf (by simp only[results,Tryz.results151];go_simp;rfl) rfl gw ?_)
    rw[←Hl2.out]
 ·cases hk3:(j.kind==3)
  ·have Hrd:Hid ((if j.kind=4 then (if whole j.dest=true then [] else [j.dest.loc]) else if j.kind=3 then [0] else []) = []):=Lib.hid (by
    by_cases h4:j.kind=4
    ·have:whole j.dest=true:=by cases hw:whole j.dest;exact absurd ⟨h4,hw⟩ hA;rfl
     rw[if_pos h4,this];rfl
    ·rw[if_neg h4,if_neg (by simpa using hk3)])
   rw[Hrd.out,List.append_nil];have h4w:((j.kind==4)=false)∨((j.kind==4)=true∧whole j.dest=true):=by
    by_cases h4:j.kind=4
    ·right;refine⟨by simp[h4],?_⟩;cases hw:whole j.dest;exact absurd ⟨h4,hw⟩ hA;rfl
    ·left;simp[h4]
   clear hA Hrd htg;rcases h4w with k4|⟨k4,hw⟩
   ·go_enter Tryz.func151,Tryz.ntmps151
    go_wp2_with (first|(go_at_call 130;((with_reducible refine armS (zdc j _ _ hj hav.m) ?_);intro a3 n3 cap3 x3 Hn3 hm3 hcap3 hcm3 hs3)));clear e1;have Hall:Hid (∀ l' : List Int,Sl (fun k=>k≠((w.alloc (bxJu j (.slice a n cap))).alloc (.cells (is16 []) 68)).heap.size) (ext (((w.alloc (bxJu j (.slice a n cap))).alloc (.cells (is16 []) 68)).alloc (.cells (is16 l') 68)) x3) (.slice a3 n3 cap3) (zs j)):=Lib.hid fun l'=>(hs3.wide (F':=fun k=>k≠((w.alloc (bxJu j (.slice a n cap))).alloc (.cells (is16 []) 68)).heap.size) (by intro k _ hF;rcases hF with hF|hF;(simp[Old] at hF ⊢;omega);(simp at hF ⊢;omega))).swap0 (by simp);clear hs3;go_loopw [5] (fun ti wr=>∃ (k:Nat) (l' : List Int),k≤n3∧ti = .int .i64 k∧Hid (l'=rdO ((zs j).take k))∧Grow (ext (((w.alloc (bxJu j (.slice a n cap))).alloc (.cells (is16 []) 68)).alloc (.cells (is16 l') 68)) x3) wr) (fun ti _=>n3 - (intOf ti).toNat)
    case atStart=>exact⟨0,[],Nat.zero_le _,rfl,Lib.hid rfl,gw⟩
    case round =>
     obtain⟨k,l',hk,rfl,Hl,hgr⟩:=hrel;obtain⟨z,rfl⟩:=za hgr;by_cases hlt:k<n3
     ·have hsz:=(Hall.out l').mono (zw _ z);obtain⟨b_o,off_o,o,rfl,⟨Hg_o,hl_o,hw_o,c_o0,c_o1,c_o2,c_o3,c_o4,r_o0,r_o1⟩⟩:=hsz.opd k hlt;have Hsn:=Lib.hid (zea Hg_o);have Hoo:=Lib.hid (Ho.out o (List.mem_of_getElem? Hg_o.out));cases hk1:(o.kind==1)
      ·have Hp1:Hid (rdO1 o = [o.pl.loc]):=Lib.hid (by unfold rdO1;rw[if_neg (by simpa using hk1)]);have Hpd:Hid (zaf o=true):=Lib.hid (by rw[zby Hoo.out.2.2,hk1];rfl);have hlb:=Hoo.out;obtain⟨ok,on,⟨lc,de,fi⟩⟩:=o;obtain⟨q,rfl⟩:=Int.eq_ofNat_of_zero_le hlb.1;have hq:q<16:=by have:=hlb.2.1;simp only at this;omega
       have hg1:∀ l,(is16 l)[q]?=some (.bool (decide ((q:Int)∈l))):=fun l=>zaj l q hq;have hs1:∀ l,(is16 l).setIfInBounds q (.bool true)=is16 (l++[(q:Int)]):=fun l=>za7 l q hq;clear hlb;go_wp2_with (first|(go_at_call 129;((with_reducible refine(zu ⟨ok,on,⟨(q:Int),de,fi⟩⟩ _).mono ?_);rintro e w6 ⟨rfl,hb6⟩;obtain⟨x6,rfl⟩:=za hb6;clear hb6;rw[Hpd.out])));go_roundw
       case rel=>exact⟨k+1,l'++[(q:Int)],by omega,by go_num,Lib.hid (by rw[Hsn.out,Hp1.out,Hl.out]),gw⟩
       case measure=>exact me
      ·have Hp1:Hid (rdO1 o = []):=Lib.hid (by unfold rdO1;rw[if_pos (by simpa using hk1)]);have Hpd:Hid (zaf o=false):=Lib.hid (by rw[zby Hoo.out.2.2,hk1];rfl);go_wp2_with (first|(go_at_call 129;((with_reducible refine(zu o _).mono ?_);rintro e w6 ⟨rfl,hb6⟩;obtain⟨x6,rfl⟩:=za hb6;clear hb6;rw[Hpd.out])));go_roundw
       case rel=>exact⟨k+1,l',by omega,by go_num,Lib.hid (by rw[Hsn.out,Hp1.out,List.append_nil,Hl.out]),gw⟩
       case measure=>exact me
     ·have Hl2:Hid (l'=rdO (zs j)):=Lib.hid (by rw[Hl.out,List.take_of_length_le (by have:=Hn3.out;omega)]);clear Hl;go_wp2_with fail
      ((try simp only[Exit.inBlock,Exit.then]);refine zf (by simp only[results,Tryz.results151];go_simp;rfl) rfl gw ?_)
      rw[←Hl2.out]
   ·have Hw:=Lib.hid hw;clear hw;go_enter Tryz.func151,Tryz.ntmps151
    go_wp2_with (first|(go_at_call 130;((with_reducible refine armS (zdc j _ _ hj hav.m) ?_);intro a3 n3 cap3 x3 Hn3 hm3 hcap3 hcm3 hs3)));clear e1;have Hall:Hid (∀ l' : List Int,Sl (fun k=>k≠((w.alloc (bxJu j (.slice a n cap))).alloc (.cells (is16 []) 68)).heap.size) (ext (((w.alloc (bxJu j (.slice a n cap))).alloc (.cells (is16 []) 68)).alloc (.cells (is16 l') 68)) x3) (.slice a3 n3 cap3) (zs j)):=Lib.hid fun l'=>(hs3.wide (F':=fun k=>k≠((w.alloc (bxJu j (.slice a n cap))).alloc (.cells (is16 []) 68)).heap.size) (by intro k _ hF;rcases hF with hF|hF;(simp[Old] at hF ⊢;omega);(simp at hF ⊢;omega))).swap0 (by simp);clear hs3;go_loopw [5] (fun ti wr=>∃ (k:Nat) (l' : List Int),k≤n3∧ti = .int .i64 k∧Hid (l'=rdO ((zs j).take k))∧Grow (ext (((w.alloc (bxJu j (.slice a n cap))).alloc (.cells (is16 []) 68)).alloc (.cells (is16 l') 68)) x3) wr) (fun ti _=>n3 - (intOf ti).toNat)
    case atStart=>exact⟨0,[],Nat.zero_le _,rfl,Lib.hid rfl,gw⟩
    case round =>
     obtain⟨k,l',hk,rfl,Hl,hgr⟩:=hrel;obtain⟨z,rfl⟩:=za hgr;by_cases hlt:k<n3
     ·have hsz:=(Hall.out l').mono (zw _ z);obtain⟨b_o,off_o,o,rfl,⟨Hg_o,hl_o,hw_o,c_o0,c_o1,c_o2,c_o3,c_o4,r_o0,r_o1⟩⟩:=hsz.opd k hlt;have Hsn:=Lib.hid (zea Hg_o);have Hoo:=Lib.hid (Ho.out o (List.mem_of_getElem? Hg_o.out));cases hk1:(o.kind==1)
      ·have Hp1:Hid (rdO1 o = [o.pl.loc]):=Lib.hid (by unfold rdO1;rw[if_neg (by simpa using hk1)]);have Hpd:Hid (zaf o=true):=Lib.hid (by rw[zby Hoo.out.2.2,hk1];rfl);have hlb:=Hoo.out;obtain⟨ok,on,⟨lc,de,fi⟩⟩:=o;obtain⟨q,rfl⟩:=Int.eq_ofNat_of_zero_le hlb.1;have hq:q<16:=by have:=hlb.2.1;simp only at this;omega
       have hg1:∀ l,(is16 l)[q]?=some (.bool (decide ((q:Int)∈l))):=fun l=>zaj l q hq;have hs1:∀ l,(is16 l).setIfInBounds q (.bool true)=is16 (l++[(q:Int)]):=fun l=>za7 l q hq;clear hlb;go_wp2_with (first|(go_at_call 129;((with_reducible refine(zu ⟨ok,on,⟨(q:Int),de,fi⟩⟩ _).mono ?_);rintro e w6 ⟨rfl,hb6⟩;obtain⟨x6,rfl⟩:=za hb6;clear hb6;rw[Hpd.out])));go_roundw
       case rel=>exact⟨k+1,l'++[(q:Int)],by omega,by go_num,Lib.hid (by rw[Hsn.out,Hp1.out,Hl.out]),gw⟩
       case measure=>exact me
      ·have Hp1:Hid (rdO1 o = []):=Lib.hid (by unfold rdO1;rw[if_pos (by simpa using hk1)]);have Hpd:Hid (zaf o=false):=Lib.hid (by rw[zby Hoo.out.2.2,hk1];rfl);go_wp2_with (first|(go_at_call 129;((with_reducible refine(zu o _).mono ?_);rintro e w6 ⟨rfl,hb6⟩;obtain⟨x6,rfl⟩:=za hb6;clear hb6;rw[Hpd.out])));go_roundw
       case rel=>exact⟨k+1,l',by omega,by go_num,Lib.hid (by rw[Hsn.out,Hp1.out,List.append_nil,Hl.out]),gw⟩
       case measure=>exact me
     ·have Hl2:Hid (l'=rdO (zs j)):=Lib.hid (by rw[Hl.out,List.take_of_length_le (by have:=Hn3.out;omega)]);clear Hl;go_wp2_with (first|(go_at_call 187;((with_reducible refine(zdg j.dest _).mono ?_);rintro e w4 ⟨rfl,hb4⟩;obtain⟨x4,rfl⟩:=za hb4;clear hb4;rw[Hw.out])))
      ((try simp only[Exit.inBlock,Exit.then]);refine zf (by simp only[results,Tryz.results151];go_simp;rfl) rfl gw ?_)
      rw[←Hl2.out]
  ·have Hrd:Hid ((if j.kind=4 then (if whole j.dest=true then [] else [j.dest.loc]) else if j.kind=3 then [0] else []) = [((0:Nat):Int)]):=Lib.hid (by
    have h3:j.kind=3:=by simpa using hk3
    rw[if_neg om,if_pos h3];rfl)
   rw[Hrd.out];have k4:(j.kind==4)=false:=by simp at hk3 ⊢;omega
   clear hA Hrd htg;go_enter Tryz.func151,Tryz.ntmps151
   go_wp2_with (first|(go_at_call 130;((with_reducible refine armS (zdc j _ _ hj hav.m) ?_);intro a3 n3 cap3 x3 Hn3 hm3 hcap3 hcm3 hs3)));clear e1;have Hall:Hid (∀ l' : List Int,Sl (fun k=>k≠((w.alloc (bxJu j (.slice a n cap))).alloc (.cells (is16 []) 68)).heap.size) (ext (((w.alloc (bxJu j (.slice a n cap))).alloc (.cells (is16 []) 68)).alloc (.cells (is16 l') 68)) x3) (.slice a3 n3 cap3) (zs j)):=Lib.hid fun l'=>(hs3.wide (F':=fun k=>k≠((w.alloc (bxJu j (.slice a n cap))).alloc (.cells (is16 []) 68)).heap.size) (by intro k _ hF;rcases hF with hF|hF;(simp[Old] at hF ⊢;omega);(simp at hF ⊢;omega))).swap0 (by simp);clear hs3;go_loopw [5] (fun ti wr=>∃ (k:Nat) (l' : List Int),k≤n3∧ti = .int .i64 k∧Hid (l'=rdO ((zs j).take k))∧Grow (ext (((w.alloc (bxJu j (.slice a n cap))).alloc (.cells (is16 []) 68)).alloc (.cells (is16 l') 68)) x3) wr) (fun ti _=>n3 - (intOf ti).toNat)
   case atStart=>exact⟨0,[],Nat.zero_le _,rfl,Lib.hid rfl,gw⟩
   case round =>
    obtain⟨k,l',hk,rfl,Hl,hgr⟩:=hrel;obtain⟨z,rfl⟩:=za hgr;by_cases hlt:k<n3
    ·have hsz:=(Hall.out l').mono (zw _ z);obtain⟨b_o,off_o,o,rfl,⟨Hg_o,hl_o,hw_o,c_o0,c_o1,c_o2,c_o3,c_o4,r_o0,r_o1⟩⟩:=hsz.opd k hlt;have Hsn:=Lib.hid (zea Hg_o);have Hoo:=Lib.hid (Ho.out o (List.mem_of_getElem? Hg_o.out));cases hk1:(o.kind==1)
     ·have Hp1:Hid (rdO1 o = [o.pl.loc]):=Lib.hid (by unfold rdO1;rw[if_neg (by simpa using hk1)]);have Hpd:Hid (zaf o=true):=Lib.hid (by rw[zby Hoo.out.2.2,hk1];rfl);have hlb:=Hoo.out;obtain⟨ok,on,⟨lc,de,fi⟩⟩:=o;obtain⟨q,rfl⟩:=Int.eq_ofNat_of_zero_le hlb.1;have hq:q<16:=by have:=hlb.2.1;simp only at this;omega
      have hg1:∀ l,(is16 l)[q]?=some (.bool (decide ((q:Int)∈l))):=fun l=>zaj l q hq;have hs1:∀ l,(is16 l).setIfInBounds q (.bool true)=is16 (l++[(q:Int)]):=fun l=>za7 l q hq;clear hlb;go_wp2_with (first|(go_at_call 129;((with_reducible refine(zu ⟨ok,on,⟨(q:Int),de,fi⟩⟩ _).mono ?_);rintro e w6 ⟨rfl,hb6⟩;obtain⟨x6,rfl⟩:=za hb6;clear hb6;rw[Hpd.out])));go_roundw
      case rel=>exact⟨k+1,l'++[(q:Int)],by omega,by go_num,Lib.hid (by rw[Hsn.out,Hp1.out,Hl.out]),gw⟩
      case measure=>exact me
     ·have Hp1:Hid (rdO1 o = []):=Lib.hid (by unfold rdO1;rw[if_pos (by simpa using hk1)]);have Hpd:Hid (zaf o=false):=Lib.hid (by rw[zby Hoo.out.2.2,hk1];rfl);go_wp2_with (first|(go_at_call 129;((with_reducible refine(zu o _).mono ?_);rintro e w6 ⟨rfl,hb6⟩;obtain⟨x6,rfl⟩:=za hb6;clear hb6;rw[Hpd.out])));go_roundw
      case rel=>exact⟨k+1,l',by omega,by go_num,Lib.hid (by rw[Hsn.out,Hp1.out,List.append_nil,Hl.out]),gw⟩
      case measure=>exact me
    ·have Hl2:Hid (l'=rdO (zs j)):=Lib.hid (by rw[Hl.out,List.take_of_length_le (by have:=Hn3.out;omega)]);clear Hl;have hg1:∀ l,(is16 l)[0]?=some (.bool (decide (((0:Nat):Int)∈l))):=fun l=>zaj l 0 (by decide);have hs1:∀ l,(is16 l).setIfInBounds 0 (.bool true)=is16 (l++[((0:Nat):Int)]):=fun l=>za7 l 0 (by decide);go_wp2_with fail
     ((try simp only[Exit.inBlock,Exit.then]);refine zf (by simp only[results,Tryz.results151];go_simp;rfl) rfl gw ?_)
     rw[←Hl2.out];rfl
theorem zim (f : Fn)(v1 v2 : Value)(w : World){F F' : Nat→Prop}(h1 : Sl F w v1 f.locals)(h2 : Sl F' w v2 f.blocks)(hok : fnErr f=0){q b i : Nat}{x : Bk}(hp : PtAt f q b i x):
  Calls Tryz.prog 102 #[f.v v1 v2,.int .i64 (q:Nat)] w (Ret w (.agg (is16 (usedL (coF f q))))):=by
 have hwf:=hp.wf h2;obtain⟨a,n,cap,rfl,Hn,hm,hcap,hcm,h1⟩:=h1.open;obtain⟨a2,n2,cap2,rfl,Hn2,hm2,hcap2,hcm2,h2⟩:=h2.open;have Hok:=Lib.hid hok;have Hcok:=Lib.hid (za5 hok hp.lt);have h16:=(zt hok).2.2;have e1:=zcu;clear hok;rcases hp.cases with ⟨s,hs,hc⟩|hc
 ·rw[hc] at hwf Hcok ⊢;have Hc:=Lib.hid hc;have hws:s.wf:=hwf;clear hc hs hwf;go_enter Tryz.func102,Tryz.ntmps102
  go_wp2_with (first|(go_at_call 95;((with_reducible refine armV (zk f _ _ _ h1.m h2.m Hok.out hp Hc) ?_);intro x3))|(go_at_call 150;((with_reducible refine armV (zuj s _ hws h16 Hcok.out) ?_);intro x4)))
  ((try simp only[Exit.inBlock,Exit.then]);refine zf (by simp only[results,Tryz.results102];go_simp;rfl) rfl gw ?_)
  rfl
 ·rw[hc] at hwf Hcok ⊢;have Hc:=Lib.hid hc;have hwj:x.jump.wf:=hwf;clear hc hwf;go_enter Tryz.func102,Tryz.ntmps102
  go_wp2_with (first|(go_at_call 95;((with_reducible refine armV (zai f _ _ _ h1.m h2.m Hok.out hp Hc) ?_);intro x3))|(go_at_call 147;((with_reducible refine(zb2 f _ _ _ h1.m h2.m Hok.out hp).mono ?_);rintro e w4 ⟨v4,rfl,⟨av,rfl,hav⟩,hb4⟩;obtain⟨x4,rfl⟩:=za hb4;clear hb4;obtain⟨a4,n4,cap4,rfl,Hn4,hm4,hcap4,hcm4,hav⟩:=hav.open))|(go_at_call 151;((with_reducible refine armV (zuk x.jump _ _ hwj hav.m h16 Hcok.out) ?_);intro x5)))
  ((try simp only[Exit.inBlock,Exit.then]);refine zf (by simp only[results,Tryz.results102];go_simp;rfl) rfl gw ?_)
  rfl
set_option linter.unusedVariables false
def inc (l : List Int)(k : Nat): List Int:=(List.range k).flatMap fun q=>if ((q : Nat) : Int)∈l then [((q : Nat) : Int)] else []
theorem zp9 (l : List Int)(k : Nat): inc l (k+1)=inc l k++(if ((k : Nat) : Int)∈l then [((k : Nat) : Int)] else []):=zb1 _ _
theorem z0r (l : List Int)(k : Nat)(x : Int): x∈inc l k↔∃ q : Nat,q<k∧x=q∧(q : Int)∈l:=by
 unfold inc;rw[List.mem_flatMap];constructor
 ·rintro⟨q,hq,h⟩;split at h
  ·rename_i hl;rw[List.mem_singleton] at h;exact⟨q,List.mem_range.1 hq,h,hl⟩
  ·cases h
 ·rintro⟨q,hq,rfl,hl⟩;exact⟨q,List.mem_range.2 hq,by rw[if_pos hl];simp⟩
theorem zh7 (l : List Int): ∀ k,(inc l k).length≤k
 |0=>by simp[inc]
 |k+1=>by rw[zp9,List.length_append];have:=zh7 l k;split<;>simp<;>omega
theorem zjd (l : List Int)(w : World): Calls Tryz.prog 248 #[.agg (is16 l)] w (RetP w fun v w'=>Sl (Fresh w) w' v (inc l 16)):=by
 have hix:∀ (q:Nat) (hq:q<16) (w' : World),(Instr.index 68 (.agg (is16 l)) (.int .i64 (q:Nat))).run Tryz.prog w' = .ok (.bool (decide ((q:Int)∈l))) w':=fun q hq w'=>zdo w' l q hq;have Hix:=Lib.hid hix;clear hix;go_enter Tryz.func248,Tryz.ntmps248
 go_wp2_with fail;go_loopw [3,7] (fun tv ti wr=>∃ k:Nat,k≤16∧ti = .int .i64 k∧Grow (w.alloc (.cells (is16 l) 68)) wr∧Own (fun _=>False) (w.heap.size+1) 3 wr tv (inc l k)) (fun _ ti _=>16 - (intOf ti).toNat)
 case atStart=>exact⟨0,Nat.zero_le _,rfl,gw,Own.nil _ _ _ _⟩
 case round =>
  obtain⟨k,hk,rfl,hgr,hown⟩:=hrel;obtain⟨z,rfl⟩:=za hgr;by_cases hlt:k<16
  ·have hix:=fun w'=>Hix.out k hlt w';have Hsn:=Lib.hid (zp9 l k);have hil:=zh7 l k;have h64:I64 (k:Int):=⟨by omega,by omega⟩
   obtain⟨c,Hc⟩:∃ c,Hid (decide ((k:Int)∈l)=c):=⟨_,Lib.hid rfl⟩
   rw[Hc.out] at hix;cases c
   ·have Hn:Hid (inc l (k+1)=inc l k):=Lib.hid (by rw[Hsn.out,if_neg (by simpa using Hc.out),List.append_nil]);go_wp2_with fail;go_roundw
    case rel=>exact⟨k+1,by omega,by go_num,gw,by rw[Hn.out];exact hown.mono gw⟩
    case measure=>exact me
   ·have Hn:Hid (inc l (k+1)=inc l k++[(k:Int)]):=Lib.hid (by rw[Hsn.out,if_pos (by simpa using Hc.out)]);go_wp2_with (first|(at_builtin;go_must (refine zh (α:=Int) zau rfl rfl rfl (hown) gw (by first|exact Nat.le_refl _|(simp;done)|(simp;omega)) (by first|(simp;done)|(simp;omega)) rfl (y:=(k:Int)) (Gy:=fun _=>False) (⟨rfl,h64⟩) (fun _ h=>h.elim) cel (by simp[Value.oneCell']) om om ?_);intro tv1 x1 ho1 hsz1 hagr1));go_roundw
    case rel=>exact⟨k+1,by omega,by go_num,gw,by rw[Hn.out];exact ho1⟩
    case measure=>exact me
  ·obtain rfl:k=16:=om;go_wp2_with fail;refine zd (by simp only[results,Tryz.results248];go_simp<;>rfl) rfl gw ?_;exact(hown.sl.wide (fun b hb hF=>by rcases hF with hF|hF;exact hF.elim;exact Or.inr (by first|omega|(simp at hF;omega)))).mono gw
theorem zwa (j : Ju)(av : Value)(w : World)(hj : j.wf){F0 : Nat→Prop}(hav0 : Sl F0 w av j.args){n0 : Nat}(hn0 : n0≤16)(h : CoOk n0 (.ju j)): Calls Tryz.prog 246 #[j.v av,.bool false] w (Ret w (.agg (is16 (rdO (zs j))))):=by
 obtain⟨a,n,cap,rfl,Hn,hm,hcap,hcm,hav⟩:=hav0.old.open;have e1:=zcu;have hja:=hj.a;have Ho:Hid (∀ o∈zs j,0≤o.pl.loc∧o.pl.loc<16∧(o.kind=1∨o.kind=2∨o.kind=3)):=Lib.hid (zl3 hn0 h);clear h;by_cases h2:j.kind=2
 ·have e:zs j = [j.a]:=by unfold zs;rw[if_pos h2]
  rw[e] at Ho ⊢;have k2:(j.kind==2)=true:=by simp[h2]
  clear e h2;cases hk1:(j.a.kind==1)
  ·have Hr:Hid (rdO [j.a] = [j.a.pl.loc]):=Lib.hid (by unfold rdO rdO1;simp;simpa using hk1);rw[Hr.out];clear Hr;have hlb:=Ho.out j.a (by simp);clear Ho hja;obtain⟨kd,⟨ok,on,⟨lc,de,fi⟩⟩,jf,nx,el,ar,dd⟩:=j;obtain⟨q,rfl⟩:=Int.eq_ofNat_of_zero_le hlb.1;have hq:q<16:=by have:=hlb.2.1;simp only at this;omega
   have hg1:∀ l,(is16 l)[q]?=some (.bool (decide ((q:Int)∈l))):=fun l=>zaj l q hq;have hs1:∀ l,(is16 l).setIfInBounds q (.bool true)=is16 (l++[(q:Int)]):=fun l=>za7 l q hq;clear hlb;go_enter Tryz.func246,Tryz.ntmps246
   go_wp2_with fail;go_step3;go_wp2_with fail;go_step3;go_wp2_with fail;clear e1;go_loopw [19] (fun ti wr=>∃ (k:Nat) (l' : List Int),Hid ((k=0∧l' = [])∨(k=1∧l' = [(q:Int)]))∧ti = .int .i64 k∧Grow ((((w.alloc (bxJu (⟨kd,⟨ok,on,⟨(q:Int),de,fi⟩⟩,jf,nx,el,ar,dd⟩:Ju) (.slice a n cap))).alloc (.cells (is16 []) 68)).alloc (.cells (is16 l') 68)).alloc (bxOpd (⟨ok,on,⟨(q:Int),de,fi⟩⟩:Opd))) wr) (fun ti _=>1 - (intOf ti).toNat)
   case atStart=>exact⟨0,[],Lib.hid (Or.inl ⟨rfl,rfl⟩),rfl,gw⟩
   case round =>
    obtain⟨k,l',Hk,rfl,hgr⟩:=hrel;obtain⟨z,rfl⟩:=za hgr;rcases Hk.out with ⟨rfl,rfl⟩|⟨rfl,rfl⟩
    ·go_wp2_with fail;go_roundw
     case rel=>exact⟨1,_,Lib.hid (Or.inr ⟨rfl,rfl⟩),by go_num,gw⟩
     case measure=>simp[intOf]
    ·go_wp2_with fail
     ((try simp only[Exit.inBlock,Exit.then]);refine zf (by simp only[results,Tryz.results246];go_simp;rfl) rfl gw ?_)
     rfl
  ·have Hr:Hid (rdO [j.a] = []):=Lib.hid (by unfold rdO rdO1;simp;simpa using hk1);rw[Hr.out];clear Hr Ho hja;obtain⟨kd,⟨ok,on,⟨lc,de,fi⟩⟩,jf,nx,el,ar,dd⟩:=j;go_enter Tryz.func246,Tryz.ntmps246
   go_wp2_with fail;go_step3;go_wp2_with fail;go_step3;go_wp2_with fail;clear e1;go_loopw [19] (fun ti wr=>∃ (k:Nat) (l' : List Int),Hid ((k=0∧l' = [])∨(k=1∧l' = []))∧ti = .int .i64 k∧Grow ((((w.alloc (bxJu (⟨kd,⟨ok,on,⟨lc,de,fi⟩⟩,jf,nx,el,ar,dd⟩:Ju) (.slice a n cap))).alloc (.cells (is16 []) 68)).alloc (.cells (is16 l') 68)).alloc (bxOpd (⟨ok,on,⟨lc,de,fi⟩⟩:Opd))) wr) (fun ti _=>1 - (intOf ti).toNat)
   case atStart=>exact⟨0,[],Lib.hid (Or.inl ⟨rfl,rfl⟩),rfl,gw⟩
   case round =>
    obtain⟨k,l',Hk,rfl,hgr⟩:=hrel;obtain⟨z,rfl⟩:=za hgr;rcases Hk.out with ⟨rfl,rfl⟩|⟨rfl,rfl⟩
    ·go_wp2_with fail;go_roundw
     case rel=>exact⟨1,_,Lib.hid (Or.inr ⟨rfl,rfl⟩),by go_num,gw⟩
     case measure=>simp[intOf]
    ·go_wp2_with fail
     ((try simp only[Exit.inBlock,Exit.then]);refine zf (by simp only[results,Tryz.results246];go_simp;rfl) rfl gw ?_)
     rfl
 ·have e:zs j=j.args:=by unfold zs;rw[if_neg h2]
  rw[e] at Ho ⊢;have k2:(j.kind==2)=false:=by simp[h2]
  clear e h2;go_enter Tryz.func246,Tryz.ntmps246
  go_wp2_with fail;go_step3;go_wp2_with fail;go_step3;go_wp2_with fail;clear e1;have hs3:∀ l' : List Int,Sl (Old w) (((w.alloc (bxJu j (.slice a n cap))).alloc (.cells (is16 []) 68)).alloc (.cells (is16 l') 68)) (.slice a n cap) j.args:=fun l'=>hav.mono gw;go_loopw [19] (fun ti wr=>∃ (k:Nat) (l' : List Int),k≤n∧ti = .int .i64 k∧Hid (l'=rdO (j.args.take k))∧Grow (((w.alloc (bxJu j (.slice a n cap))).alloc (.cells (is16 []) 68)).alloc (.cells (is16 l') 68)) wr) (fun ti _=>n - (intOf ti).toNat)
  case atStart=>exact⟨0,[],Nat.zero_le _,rfl,Lib.hid rfl,gw⟩
  case round =>
   obtain⟨k,l',hk,rfl,Hl,hgr⟩:=hrel;obtain⟨z,rfl⟩:=za hgr;by_cases hlt:k<n
   ·have hsz:=(hs3 l').mono (zw _ z);obtain⟨b_o,off_o,o,rfl,⟨Hg_o,hl_o,hw_o,c_o0,c_o1,c_o2,c_o3,c_o4,r_o0,r_o1⟩⟩:=hsz.opd k hlt;have Hsn:=Lib.hid (zea Hg_o);have Hoo:=Lib.hid (Ho.out o (List.mem_of_getElem? Hg_o.out));cases hk1:(o.kind==1)
    ·have Hp1:Hid (rdO1 o = [o.pl.loc]):=Lib.hid (by unfold rdO1;rw[if_neg (by simpa using hk1)]);have hlb:=Hoo.out;obtain⟨ok,on,⟨lc,de,fi⟩⟩:=o;obtain⟨q,rfl⟩:=Int.eq_ofNat_of_zero_le hlb.1;have hq:q<16:=by have:=hlb.2.1;simp only at this;omega
     have hg1:∀ l,(is16 l)[q]?=some (.bool (decide ((q:Int)∈l))):=fun l=>zaj l q hq;have hs1:∀ l,(is16 l).setIfInBounds q (.bool true)=is16 (l++[(q:Int)]):=fun l=>za7 l q hq;clear hlb;go_wp2_with fail;go_roundw
     case rel=>exact⟨k+1,l'++[(q:Int)],by omega,by go_num,Lib.hid (by rw[Hsn.out,Hp1.out,Hl.out]),gw⟩
     case measure=>exact me
    ·have Hp1:Hid (rdO1 o = []):=Lib.hid (by unfold rdO1;rw[if_pos (by simpa using hk1)]);go_wp2_with fail;go_roundw
     case rel=>exact⟨k+1,l',by omega,by go_num,Lib.hid (by rw[Hsn.out,Hp1.out,List.append_nil,Hl.out]),gw⟩
     case measure=>exact me
   ·have Hl2:Hid (l'=rdO j.args):=Lib.hid (by rw[Hl.out,List.take_of_length_le (by have:=Hn.out;omega)]);clear Hl;go_wp2_with fail
    ((try simp only[Exit.inBlock,Exit.then]);refine zf (by simp only[results,Tryz.results246];go_simp;rfl) rfl gw ?_)
    rw[←Hl2.out]
theorem ztj (j : Ju): usedL (.ju j)=rdO (zs j)++(if j.kind=4 then (if whole j.dest=true then [] else [j.dest.loc]) else if j.kind=3 then [0] else []):=rfl
theorem zyo {j : Ju}(h0 : juErr j=0)(h : j.kind≠4): whole j.dest=true:=by
 have hok:=(zal _).1 h0;have hz:plZ j.dest=true:=by unfold juOk juPre at hok;grind
 unfold plZ at hz;have:=of_decide_eq_true hz
 unfold whole;rw[this.2.1,this.2.2];rfl
theorem zwb (j : Ju)(av : Value)(w : World)(hj : j.wf){F0 : Nat→Prop}(hav0 : Sl F0 w av j.args){n0 : Nat}(hn0 : n0≤16)(h : CoOk n0 (.ju j)):
  Calls Tryz.prog 228 #[j.v av] w (RetP w fun v w'=>∃ (u:Value) (l:List Int),v = .tuple #[u,.int .i64 0]∧Sl (Fresh w) w' u l∧(∀ x,x∈l↔x∈usedL (.ju j))∧l.length≤16):=by
 obtain⟨a,n,cap,rfl,Hn,hm,hcap,hcm,hav⟩:=hav0.old.open;have h0:=(h.ju j rfl).1;have e1:=zcu;have H0:=Lib.hid h0;have h0' : (juErr j != 0)=false:=by simp[h0]
 have Ht:=Lib.hid fun (w':World) (k:Sl (Old w) w' (.slice a n cap) j.args)=>zwa j _ w' hj k hn0 h;have htg:j.kind=4→0≤j.dest.loc∧j.dest.loc<16:=fun h4=>by
  have:=h.tgt j.dest (by show (if j.kind=4 then some j.dest else none)=_;rw[if_pos h4]);omega
 have hd0:=fun h4=>zyo h0 h4;have hjd:=hj.dest;have hlt:∀ x∈usedL (.ju j),0≤x∧x<16:=by
  intro x hx;rw[ztj] at hx;rcases List.mem_append.1 hx with hx|hx
  ·unfold rdO at hx;obtain⟨o,ho,hx⟩:=List.mem_flatMap.1 hx;have:=zl3 hn0 h o ho
   unfold rdO1 at hx;split at hx
   ·cases hx
   ·rw[List.mem_singleton] at hx;subst hx;exact⟨this.1,this.2.1⟩
  ·split at hx
   ·rename_i h4;split at hx
    ·cases hx
    ·rw[List.mem_singleton] at hx;subst hx;exact htg h4
   ·split at hx
    ·rw[List.mem_singleton] at hx;subst hx;exact⟨by decide,by decide⟩
    ·cases hx
 have hfin:∀ l,l=usedL (.ju j)→(∀ x,x∈inc l 16↔x∈usedL (.ju j)):=by
  intro l hl x;rw[z0r,hl];constructor
  ·rintro⟨q,hq,rfl,hx⟩;exact hx
  ·intro hx;have:=hlt x hx
   obtain⟨q,rfl⟩:=Int.eq_ofNat_of_zero_le this.1;exact⟨q,by omega,rfl,hx⟩
 have Hfin:=Lib.hid hfin;have hu:=ztj j;rw[hu] at Hfin;have Hu:=Lib.hid hu;clear h h0 hfin hlt hu;generalize (rdO (zs j))=L at Ht Hu Hfin;by_cases hA:j.kind=4∧whole j.dest=false
 ·have Hrd:Hid ((if j.kind=4 then (if whole j.dest=true then [] else [j.dest.loc]) else if j.kind=3 then [0] else []) = [j.dest.loc]):=Lib.hid (by rw[if_pos hA.1,hA.2];simp);have htg:=htg hA.1;have k3:(j.kind==3)=false:=by simp[hA.1]
  have Hw:=Lib.hid hA.2;rw[Hrd.out] at Hfin Hu;rw[Hu.out];clear hA hd0 Hrd Hu;obtain⟨kd,ja,jf,nx,el,ar,⟨dl,dd,df⟩⟩:=j;obtain⟨p,rfl⟩:=Int.eq_ofNat_of_zero_le htg.1;have hp:p<16:=by have:=htg.2;simp only at this;omega
  clear htg;have hg1:∀ l,(is16 l)[p]?=some (.bool (decide ((p:Int)∈l))):=fun l=>zaj l p hp;have hs1:∀ l,(is16 l).setIfInBounds p (.bool true)=is16 (l++[(p:Int)]):=fun l=>za7 l p hp;go_enter Tryz.func228,Tryz.ntmps228
  go_wp2_with (first|(go_at_call 108;((with_reducible refine armV (zbj _ _ _ hj hav.m) ?_);intro x1))|(go_at_call 246;((with_reducible refine armV (Ht.out _ hav.m) ?_);intro x2))|(go_at_call 247;((with_reducible refine(zg6 ⟨(p:Int),dd,df⟩ _ hjd).mono ?_);rintro e w4 ⟨rfl,hb4⟩;obtain⟨x4,rfl⟩:=za hb4;clear hb4;rw[Hw.out]))|(go_at_call 248;((with_reducible refine armS (zjd _ _) ?_);intro a5 n5 cap5 x5 Hn5 hm5 hcap5 hcm5 hs5)));refine zd (by simp only[results,Tryz.results228];go_simp<;>rfl) rfl gw ⟨_,_,rfl,hs5.wide (fun b hb hF=>by rcases hF with hF|hF;exact hF.elim;exact Or.inr (by first|omega|(simp at hF;omega))),Hfin.out _ rfl,zh7 _ _⟩
 ·have hw:whole j.dest=true:=by
   by_cases h4:j.kind=4
   ·cases hw:whole j.dest
    ·exact absurd ⟨h4,hw⟩ hA
    ·rfl
   ·exact hd0 h4
  have Hw:=Lib.hid hw;have hrd:(if j.kind=4 then (if whole j.dest=true then [] else [j.dest.loc]) else if j.kind=3 then [0] else [])=(if j.kind=3 then [0] else []):=by
   by_cases h4:j.kind=4
   ·rw[if_pos h4,if_pos hw,if_neg om]
   ·rw[if_neg h4]
  rw[hrd] at Hu Hfin;rw[Hu.out];clear hA hd0 hrd hw Hu htg;by_cases h3:j.kind=3
  ·have k3:(j.kind==3)=true:=by simp[h3]
   rw[if_pos h3] at Hfin ⊢;clear h3;have Hfin:Hid (∀ l,l=L++[((0:Nat):Int)]→∀ x,x∈inc l 16↔x∈L++[0]):=Hfin;have hg1:∀ l,(is16 l)[0]?=some (.bool (decide (((0:Nat):Int)∈l))):=fun l=>zaj l 0 (by decide);have hs1:∀ l,(is16 l).setIfInBounds 0 (.bool true)=is16 (l++[((0:Nat):Int)]):=fun l=>za7 l 0 (by decide);go_enter Tryz.func228,Tryz.ntmps228
   go_wp2_with (first|(go_at_call 108;((with_reducible refine armV (zbj _ _ _ hj hav.m) ?_);intro x1))|(go_at_call 246;((with_reducible refine armV (Ht.out _ hav.m) ?_);intro x2))|(go_at_call 247;((with_reducible refine(zg6 j.dest _ hjd).mono ?_);rintro e w4 ⟨rfl,hb4⟩;obtain⟨x4,rfl⟩:=za hb4;clear hb4;rw[Hw.out]))|(go_at_call 248;((with_reducible refine armS (zjd _ _) ?_);intro a5 n5 cap5 x5 Hn5 hm5 hcap5 hcm5 hs5)));refine zd (by simp only[results,Tryz.results228];go_simp<;>rfl) rfl gw ⟨_,_,rfl,hs5.wide (fun b hb hF=>by rcases hF with hF|hF;exact hF.elim;exact Or.inr (by first|omega|(simp at hF;omega))),Hfin.out _ rfl,zh7 _ _⟩
  ·have k3:(j.kind==3)=false:=by simp[h3]
   rw[if_neg h3] at Hfin ⊢;rw[List.append_nil] at Hfin ⊢;clear h3;go_enter Tryz.func228,Tryz.ntmps228
   go_wp2_with (first|(go_at_call 108;((with_reducible refine armV (zbj _ _ _ hj hav.m) ?_);intro x1))|(go_at_call 246;((with_reducible refine armV (Ht.out _ hav.m) ?_);intro x2))|(go_at_call 247;((with_reducible refine(zg6 j.dest _ hjd).mono ?_);rintro e w4 ⟨rfl,hb4⟩;obtain⟨x4,rfl⟩:=za hb4;clear hb4;rw[Hw.out]))|(go_at_call 248;((with_reducible refine armS (zjd _ _) ?_);intro a5 n5 cap5 x5 Hn5 hm5 hcap5 hcm5 hs5)));refine zd (by simp only[results,Tryz.results228];go_simp<;>rfl) rfl gw ⟨_,_,rfl,hs5.wide (fun b hb hF=>by rcases hF with hF|hF;exact hF.elim;exact Or.inr (by first|omega|(simp at hF;omega))),Hfin.out _ rfl,zh7 _ _⟩
end Go.Proofs.YtacmoaeglbggjaaGreat
