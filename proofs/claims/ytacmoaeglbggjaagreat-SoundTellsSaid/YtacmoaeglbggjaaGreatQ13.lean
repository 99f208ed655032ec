/- A part of the proof. -/
import Derived.Test.YtacmoaeglbggjaaGreatQ12
namespace Go.Proofs.YtacmoaeglbggjaaGreat
open Go.RowKit
set_option linter.unusedSimpArgs false
set_option linter.unusedVariables false
set_option maxRecDepth 100000
set_option maxHeartbeats 16000000
def coWf : Co→Prop
 |.st s=>s.wf
 |.ju j=>j.wf
theorem PtAt.cases {f : Fn}{q b i : Nat}{x : Bk}(h : PtAt f q b i x): (∃ s,x.stmts[i]?=some s∧coF f q = .st s)∨coF f q = .ju x.jump:=by
 rw[h.co];unfold coB;cases hs:x.stmts[i]? with
 |some s=>exact Or.inl ⟨s,rfl,rfl⟩
 |none=>exact Or.inr rfl
theorem PtAt.wf {f : Fn}{q b i : Nat}{x : Bk}(h : PtAt f q b i x){F' : Nat→Prop}{w : World}{v2 : Value}(h2 : Sl F' w v2 f.blocks): coWf (coF f q):=by
 obtain⟨a2,n2,cap2,rfl,Hn2,hm2,hcap2,hcm2,h2⟩:=h2.open;have hbl:b<n2:=by rw[Hn2.out];exact h.blk
 obtain⟨_,_,y,ca,cn,cc,_,_,_,_,hy⟩:=h2.bk b hbl;obtain rfl:y=x:=by have e1:=hy.g.out;have e2:=h.hb.out;rw[e1] at e2;injection e2
 rcases h.cases with ⟨s,hs,hc⟩|hc
 ·rw[hc];have hl:=hy.stmts.len;obtain⟨_,_,t,_,ht⟩:=hy.stmts.st i (by rw[hl];exact(List.getElem?_eq_some_iff.1 hs).1);obtain rfl:t=s:=by have e1:=ht.g.out;rw[hs] at e1;injection e1 with e1;exact e1.symm
  exact ht.wf
 ·rw[hc];exact hy.wf.jump
theorem zk (f : Fn)(v1 v2 : Value)(w : World){F F' : Nat→Prop}(h1 : Sl F w v1 f.locals)(h2 : Sl F' w v2 f.blocks)(hok : fnErr f=0){q b i : Nat}{x : Bk}(hp : PtAt f q b i x){s : St}(hc : Hid (coF f q = .st s)):
  Calls Tryz.prog 95 #[f.v v1 v2,.int .i64 (q:Nat)] w (Ret w (.tuple #[s.v,.bool true])):=by
 have h:=zl0 f v1 v2 w h1 h2 hok hp;rw[hc.out] at h;exact h
abbrev st0 : St:=⟨0,⟨0,false,0⟩,⟨0,0,0,⟨0,0,⟨0,false,0⟩⟩,⟨0,0,⟨0,false,0⟩⟩,⟨0,false,0⟩⟩,⟨0,0,⟨0,false,0⟩⟩,0⟩
theorem zai (f : Fn)(v1 v2 : Value)(w : World){F F' : Nat→Prop}(h1 : Sl F w v1 f.locals)(h2 : Sl F' w v2 f.blocks)(hok : fnErr f=0){q b i : Nat}{x : Bk}(hp : PtAt f q b i x){j : Ju}(hc : Hid (coF f q = .ju j)):
  Calls Tryz.prog 95 #[f.v v1 v2,.int .i64 (q:Nat)] w (Ret w (.tuple #[st0.v,.bool false])):=by
 have h:=zl0 f v1 v2 w h1 h2 hok hp;rw[hc.out] at h;exact h
theorem zdq (f : Fn)(v1 v2 : Value)(w : World){F F' : Nat→Prop}(h1 : Sl F w v1 f.locals)(h2 : Sl F' w v2 f.blocks)(hok : fnErr f=0){q b i : Nat}{x : Bk}(hp : PtAt f q b i x):
  Calls Tryz.prog 136 #[f.v v1 v2,.int .i64 (q:Nat)] w (RetP w fun v w'=>Sl (fun _=>True) w' v (opsC (coF f q))):=by
 have hwf:=hp.wf h2;obtain⟨a,n,cap,rfl,Hn,hm,hcap,hcm,h1⟩:=h1.open;obtain⟨a2,n2,cap2,rfl,Hn2,hm2,hcap2,hcm2,h2⟩:=h2.open;have Hok:=Lib.hid hok;clear hok;rcases hp.cases with ⟨s,hs,hc⟩|hc
 ·rw[hc] at hwf ⊢;have Hc:=Lib.hid hc;have hwf:s.wf:=hwf;have hsr:=hwf.r;have hsa:=hwf.a;clear hc hs hwf;by_cases h1' : s.kind=1
  ·have He:Hid (opsC (.st s)=ze s.r):=Lib.hid (by show (if s.kind=1 then ze s.r else if s.kind=3 then [] else [s.a])=_;rw[if_pos h1']);have e1:(s.kind==1)=true:=by simp[h1']
   clear h1';rw[He.out];go_enter Tryz.func136,Tryz.ntmps136
   go_wp2_with (first|(go_at_call 95;((with_reducible refine armV (zk f _ _ _ h1.m h2.m Hok.out hp Hc) ?_);intro x3))|(go_at_call 88;((with_reducible refine armS (zdb s.r _ hsr) ?_);intro a4 n4 cap4 x4 Hn4 hm4 hcap4 hcm4 hs4)));refine zd (by simp only[results,Tryz.results136];go_simp<;>rfl) rfl gw ?_;exact hs4.wide (fun _ _ _=>trivial)
  ·have e1:(s.kind==1)=false:=by simp[h1']
   by_cases h3:s.kind=3
   ·have He:Hid (opsC (.st s) = []):=Lib.hid (by show (if s.kind=1 then ze s.r else if s.kind=3 then [] else [s.a])=_;rw[if_neg h1',if_pos h3]);have e3:(s.kind==3)=true:=by simp[h3]
    clear h1' h3;rw[He.out];go_enter Tryz.func136,Tryz.ntmps136
    go_wp2_with (first|(go_at_call 95;((with_reducible refine armV (zk f _ _ _ h1.m h2.m Hok.out hp Hc) ?_);intro x3)));refine zd (by simp only[results,Tryz.results136];go_simp<;>rfl) rfl gw ?_;exact Sl.nil _ _
   ·have He:Hid (opsC (.st s) = [s.a]):=Lib.hid (by show (if s.kind=1 then ze s.r else if s.kind=3 then [] else [s.a])=_;rw[if_neg h1',if_neg h3]);have e3:(s.kind==3)=false:=by simp[h3]
    clear h1' h3;rw[He.out];go_enter Tryz.func136,Tryz.ntmps136
    go_wp2_with (first|(go_at_call 95;((with_reducible refine armV (zk f _ _ _ h1.m h2.m Hok.out hp Hc) ?_);intro x3)));refine zd (by simp only[results,Tryz.results136];go_simp<;>rfl) rfl gw ?_;exact Sl.one trivial (by simp;try omega) om om ⟨rfl,hsa⟩ cel
 ·rw[hc] at hwf ⊢;have Hc:=Lib.hid hc;have hwj:x.jump.wf:=hwf;clear hc hwf;show Calls _ _ _ _ (RetP w fun v w'=>Sl (fun _=>True) w' v (zs x.jump));go_enter Tryz.func136,Tryz.ntmps136
  go_wp2_with (first|(go_at_call 95;((with_reducible refine armV (zai f _ _ _ h1.m h2.m Hok.out hp Hc) ?_);intro x3))|(go_at_call 147;((with_reducible refine(zb2 f _ _ _ h1.m h2.m Hok.out hp).mono ?_);rintro e w4 ⟨v4,rfl,⟨av,rfl,hav⟩,hb4⟩;obtain⟨x4,rfl⟩:=za hb4;clear hb4;obtain⟨a4,n4,cap4,rfl,Hn4,hm4,hcap4,hcm4,hav⟩:=hav.open))|(go_at_call 130;((with_reducible refine armS (zdc x.jump _ _ hwj hav.m) ?_);intro a5 n5 cap5 x5 Hn5 hm5 hcap5 hcm5 hs5)));refine zd (by simp only[results,Tryz.results136];go_simp<;>rfl) rfl gw ?_;exact hs5.wide (fun _ _ _=>trivial)
def tgPl : Co→Pl
 |.st s=>s.pl
 |.ju j=>j.dest
def tgB : Co→Bool
 |.st s=>(s.kind==1)
 |.ju j=>(j.kind==4)
theorem z0p (c : Co): tgtC c=if tgB c=true then some (tgPl c) else none:=by
 cases c with
 |st s=>show (if s.kind=1 then some s.pl else none)=_;simp[tgB,tgPl]
 |ju j=>show (if j.kind=4 then some j.dest else none)=_;simp[tgB,tgPl]
theorem zym (c : Co)(i : Nat): setsC c i=(tgB c&&(whole (tgPl c)&&((tgPl c).loc==(i : Int)))):=by
 unfold setsC;rw[z0p];cases tgB c
 ·rfl
 ·rfl
theorem zet (f : Fn)(v1 v2 : Value)(w : World){F F' : Nat→Prop}(h1 : Sl F w v1 f.locals)(h2 : Sl F' w v2 f.blocks)(hok : fnErr f=0){q b i : Nat}{x : Bk}(hp : PtAt f q b i x):
  Calls Tryz.prog 146 #[f.v v1 v2,.int .i64 (q:Nat)] w (Ret w (.tuple #[(tgPl (coF f q)).v,.bool (tgB (coF f q))])):=by
 obtain⟨a,n,cap,rfl,Hn,hm,hcap,hcm,h1⟩:=h1.open;obtain⟨a2,n2,cap2,rfl,Hn2,hm2,hcap2,hcm2,h2⟩:=h2.open;have Hok:=Lib.hid hok;clear hok;rcases hp.cases with ⟨s,hs,hc⟩|hc
 ·rw[hc];have Hc:=Lib.hid hc;clear hc hs;show Calls _ _ _ _ (Ret w (.tuple #[s.pl.v,.bool (s.kind==1)]));go_enter Tryz.func146,Tryz.ntmps146
  go_wp2_with (first|(go_at_call 95;((with_reducible refine armV (zk f _ _ _ h1.m h2.m Hok.out hp Hc) ?_);intro x3)));go_region
  go_wp2_with fail
  ((try simp only[Exit.inBlock,Exit.then]);refine zf (by simp only[results,Tryz.results146];go_simp;rfl) rfl gw ?_)
  rfl
 ·rw[hc];have Hc:=Lib.hid hc;clear hc;show Calls _ _ _ _ (Ret w (.tuple #[x.jump.dest.v,.bool (x.jump.kind==4)]));go_enter Tryz.func146,Tryz.ntmps146
  go_wp2_with (first|(go_at_call 95;((with_reducible refine armV (zai f _ _ _ h1.m h2.m Hok.out hp Hc) ?_);intro x3))|(go_at_call 147;((with_reducible refine(zb2 f _ _ _ h1.m h2.m Hok.out hp).mono ?_);rintro e w4 ⟨v4,rfl,⟨av,rfl,hav⟩,hb4⟩;obtain⟨x4,rfl⟩:=za hb4;clear hb4;obtain⟨a4,n4,cap4,rfl,Hn4,hm4,hcap4,hcm4,hav⟩:=hav.open)));go_region
  go_wp2_with fail
  ((try simp only[Exit.inBlock,Exit.then]);refine zf (by simp only[results,Tryz.results146];go_simp;rfl) rfl gw ?_)
  rfl
theorem zp7 (l : List Opd)(v : Value)(w : World){F : Nat→Prop}(hl : Sl F w v l)(hlen : l.length≤100):
  Calls Tryz.prog 138 #[v] w (Ret w (.int .i64 ((l.countP (fun o=>(o.kind != 1)):Nat)))):=by
 obtain⟨a,n,cap,rfl,Hn,hm,hcap,hcm,hl⟩:=hl.open;have hn:n≤100:=by rw[Hn.out];exact hlen
 clear hlen;go_enter Tryz.func138,Tryz.ntmps138
 go_wp2_with fail;go_loopw [3,4] (fun t i wr=>∃ k m:Nat,k≤n∧m≤k∧i = .int .i64 k∧t = .int .i64 m∧Hid ((l.take k).countP (fun o=>(o.kind != 1))=m)∧Grow w wr) (fun _ i _=>n - (intOf i).toNat)
 case atStart=>exact⟨0,0,Nat.zero_le _,Nat.le_refl _,rfl,rfl,Lib.hid rfl,gw⟩
 case round =>
  obtain⟨k,m,hk,hmk,rfl,rfl,Hm,hb1⟩:=hrel;obtain⟨x,rfl⟩:=za hb1;by_cases hlt:k<n
  ·obtain⟨b_o,off_o,o,rfl,⟨Hg_o,hl_o,hw_o,c_o0,c_o1,c_o2,c_o3,c_o4,r_o0,r_o1⟩⟩:=hl.opd k hlt;have Hsn:Hid ((l.take (k+1)).countP (fun o=>(o.kind != 1))=m+(if (o.kind != 1)=true then 1 else 0)):=Lib.hid (by rw[List.take_add_one,Hg_o.out,List.countP_append,Hm.out];simp[List.countP_cons]);cases h1:(o.kind != 1)
   ·have Hs2:Hid ((l.take (k+1)).countP (fun o=>(o.kind != 1))=m):=Lib.hid (by rw[Hsn.out,h1];simp);go_wp2_with fail;go_roundw
    case rel=>exact⟨k+1,m,by omega,by omega,by go_num,rfl,Hs2,gw⟩
    case measure=>exact me
   ·have Hs2:Hid ((l.take (k+1)).countP (fun o=>(o.kind != 1))=m+1):=Lib.hid (by rw[Hsn.out,h1];simp);go_wp2_with fail;go_roundw
    case rel=>exact⟨k+1,m+1,by omega,by omega,by go_num,by go_num,Hs2,gw⟩
    case measure=>exact me
  ·have e:l.take k=l:=List.take_of_length_le (by have:=Hn.out;omega);have He:Hid (l.countP (fun o=>(o.kind != 1))=m):=Lib.hid (by rw[←Hm.out,e]);clear e;go_wp2_with fail;go_ret
   exact Ret.mk (by rw[He.out];rfl) gw
theorem zl2 (f : Fn)(v1 v2 : Value)(w : World){F F' : Nat→Prop}(h1 : Sl F w v1 f.locals)(h2 : Sl F' w v2 f.blocks)(hok : fnErr f=0){q b i : Nat}{x : Bk}(hp : PtAt f q b i x)(t : Nat):
  Calls Tryz.prog 207 #[f.v v1 v2,.int .i64 (q:Nat),.int .i64 (t:Nat)] w (Ret w (.bool (setsC (coF f q) t))):=by
 obtain⟨a,n,cap,rfl,Hn,hm,hcap,hcm,h1⟩:=h1.open;obtain⟨a2,n2,cap2,rfl,Hn2,hm2,hcap2,hcm2,h2⟩:=h2.open;have Hok:=Lib.hid hok;clear hok;rw[zym];have Hp:=Lib.hid hp;clear hp;generalize hT:(tgPl (coF f q))=p;generalize hB:(tgB (coF f q))=bb;have Ht:Hid (∀ w',Sl F w' (.slice a n cap) f.locals→Sl F' w' (.slice a2 n2 cap2) f.blocks→Calls Tryz.prog 146 #[f.v (.slice a n cap) (.slice a2 n2 cap2),.int .i64 (q:Nat)] w' (Ret w' (.tuple #[p.v,.bool bb]))):=Lib.hid fun w' k1 k2=>by
  have:=zet f _ _ w' k1 k2 Hok.out Hp.out
  rw[hT,hB] at this;exact this
 clear hT hB;cases bb
 ·go_enter Tryz.func207,Tryz.ntmps207
  go_wp2_with (first|(go_at_call 146;((with_reducible refine armV (Ht.out _ h1.m h2.m) ?_);intro x3)));go_ret
  exact Ret.mk rfl gw
 ·cases hw:whole p;all_goals
   have Hw:=Lib.hid hw;clear hw;go_enter Tryz.func207,Tryz.ntmps207
   go_wp2_with (first|(go_at_call 146;((with_reducible refine armV (Ht.out _ h1.m h2.m) ?_);intro x3))|(go_at_call 96;((with_reducible refine(zbg p _).mono ?_);rintro e w4 ⟨rfl,hb4⟩;obtain⟨x4,rfl⟩:=za hb4;clear hb4;rw[Hw.out])));go_ret
   exact Ret.mk (by simp) gw
def movN (l : List Opd)(t : Nat): Nat:=l.countP fun o=>(o.kind==3)&&(o.pl.loc==(t : Int))
theorem zyn (c : Co)(t : Nat): decide (0<movN (opsC c) t)=zel c t:=by
 unfold movN zel;rw[Bool.eq_iff_iff,decide_eq_true_eq,List.countP_pos_iff,List.any_eq_true];exact Iff.rfl
theorem z0q (l : List Opd)(t : Nat): movN l t≤l.length:=List.countP_le_length
theorem zf7 {n : Nat}{c : Co}(h : CoOk n c): (opsC c).length≤8:=by
 cases c with
 |st s =>
  show (if s.kind=1 then ze s.r else if s.kind=3 then [] else [s.a]).length≤8;have:=zc2 s.r
  split
  ·omega
  ·split<;>simp
 |ju j =>
  show (if j.kind=2 then [j.a] else j.args).length≤8;have hj:=(zal _).1 (h.ju j rfl).1;have:j.args.length≤8:=by unfold juOk juPre at hj;grind
  split
  ·simp
  ·exact this
theorem zru (f : Fn)(v1 v2 : Value)(w : World){F F' : Nat→Prop}(h1 : Sl F w v1 f.locals)(h2 : Sl F' w v2 f.blocks)(hok : fnErr f=0){q b i : Nat}{x : Bk}(hp : PtAt f q b i x)(t : Nat):
  Calls Tryz.prog 233 #[f.v v1 v2,.int .i64 (q:Nat),.int .i64 (t:Nat)] w (Ret w (.int .i64 (movN (opsC (coF f q)) t:Nat))):=by
 obtain⟨a,n,cap,rfl,Hn,hm,hcap,hcm,h1⟩:=h1.open;obtain⟨a2,n2,cap2,rfl,Hn2,hm2,hcap2,hcm2,h2⟩:=h2.open;have Hok:=Lib.hid hok;have h8:=zf7 (za5 hok hp.lt);clear hok;have Hp:=Lib.hid hp;clear hp;have Ht:=Lib.hid fun (w':World) (k1:Sl F w' (.slice a n cap) f.locals) (k2:Sl F' w' (.slice a2 n2 cap2) f.blocks)=>zdq f _ _ w' k1 k2 Hok.out Hp.out;generalize (opsC (coF f q))=l at Ht h8 ⊢;go_enter Tryz.func233,Tryz.ntmps233
 go_wp2_with (first|(go_at_call 136;((with_reducible refine armS (Ht.out _ h1.m h2.m) ?_);intro a3 n3 cap3 x3 Hn3 hm3 hcap3 hcm3 hs3)));have hn3:n3≤8:=by rw[Hn3.out];exact h8
 go_loopw [8,9] (fun s i wr=>∃ k m:Nat,k≤n3∧m≤k∧i = .int .i64 k∧s = .int .i64 m∧Hid (movN (l.take k) t=m)∧Grow (ext (w.alloc (bxFn f (.slice a n cap) (.slice a2 n2 cap2))) x3) wr) (fun _ i _=>n3 - (intOf i).toNat)
 case atStart=>exact⟨0,0,Nat.zero_le _,Nat.le_refl _,rfl,rfl,Lib.hid rfl,gw⟩
 case round =>
  obtain⟨k,m,hk,hmk,rfl,rfl,Hm,hb1⟩:=hrel;obtain⟨y1,rfl⟩:=za hb1;by_cases hlt:k<n3
  ·obtain⟨b_o,off_o,o,rfl,⟨Hg_o,hl_o,hw_o,c_o0,c_o1,c_o2,c_o3,c_o4,r_o0,r_o1⟩⟩:=hs3.opd k hlt;have Hsn:Hid (movN (l.take (k+1)) t=m+(if ((o.kind==3)&&(o.pl.loc==(t:Int)))=true then 1 else 0)):=Lib.hid (by unfold movN;rw[List.take_add_one,Hg_o.out,List.countP_append];rw[show (l.take k).countP (fun o=>(o.kind==3)&&(o.pl.loc==(t:Int)))=m from Hm.out];simp[List.countP_cons]);cases h1:(o.kind==3)
   ·have Hs2:Hid (movN (l.take (k+1)) t=m):=Lib.hid (by rw[Hsn.out,h1];simp);go_wp2_with fail;go_roundw
    case rel=>exact⟨k+1,m,by omega,by omega,by go_num,rfl,Hs2,gw⟩
    case measure=>exact me
   ·cases h2:(o.pl.loc==(t:Int))
    ·have Hs2:Hid (movN (l.take (k+1)) t=m):=Lib.hid (by rw[Hsn.out,h1,h2];simp);go_wp2_with fail;go_roundw
     case rel=>exact⟨k+1,m,by omega,by omega,by go_num,rfl,Hs2,gw⟩
     case measure=>exact me
    ·have Hs2:Hid (movN (l.take (k+1)) t=m+1):=Lib.hid (by rw[Hsn.out,h1,h2];simp);go_wp2_with fail;go_roundw
     case rel=>exact⟨k+1,m+1,by omega,by omega,by go_num,by go_num,Hs2,gw⟩
     case measure=>exact me
  ·have e:l.take k=l:=List.take_of_length_le (by have:=Hn3.out;omega);have He:Hid (movN l t=m):=Lib.hid (by rw[←Hm.out,e]);clear e;go_wp2_with fail;go_ret
   exact Ret.mk (by rw[He.out];rfl) gw
theorem zp8 (f : Fn)(v1 v2 : Value)(w : World){F F' : Nat→Prop}(h1 : Sl F w v1 f.locals)(h2 : Sl F' w v2 f.blocks)(hok : fnErr f=0){q b i : Nat}{x : Bk}(hp : PtAt f q b i x)(t : Nat):
  Calls Tryz.prog 206 #[f.v v1 v2,.int .i64 (q:Nat),.int .i64 (t:Nat)] w (Ret w (.bool (zbw (coF f q) t))):=by
 obtain⟨a,n,cap,rfl,Hn,hm,hcap,hcm,h1⟩:=h1.open;obtain⟨a2,n2,cap2,rfl,Hn2,hm2,hcap2,hcm2,h2⟩:=h2.open;have Hok:=Lib.hid hok;have hmp:=zyn (coF f q) t;have hml:=z0q (opsC (coF f q)) t;have h8:=zf7 (za5 hok hp.lt);clear hok;have Hse:=Lib.hid fun (w':World) (k1:Sl F w' (.slice a n cap) f.locals) (k2:Sl F' w' (.slice a2 n2 cap2) f.blocks)=>zl2 f _ _ w' k1 k2 Hok.out hp t;have Hmo:=Lib.hid fun (w':World) (k1:Sl F w' (.slice a n cap) f.locals) (k2:Sl F' w' (.slice a2 n2 cap2) f.blocks)=>zru f _ _ w' k1 k2 Hok.out hp t;unfold zbw;rw[←hmp];generalize (movN (opsC (coF f q)) t)=mm at Hmo hml ⊢;generalize (setsC (coF f q) t)=se at Hse ⊢;have hm8:mm≤8:=om;clear hmp hml;rcases hp.cases with ⟨s,hs,hc⟩|hc
 ·have Hc:=Lib.hid hc;have e:zem (coF f q) t=((s.kind==3)&&(s.loc==(t:Int))):=by rw[hc];rfl
  rw[e];clear hc hs e;cases se
  ·cases hd:decide (0<mm)
   ·cases hk:(s.kind==3);all_goals
     go_enter Tryz.func206,Tryz.ntmps206
     go_wp2_with (first|(go_at_call 95;((with_reducible refine armV (zk f _ _ _ h1.m h2.m Hok.out hp Hc) ?_);intro x3))|(go_at_call 207;((with_reducible refine armV (Hse.out _ h1.m h2.m) ?_);intro x4))|(go_at_call 233;((with_reducible refine armV (Hmo.out _ h1.m h2.m) ?_);intro x5)));go_ret
     exact Ret.mk (by simp) gw
   ·go_enter Tryz.func206,Tryz.ntmps206
    go_wp2_with (first|(go_at_call 95;((with_reducible refine armV (zk f _ _ _ h1.m h2.m Hok.out hp Hc) ?_);intro x3))|(go_at_call 207;((with_reducible refine armV (Hse.out _ h1.m h2.m) ?_);intro x4))|(go_at_call 233;((with_reducible refine armV (Hmo.out _ h1.m h2.m) ?_);intro x5)));go_ret
    exact Ret.mk (by simp) gw
  ·go_enter Tryz.func206,Tryz.ntmps206
   go_wp2_with (first|(go_at_call 95;((with_reducible refine armV (zk f _ _ _ h1.m h2.m Hok.out hp Hc) ?_);intro x3))|(go_at_call 207;((with_reducible refine armV (Hse.out _ h1.m h2.m) ?_);intro x4))|(go_at_call 233;((with_reducible refine armV (Hmo.out _ h1.m h2.m) ?_);intro x5)));go_ret
   exact Ret.mk (by simp) gw
 ·have Hc:=Lib.hid hc;have e:zem (coF f q) t=false:=by rw[hc];rfl
  rw[e];clear hc e;cases se
  ·cases hd:decide (0<mm);all_goals
    go_enter Tryz.func206,Tryz.ntmps206
    go_wp2_with (first|(go_at_call 95;((with_reducible refine armV (zai f _ _ _ h1.m h2.m Hok.out hp Hc) ?_);intro x3))|(go_at_call 207;((with_reducible refine armV (Hse.out _ h1.m h2.m) ?_);intro x4))|(go_at_call 233;((with_reducible refine armV (Hmo.out _ h1.m h2.m) ?_);intro x5)));go_ret
    exact Ret.mk (by simp) gw
  ·go_enter Tryz.func206,Tryz.ntmps206
   go_wp2_with (first|(go_at_call 95;((with_reducible refine armV (zai f _ _ _ h1.m h2.m Hok.out hp Hc) ?_);intro x3))|(go_at_call 207;((with_reducible refine armV (Hse.out _ h1.m h2.m) ?_);intro x4))|(go_at_call 233;((with_reducible refine armV (Hmo.out _ h1.m h2.m) ?_);intro x5)));go_ret
   exact Ret.mk (by simp) gw
def rdO1 (o : Opd): List Int:=if o.kind=1 then [] else [o.pl.loc]
def rdO (l : List Opd): List Int:=l.flatMap rdO1
theorem zea {l : List Opd}{k : Nat}{o : Opd}(h : Hid (l[k]?=some o)): rdO (l.take (k+1))=rdO (l.take k)++rdO1 o:=by
 unfold rdO;rw[List.take_add_one,h.out,List.flatMap_append];simp
theorem ztg (l : List Opd): (rdO l).length≤l.length:=by
 unfold rdO;induction l with
 |nil=>simp
 |cons o l ih =>
   rw[List.flatMap_cons,List.length_append];have:(rdO1 o).length≤1:=by unfold rdO1;split<;>simp
   simp only[List.length_cons];omega
theorem zv4 (l : List Opd): l.countP (fun o=>(o.kind != 1))=(rdO l).length:=by
 unfold rdO;induction l with
 |nil=>rfl
 |cons o l ih =>
  rw[List.flatMap_cons,List.length_append,List.countP_cons,ih];unfold rdO1;by_cases h:o.kind=1
  ·simp[h]
  ·simp[h];omega
theorem zrv (f : Fn)(v1 v2 : Value)(w : World){F F' : Nat→Prop}(h1 : Sl F w v1 f.locals)(h2 : Sl F' w v2 f.blocks)(hok : fnErr f=0){q b i : Nat}{x : Bk}(hp : PtAt f q b i x):
  Calls Tryz.prog 137 #[f.v v1 v2,.int .i64 (q:Nat)] w (RetP w fun v w'=>Sl (Fresh w) w' v (rdO (opsC (coF f q))++rdsC (coF f q))):=by
 have hwf:=hp.wf h2;obtain⟨a,n,cap,rfl,Hn,hm,hcap,hcm,h1⟩:=h1.open;obtain⟨a2,n2,cap2,rfl,Hn2,hm2,hcap2,hcm2,h2⟩:=h2.open;have Hok:=Lib.hid hok;have hcok:=za5 hok hp.lt;have h8:=zf7 hcok;clear hok;have Ht:=Lib.hid fun (w':World) (k1:Sl F w' (.slice a n cap) f.locals) (k2:Sl F' w' (.slice a2 n2 cap2) f.blocks)=>zdq f _ _ w' k1 k2 Hok.out hp;have Hg:=Lib.hid fun (w':World) (k1:Sl F w' (.slice a n cap) f.locals) (k2:Sl F' w' (.slice a2 n2 cap2) f.blocks)=>zet f _ _ w' k1 k2 Hok.out hp;have Hcok:=Lib.hid hcok;have Hwf:=Lib.hid hwf;clear hcok hwf;generalize hl:(opsC (coF f q))=l at Ht h8 ⊢;clear hl;obtain⟨rl,Hrl⟩:∃ rl,Hid (rdsC (coF f q)=rl):=⟨_,Lib.hid rfl⟩
 rw[Hrl.out];go_enter Tryz.func137,Tryz.ntmps137
 go_wp2_with (first|(go_at_call 136;((with_reducible refine armS (Ht.out _ h1.m h2.m) ?_);intro a3 n3 cap3 x3 Hn3 hm3 hcap3 hcm3 hs3)));have hn3:n3≤8:=by rw[Hn3.out];exact h8
 go_loopw [5,7] (fun tv i wr=>∃ k:Nat,k≤n3∧i = .int .i64 k∧Grow (ext (w.alloc (bxFn f (.slice a n cap) (.slice a2 n2 cap2))) x3) wr∧Own (fun _=>False) (ext (w.alloc (bxFn f (.slice a n cap) (.slice a2 n2 cap2))) x3).heap.size 3 wr tv (rdO (l.take k))) (fun _ i _=>n3 - (intOf i).toNat)
 case atStart=>exact⟨0,Nat.zero_le _,rfl,gw,Own.nil _ _ _ _⟩
 case round =>
  obtain⟨k,hk,rfl,hb1,hown⟩:=hrel;obtain⟨y1,rfl⟩:=za hb1;have hl3:=ztg (l.take k);have hl4:(l.take k).length≤n3:=by rw[List.length_take,Hn3.out];omega
  by_cases hlt:k<n3
  ·obtain⟨b_o,off_o,o,rfl,⟨Hg_o,hl_o,hw_o,c_o0,c_o1,c_o2,c_o3,c_o4,r_o0,r_o1⟩⟩:=hs3.opd k hlt;have Hsn:=Lib.hid (zea Hg_o);have ho64:=hw_o.pl.loc;by_cases h1' : o.kind=1
   ·have e1:(o.kind != 1)=false:=by simp[h1']
    have He:=Lib.hid h1';clear h1';go_wp2_with fail;go_roundw
    case rel=>exact⟨k+1,by omega,by go_num,gw,by rw[Hsn.out];unfold rdO1;rw[if_pos He.out,List.append_nil];exact hown.mono gw⟩
    case measure=>exact me
   ·have e1:(o.kind != 1)=true:=by simp[h1']
    have He:=Lib.hid h1';clear h1';go_wp2_with (first|(at_builtin;go_must (refine zh (α:=Int) zau rfl rfl rfl (hown) gw (by first|exact Nat.le_refl _|(simp;done)|(simp;omega)) (by first|(simp;done)|(simp;omega)) rfl (y:=o.pl.loc) (Gy:=fun _=>False) (⟨rfl,ho64⟩) (fun _ h=>h.elim) cel (by simp[Value.oneCell']) om om ?_);intro tv1 x1 ho1 hsz1 hagr1));go_roundw
    case rel=>exact⟨k+1,by omega,by go_num,gw,by rw[Hsn.out];unfold rdO1;rw[if_neg He.out];exact ho1⟩
    case measure=>exact me
  ·have e:l.take k=l:=List.take_of_length_le (by have:=Hn3.out;omega);rw[e] at hown hl3 hl4;clear e;rcases hp.cases with ⟨s,hs,hc⟩|hc
   ·have Hc:=Lib.hid hc;rw[hc] at Hg Hrl;have hwfs:s.wf:=by have:=Hwf.out;rw[hc] at this;exact this
    have hcs:CoOk f.locals.length (.st s):=by have:=Hcok.out;rw[hc] at this;exact this
    have hpl:=hwfs.pl.loc;have hrl:=hwfs.r.pl.loc;have hk5:=hcs.rv s rfl;clear hc hs hwfs hcs;have Hg:Hid (∀ w',Sl F w' (.slice a n cap) f.locals→Sl F' w' (.slice a2 n2 cap2) f.blocks→Calls Tryz.prog 146 #[f.v (.slice a n cap) (.slice a2 n2 cap2),.int .i64 (q:Nat)] w' (Ret w' (.tuple #[s.pl.v,.bool (s.kind==1)]))):=Hg;cases hk1:(s.kind==1)
    ·have He:Hid (rl = []):=Lib.hid (by rw[←Hrl.out];show (if s.kind=1 then _ else [])=_;rw[if_neg (by simpa using hk1)]);clear hk5;rw[hk1] at Hg;go_wp2_with (first|(go_at_call 95;((with_reducible refine armV (zk f _ _ _ h1.m h2.m Hok.out hp Hc) ?_);intro x4))|(go_at_call 146;((with_reducible refine armV (Hg.out _ h1.m h2.m) ?_);intro x5)));refine zd (by simp only[results,Tryz.results137];go_simp<;>rfl) rfl gw ?_;rw[He.out,List.append_nil];exact(hown.sl.wide (fun b hb hF=>by rcases hF with hF|hF;exact hF.elim;exact Or.inr (by first|omega|(simp at hF;omega)))).mono gw
    ·have hk5:=hk5 (by simpa using hk1);rw[hk1] at Hg;cases hw:whole s.pl;all_goals
      cases hd:decide (4≤s.r.kind)
      ·have He:=Lib.hid (show rl=(if decide (4≤s.r.kind)=true then [s.r.pl.loc] else [])++(if whole s.pl=true then [] else [s.pl.loc]) from by
        rw[←Hrl.out];show (if s.kind=1 then (if s.r.kind=4∨s.r.kind=5 then [s.r.pl.loc] else [])++(if whole s.pl=true then [] else [s.pl.loc]) else [])=_;rw[if_pos (by simpa using hk1)];congr 1;by_cases h4:4≤s.r.kind
        ·rw[if_pos om,if_pos (by simpa using h4)]
        ·rw[if_neg om,if_neg (by simpa using h4)])
       rw[hd,hw] at He;have Hw:=Lib.hid hw;clear hw hk5;go_wp2_with (first|(go_at_call 95;((with_reducible refine armV (zk f _ _ _ h1.m h2.m Hok.out hp Hc) ?_);intro x4))|(go_at_call 146;((with_reducible refine armV (Hg.out _ h1.m h2.m) ?_);intro x5))|(go_at_call 96;((with_reducible refine(zbg s.pl _).mono ?_);rintro e w6 ⟨rfl,hb6⟩;obtain⟨x6,rfl⟩:=za hb6;clear hb6;rw[Hw.out]))|(at_builtin;(refine zh (α:=Int) zau rfl rfl rfl (hown) gw (by first|exact Nat.le_refl _|(simp;done)|(simp;omega)) (by first|(simp;done)|(simp;omega)) rfl (y:=s.pl.loc) (Gy:=fun _=>False) (⟨rfl,hpl⟩) (fun _ h=>h.elim) cel (by simp[Value.oneCell']) om om ?_);intro tv9 x9 ho9 hsz9 hagr9));refine zd (by simp only[results,Tryz.results137];go_simp<;>rfl) rfl gw ?_;rw[He.out];simp only[List.append_nil,List.nil_append,if_true,Bool.false_eq_true,if_false,reduceIte,←List.append_assoc];first
        |exact(ho8.sl.wide (fun b hb hF=>by rcases hF with hF|hF;exact hF.elim;exact Or.inr (by first|omega|(simp at hF;omega)))).mono gw
        |exact(ho9.sl.wide (fun b hb hF=>by rcases hF with hF|hF;exact hF.elim;exact Or.inr (by first|omega|(simp at hF;omega)))).mono gw
        |exact(ho7.sl.wide (fun b hb hF=>by rcases hF with hF|hF;exact hF.elim;exact Or.inr (by first|omega|(simp at hF;omega)))).mono gw
        |exact(hown.sl.wide (fun b hb hF=>by rcases hF with hF|hF;exact hF.elim;exact Or.inr (by first|omega|(simp at hF;omega)))).mono gw
      ·have He:=Lib.hid (show rl=(if decide (4≤s.r.kind)=true then [s.r.pl.loc] else [])++(if whole s.pl=true then [] else [s.pl.loc]) from by
        rw[←Hrl.out];show (if s.kind=1 then (if s.r.kind=4∨s.r.kind=5 then [s.r.pl.loc] else [])++(if whole s.pl=true then [] else [s.pl.loc]) else [])=_;rw[if_pos (by simpa using hk1)];congr 1;by_cases h4:4≤s.r.kind
        ·rw[if_pos om,if_pos (by simpa using h4)]
        ·rw[if_neg om,if_neg (by simpa using h4)])
       rw[hd,hw] at He;have Hw:=Lib.hid hw;clear hw hk5;go_wp2_with (first|(go_at_call 95;((with_reducible refine armV (zk f _ _ _ h1.m h2.m Hok.out hp Hc) ?_);intro x4))|(go_at_call 146;((with_reducible refine armV (Hg.out _ h1.m h2.m) ?_);intro x5))|(go_at_call 96;((with_reducible refine(zbg s.pl _).mono ?_);rintro e w6 ⟨rfl,hb6⟩;obtain⟨x6,rfl⟩:=za hb6;clear hb6;rw[Hw.out]))|(at_builtin;(refine zh (α:=Int) zau rfl rfl rfl (ho7) gw (by first|exact Nat.le_refl _|(simp;done)|(simp;omega)) (by first|(simp;done)|(simp;omega)) rfl (y:=s.pl.loc) (Gy:=fun _=>False) (⟨rfl,hpl⟩) (fun _ h=>h.elim) cel (by simp[Value.oneCell']) om om ?_);intro tv8 x8 ho8 hsz8 hagr8)|(at_builtin;(refine zh (α:=Int) zau rfl rfl rfl (hown) gw (by first|exact Nat.le_refl _|(simp;done)|(simp;omega)) (by first|(simp;done)|(simp;omega)) rfl (y:=s.r.pl.loc) (Gy:=fun _=>False) (⟨rfl,hrl⟩) (fun _ h=>h.elim) cel (by simp[Value.oneCell']) om om ?_);intro tv7 x7 ho7 hsz7 hagr7));refine zd (by simp only[results,Tryz.results137];go_simp<;>rfl) rfl gw ?_;rw[He.out];simp only[List.append_nil,List.nil_append,if_true,Bool.false_eq_true,if_false,reduceIte,←List.append_assoc];first
        |exact(ho8.sl.wide (fun b hb hF=>by rcases hF with hF|hF;exact hF.elim;exact Or.inr (by first|omega|(simp at hF;omega)))).mono gw
        |exact(ho9.sl.wide (fun b hb hF=>by rcases hF with hF|hF;exact hF.elim;exact Or.inr (by first|omega|(simp at hF;omega)))).mono gw
        |exact(ho7.sl.wide (fun b hb hF=>by rcases hF with hF|hF;exact hF.elim;exact Or.inr (by first|omega|(simp at hF;omega)))).mono gw
        |exact(hown.sl.wide (fun b hb hF=>by rcases hF with hF|hF;exact hF.elim;exact Or.inr (by first|omega|(simp at hF;omega)))).mono gw
   ·have Hc:=Lib.hid hc;rw[hc] at Hg Hrl;have hwfj:x.jump.wf:=by have:=Hwf.out;rw[hc] at this;exact this
    have hdl:=hwfj.dest.loc;have h0:I64 0:=⟨by decide,by decide⟩
    clear hc hwfj;have Hg:Hid (∀ w',Sl F w' (.slice a n cap) f.locals→Sl F' w' (.slice a2 n2 cap2) f.blocks→Calls Tryz.prog 146 #[f.v (.slice a n cap) (.slice a2 n2 cap2),.int .i64 (q:Nat)] w' (Ret w' (.tuple #[x.jump.dest.v,.bool (x.jump.kind==4)]))):=Hg;cases hk4:(x.jump.kind==4)
    ·rw[hk4] at Hg;cases hk3:(x.jump.kind==3);all_goals
      have He:=Lib.hid (show rl=(if (x.jump.kind==3)=true then [0] else []) from by
       rw[←Hrl.out];show (if x.jump.kind=4 then (if whole x.jump.dest=true then [] else [x.jump.dest.loc]) else if x.jump.kind=3 then [0] else [])=_;rw[if_neg (by simpa using hk4)];simp)
      rw[hk3] at He;go_wp2_with (first|(go_at_call 95;((with_reducible refine armV (zai f _ _ _ h1.m h2.m Hok.out hp Hc) ?_);intro x4))|(go_at_call 146;((with_reducible refine armV (Hg.out _ h1.m h2.m) ?_);intro x5))|(go_at_call 147;((with_reducible refine(zb2 f _ _ _ h1.m h2.m Hok.out hp).mono ?_);rintro e w6 ⟨v6,rfl,⟨av,rfl,hav⟩,hb6⟩;obtain⟨x6,rfl⟩:=za hb6;clear hb6;obtain⟨a6,n6,cap6,rfl,Hn6,hm6,hcap6,hcm6,hav⟩:=hav.open))|(at_builtin;(refine zh (α:=Int) zau rfl rfl rfl (hown) gw (by first|exact Nat.le_refl _|(simp;done)|(simp;omega)) (by first|(simp;done)|(simp;omega)) rfl (y:=0) (Gy:=fun _=>False) (⟨rfl,h0⟩) (fun _ h=>h.elim) cel (by simp[Value.oneCell']) om om ?_);intro tv7 x7 ho7 hsz7 hagr7));refine zd (by simp only[results,Tryz.results137];go_simp<;>rfl) rfl gw ?_;rw[He.out];simp only[List.append_nil,if_true,Bool.false_eq_true,if_false,reduceIte];first
       |exact(ho7.sl.wide (fun b hb hF=>by rcases hF with hF|hF;exact hF.elim;exact Or.inr (by first|omega|(simp at hF;omega)))).mono gw
       |exact(hown.sl.wide (fun b hb hF=>by rcases hF with hF|hF;exact hF.elim;exact Or.inr (by first|omega|(simp at hF;omega)))).mono gw
    ·rw[hk4] at Hg;have hk3:(x.jump.kind==3)=false:=by simp at hk4 ⊢;omega
     cases hw:whole x.jump.dest;all_goals
      have He:=Lib.hid (show rl=(if whole x.jump.dest=true then [] else [x.jump.dest.loc]) from by
       rw[←Hrl.out];show (if x.jump.kind=4 then (if whole x.jump.dest=true then [] else [x.jump.dest.loc]) else if x.jump.kind=3 then [0] else [])=_;rw[if_pos (by simpa using hk4)])
      rw[hw] at He;have Hw:=Lib.hid hw;clear hw;go_wp2_with (first|(go_at_call 95;((with_reducible refine armV (zai f _ _ _ h1.m h2.m Hok.out hp Hc) ?_);intro x4))|(go_at_call 146;((with_reducible refine armV (Hg.out _ h1.m h2.m) ?_);intro x5))|(go_at_call 96;((with_reducible refine(zbg x.jump.dest _).mono ?_);rintro e w8 ⟨rfl,hb8⟩;obtain⟨x8,rfl⟩:=za hb8;clear hb8;rw[Hw.out]))|(go_at_call 147;((with_reducible refine(zb2 f _ _ _ h1.m h2.m Hok.out hp).mono ?_);rintro e w6 ⟨v6,rfl,⟨av,rfl,hav⟩,hb6⟩;obtain⟨x6,rfl⟩:=za hb6;clear hb6;obtain⟨a6,n6,cap6,rfl,Hn6,hm6,hcap6,hcm6,hav⟩:=hav.open))|(at_builtin;(refine zh (α:=Int) zau rfl rfl rfl (hown) gw (by first|exact Nat.le_refl _|(simp;done)|(simp;omega)) (by first|(simp;done)|(simp;omega)) rfl (y:=x.jump.dest.loc) (Gy:=fun _=>False) (⟨rfl,hdl⟩) (fun _ h=>h.elim) cel (by simp[Value.oneCell']) om om ?_);intro tv7 x7 ho7 hsz7 hagr7));refine zd (by simp only[results,Tryz.results137];go_simp<;>rfl) rfl gw ?_;rw[He.out];simp only[List.append_nil,if_true,Bool.false_eq_true,if_false,reduceIte];first
       |exact(ho7.sl.wide (fun b hb hF=>by rcases hF with hF|hF;exact hF.elim;exact Or.inr (by first|omega|(simp at hF;omega)))).mono gw
       |exact(hown.sl.wide (fun b hb hF=>by rcases hF with hF|hF;exact hF.elim;exact Or.inr (by first|omega|(simp at hF;omega)))).mono gw
set_option linter.unusedVariables false
def zce (f : Fn)(q : Nat): List Int:=(nexts f q).map fun r=>((r : Nat) : Int)
theorem zv5 (f : Fn)(b i : Nat): numF f (b,i+1)=numF f (b,i)+1:=by unfold numF;simp only;omega
theorem zeu (f : Fn)(v1 v2 : Value)(w : World){F F' : Nat→Prop}(h1 : Sl F w v1 f.locals)(h2 : Sl F' w v2 f.blocks)(hok : fnErr f=0){q b i : Nat}{x : Bk}(hp : PtAt f q b i x):
  Calls Tryz.prog 145 #[f.v v1 v2,.int .i64 (q:Nat)] w (RetP w fun v w'=>Sl (Fresh w) w' v (zce f q)):=by
 obtain⟨a,n,cap,rfl,Hn,hm,hcap,hcm,h1⟩:=h1.open;obtain⟨a2,n2,cap2,rfl,Hn2,hm2,hcap2,hcm2,h2⟩:=h2.open;have Hok:=Lib.hid hok;have hq6:=hp.lt;have h600:=zp hok;have hld:=zif hok hp.hb.out;clear hok;have hbl:b<n2:=by rw[Hn2.out];exact hp.blk
 obtain⟨b_y,off_y,y,y_stmts_a,y_stmts_n,y_stmts_c,y_jump_args_a,y_jump_args_n,y_jump_args_c,rfl,⟨Hg_y,hl_y,hw_y,y_stmts,y_jump_args,c_y0,c_y1,c_y2,c_y3,c_y4,c_y5,c_y6,c_y7,c_y8,c_y9,c_y10,c_y11,c_y12,c_y13,r_y0,r_y1,r_y2,r_y3,r_y4⟩⟩:=h2.bk b hbl;obtain rfl:y=x:=by have e1:=Hg_y.out;have e2:=hp.hb.out;rw[e1] at e2;injection e2
 have Hyn:=Lib.hid y_stmts.len;have hn2:n2=f.blocks.length:=Hn2.out;by_cases hlt:i<y_stmts_n
 ·have He:Hid (zce f q = [(q:Int)+1]):=Lib.hid (by
   unfold zce;rw[hp.nexts];unfold nextP;rw[if_pos (by rw[←Hyn.out];exact hlt)];simp only[List.map_cons,List.map_nil];rw[zv5,hp.hq.out];simp)
  have hq64:I64 ((q:Int)+1):=⟨by omega,by omega⟩
  rw[He.out];clear hld hn2;go_enter Tryz.func145,Tryz.ntmps145
  go_wp2_with (first|(go_at_call 139;((with_reducible refine armV (zd1 f _ _ _ h1.m h2.m Hok.out hp) ?_);intro x3)))
  (refine zg (by kernel_rfl) (by kernel_rfl) ?_;(repeat (any_goals (first|go_big_quiet_step (first|fail)|(refine wpQuiet_step (fun K hK=>?_);go_simp;split<;>(refine hK _ ?_;clear hK K)))));all_goals (refine wpQuiet_nil ?_;intro w1 hb1;obtain⟨x1,rfl⟩:=za hb1;clear hb1))
  go_wp2_with fail;refine zd (by simp only[results,Tryz.results145];go_simp<;>rfl) rfl gw ?_;exact Sl.one (by simp[Fr];try omega) (by simp;try omega) om om ⟨rfl,hq64⟩ cel
 ·obtain⟨ld,Hld⟩:∃ l,Hid (leads y.jump=l):=⟨_,Lib.hid rfl⟩
  have He:Hid (zce f q=ld.map (fun t=>((zq (lensF f) t.toNat:Nat):Int))):=Lib.hid (by
   unfold zce;rw[hp.nexts];unfold nextP;rw[if_neg (by rw[←Hyn.out];exact hlt),Hld.out];simp only[List.map_map];apply List.map_congr_left;intro t _;simp[numF])
  have Hlt:Hid (∀ t∈ld,0≤t∧t<(n2:Int)):=Lib.hid (by rw[hn2,←Hld.out];exact hld.2);have Hl2:Hid (ld.length≤2):=Lib.hid (by rw[←Hld.out];exact zg1 _);have hjw:=hw_y.jump;rw[He.out];clear hld hn2;go_enter Tryz.func145,Tryz.ntmps145
  go_wp2_with (first|(go_at_call 139;((with_reducible refine armV (zd1 f _ _ _ h1.m h2.m Hok.out hp) ?_);intro x3)))
  (refine zg (by kernel_rfl) (by kernel_rfl) ?_;(repeat (any_goals (first|go_big_quiet_step (first|fail)|(refine wpQuiet_step (fun K hK=>?_);go_simp;split<;>(refine hK _ ?_;clear hK K)))));all_goals (refine wpQuiet_nil ?_;intro w1 hb1;obtain⟨x1,rfl⟩:=za hb1;clear hb1))
  go_wp2_with (first|(go_at_call 128;((with_reducible refine(zj8 y.jump _ _ hjw y_jump_args.m).mono ?_);rintro e w4 ⟨v4,rfl,hs4,hb4⟩;obtain⟨x4,rfl⟩:=za hb4;clear hb4;rw[Hld.out] at hs4;obtain⟨a4,n4,cap4,rfl,Hn4,hm4,hcap4,hcm4,hs4⟩:=hs4.open)));have hn4:n4≤2:=by rw[Hn4.out];exact Hl2.out
  go_loopw [6,8] (fun tv ti wr=>∃ k:Nat,k≤n4∧ti = .int .i64 k∧Grow (ext (ext ((ext (w.alloc (bxFn f (.slice a n cap) (.slice (some ⟨b_y,off_y,none⟩) n2 cap2))) x3).alloc (.cells #[.int .i64 b,.int .i64 i] 165)) x1) x4) wr∧Own (fun _=>False) (ext (ext ((ext (w.alloc (bxFn f (.slice a n cap) (.slice (some ⟨b_y,off_y,none⟩) n2 cap2))) x3).alloc (.cells #[.int .i64 b,.int .i64 i] 165)) x1) x4).heap.size 3 wr tv ((ld.take k).map (fun t=>((zq (lensF f) t.toNat:Nat):Int)))) (fun _ ti _=>n4 - (intOf ti).toNat)
  case atStart=>exact⟨0,Nat.zero_le _,rfl,gw,Own.nil _ _ _ _⟩
  case round =>
   obtain⟨k,hk,rfl,hb1,hown⟩:=hrel;obtain⟨y1,rfl⟩:=za hb1;by_cases hlt4:k<n4
   ·obtain⟨g4,o4,t,rfl,⟨Ht,htl,htw,hct⟩⟩:=hs4.int k hlt4;obtain⟨tn,rfl⟩:=Int.eq_ofNat_of_zero_le (Hlt.out t (List.mem_of_getElem? Ht.out)).1;have htn:tn<n2:=by have:=(Hlt.out (tn:Int) (List.mem_of_getElem? Ht.out)).2;omega
    have Hsn:Hid ((ld.take (k+1)).map (fun t=>((zq (lensF f) t.toNat:Nat):Int))=(ld.take k).map (fun t=>((zq (lensF f) t.toNat:Nat):Int))++[((zq (lensF f) tn:Nat):Int)]):=Lib.hid (by rw[List.take_add_one,Ht.out,List.map_append];simp);have hsr:=zg4 f tn;have h64:I64 ((zq (lensF f) tn:Nat):Int):=⟨by omega,by omega⟩
    have hml:((ld.take k).map (fun t=>((zq (lensF f) t.toNat:Nat):Int))).length≤2:=by rw[List.length_map,List.length_take];have:=Hl2.out;omega
    go_wp2_with fail
    ((refine zv 12 10 (by kernel_rfl) (by rfl) (by decide) ?_);(iterate 10 (all_goals (first|((first|refine Tq 0 ?_|refine Tq 1 ?_|refine Tq 3 ?_|refine Tq 4 ?_|refine Tq 5 ?_|refine Tq 6 ?_|refine Tq 2 ?_|refine Tq 7 ?_|refine Tq 8 ?_|refine Tq 9 ?_);(first|go_big_quiet_step (fail)|(refine wpQuiet_step (fun K hK=>?_);go_simp;split<;>(refine hK _ ?_;clear hK K)));refine wpQuiet_nil ?_)|((first|refine Tf 0 ?_|refine Tf 1 ?_|refine Tf 3 ?_|refine Tf 4 ?_|refine Tf 5 ?_|refine Tf 6 ?_|refine Tf 2 ?_|refine Tf 7 ?_|refine Tf 8 ?_|refine Tf 9 ?_);intro xg K hK;go_wp2_with (((go_at_call 99;((with_reducible refine armS (zgk f _ _ _ h1.m h2.m Hok.out) ?_);intro a6 n6 cap6 x6 Hn6 hm6 hcap6 hcm6 hs6));(have hn6:n6=n2+1:=by rw[Hn6.out,zh3,Hn2.out]);obtain⟨g6,o6,rfl,hgl6⟩:=hs6.addr om;have hc6:=(hs6.intAt (zh4 (f:=f) (k:=f.blocks.length) (b:=tn) (by have:=Hn2.out;omega))).1));refine hK _ _ gw ?_;clear hK K))));all_goals (refine zap (by decide +kernel) ?_;intro xR K hK;simp only[List.drop_succ_cons,List.drop_zero];go_wp2_with (((at_builtin;go_must (refine zh (α:=Int) zau rfl rfl rfl (hown) gw (by first|exact Nat.le_refl _|(simp;done)|(simp;omega)) (by first|(simp;done)|(simp;omega)) rfl (y:=((zq (lensF f) tn:Nat):Int)) (Gy:=fun _=>False) (⟨rfl,h64⟩) (fun _ h=>h.elim) cel (by simp[Value.oneCell']) om om ?_);intro tv7 x7 ho7 hsz7 hagr7)));refine hK _ _ ?_;clear hK K))
    go_wp2_with fail;go_roundw
    case rel=>exact⟨k+1,by omega,by go_num,gw,by rw[Hsn.out];exact ho7⟩
    case measure=>exact me
   ·have e:ld.take k=ld:=List.take_of_length_le (by have:=Hn4.out;omega);rw[e] at hown;clear e;go_wp2_with fail;refine zd (by simp only[results,Tryz.results145];go_simp<;>rfl) rfl gw ?_;exact(hown.sl.wide (fun b hb hF=>by rcases hF with hF|hF;exact hF.elim;exact Or.inr (by first|omega|(simp at hF;omega)))).mono gw
theorem Ro.startN {N : Nat}{act : (Nat→Bool)→Nat→Bool}{nx : Nat→List Nat}{P : Nat→Prop}{h0 : Nat→Bool}(n : Nat)(hP : ∀ x,h0 x=true→P x): Ro N act nx P h0 (zj N h0+1) n [] h0 true :=
 {sound:=hP,old:=fun _ h=>h,clo:=fun h=>(Bool.noConfusion h),here:=fun h=>(Bool.noConfusion h),cnt:=by simp }
theorem zcf (W : World)(o : Obj)(y : Ext): (ext (W.alloc o) y).heap[W.heap.size]?=some o:=by
 rw[(zw (W.alloc o) y).block _ (by simp)];exact Array.getElem?_push_size
theorem zth (W : World)(x y : Ext): ∃ z,ext (ext W x) y=ext W z:=za ((zw W x).trans (zw _ y))
theorem zev {f : Fn}{k j : Nat}{r : Int}(h : (zce f k)[j]?=some r): ∃ rn : Nat,r=rn∧(nexts f k)[j]?=some rn:=by
 unfold zce at h;rw[List.getElem?_map] at h;obtain⟨rn,h1,h2⟩:=Option.map_eq_some_iff.1 h;exact⟨rn,h2.symm,h1⟩
theorem zew (f : Fn)(k : Nat): (zce f k).length=(nexts f k).length:=by unfold zce;simp
theorem zg5 {f : Fn}{k b i : Nat}{x : Bk}(h : PtAt f k b i x): (nexts f k).length≤2:=by
 rw[h.nexts,List.length_map];unfold nextP;split
 ·simp
 ·rw[List.length_map];exact zg1 _
theorem zex {l : List Nat}{j rn : Nat}(h : l[j]?=some rn): l.take (j+1)=l.take j++[rn]:=by rw[List.take_add_one,h];rfl
theorem zow (f : Fn)(v1 v2 : Value)(w : World){F F' : Nat→Prop}(h1 : Sl F w v1 f.locals)(h2 : Sl F' w v2 f.blocks)(hok : fnErr f=0):
  Calls Tryz.prog 205 #[f.v v1 v2] w (RetP w fun v w'=>Sl (Fresh w) w' v (bL (zb f) (wayB f))):=by
 obtain⟨a,n,cap,rfl,Hn,hm,hcap,hcm,h1⟩:=h1.open;obtain⟨a2,n2,cap2,rfl,Hn2,hm2,hcap2,hcm2,h2⟩:=h2.open;have Hok:=Lib.hid hok;have hN1:=zah hok;have hN6:=zp hok;clear hok;have Hway:=Lib.hid (fun hh c0 s q=>@zud f Hok.out hh c0 s q);have Hsz:=Lib.hid fun (w':World) (k1:Sl F w' (.slice a n cap) f.locals) (k2:Sl F' w' (.slice a2 n2 cap2) f.blocks)=>zcp f _ _ w' k1 k2 Hok.out;have Hpt:Hid (∀ q,q<zb f→∃ b i x,PtAt f q b i x):=Lib.hid fun q h=>PtAt.of h;have Hlt:Hid (∀ q r,r∈nexts f q→r<zb f):=Lib.hid fun q r h=>(zar Hok.out h).2;generalize (zb f)=N at Hway Hsz Hpt Hlt hN1 hN6 ⊢;have hz0:∀ h,(bA N h).setIfInBounds 0 (.bool true)=bA N (up h 0 true):=fun h=>zcm N h 0 true om;have hy0:∀ h,(bA N h)[0]?=some (.bool (h 0)):=fun h=>zan N h 0 om;go_enter Tryz.func205,Tryz.ntmps205
 go_wp2_with (first|(go_at_call 61;((with_reducible refine armV (Hsz.out _ h1.m h2.m) ?_);intro x3))|(at_make;refine zam (bytes:=1) rfl rfl Tryz.underlying66 (by kernel_rfl) rfl rfl om om ?_));clear hz0 hy0;go_loopg [4] (2 * zj N (up (fun _=>false) 0 true)+1) (fun g mv wr=>∃ (mo:Bool) (h:Nat→Bool) (y:Ext) (c0:Nat),mv = .bool mo∧wr=ext ((ext (w.alloc (bxFn f (.slice a n cap) (.slice a2 n2 cap2))) x3).alloc (.cells (bA N h) 4)) y∧Hid (Ro N (fun h n=>h n) (nexts f) (Way f) (up (fun _=>false) 0 true) c0 N [] h mo)∧Hid (g=2 * zj N h+mo.toNat))
 case atStart=>exact⟨true,_,_,_,rfl,(zbi _).symm,Lib.hid (Ro.startN N (fun x hx=>by unfold up at hx;split at hx;rename_i e;subst e;exact Way.start;cases hx)),Lib.hid rfl⟩
 case round =>
  obtain⟨mo,h,y,c0,rfl,rfl,HR,Hg⟩:=hrel;cases mo
  ·have He:Hid (bL N h=bL N (wayB f)):=Lib.hid (zcv fun i _=>Hway.out h c0 HR.out i);go_wp2_with fail;refine zd (by simp only[results,Tryz.results205];go_simp<;>rfl) rfl gw ?_;rw[←He.out];have hh:=zcf (ext (w.alloc (bxFn f (.slice a n cap) (.slice a2 n2 cap2))) x3) (.cells (bA N h) 4) y;rw[show (ext (w.alloc (bxFn f (.slice a n cap) (.slice a2 n2 cap2))) x3).heap.size=w.heap.size+1+x3.k from by simp] at hh;exact Sl.bools hh (Or.inr om) om
  ·go_wp2_with fail;go_loopw [4,5] (fun mv tv wr=>∃ (k:Nat) (mo:Bool) (h' : Nat→Bool) (y' : Ext),k≤N∧tv = .int .i64 k∧mv = .bool mo∧wr=ext ((ext (w.alloc (bxFn f (.slice a n cap) (.slice a2 n2 cap2))) x3).alloc (.cells (bA N h') 4)) y'∧Hid (Ro N (fun h n=>h n) (nexts f) (Way f) (up (fun _=>false) 0 true) (zj N h) k [] h' mo)) (fun _ tv _=>N - (intOf tv).toNat)
   case atStart=>exact⟨0,false,h,y,Nat.zero_le _,rfl,rfl,rfl,Lib.hid HR.out.again⟩
   case round =>
    obtain⟨k,mo,h',y',hk,rfl,rfl,rfl,HR'⟩:=hrel;by_cases hlt:k<N
    ·obtain⟨pb,pi,px,hp⟩:=Hpt.out k hlt;have hl2:=zg5 hp;go_wp2_with (first|(go_at_call 145;((with_reducible refine armS (zeu f _ _ _ h1.m h2.m Hok.out hp) ?_);intro a4 n4 cap4 x4 Hn4 hm4 hcap4 hcm4 hs4)));have Hn4' : Hid (n4=(nexts f k).length):=Lib.hid (by rw[Hn4.out,zew]);have hn4:n4≤2:=by rw[Hn4'.out];exact hl2
     have Hall:Hid (∀ h'' : Nat→Bool,Sl (Fresh (ext ((ext (w.alloc (bxFn f (.slice a n cap) (.slice a2 n2 cap2))) x3).alloc (.cells (bA N h') 4)) y')) (ext (ext ((ext (w.alloc (bxFn f (.slice a n cap) (.slice a2 n2 cap2))) x3).alloc (.cells (bA N h'') 4)) y') x4) (.slice a4 n4 cap4) (zce f k)):=Lib.hid fun h''=>hs4.swap1 (by intro hF;rcases hF with hF|hF;exact hF;simp at hF;omega);clear hl2 hs4;go_loopw [4,7] (fun mv tv wr=>∃ (j:Nat) (mo' : Bool) (h'' : Nat→Bool),j≤n4∧tv = .int .i64 j∧mv = .bool mo'∧wr=ext (ext ((ext (w.alloc (bxFn f (.slice a n cap) (.slice a2 n2 cap2))) x3).alloc (.cells (bA N h'') 4)) y') x4∧Hid (Ro N (fun h n=>h n) (nexts f) (Way f) (up (fun _=>false) 0 true) (zj N h) k ((nexts f k).take j) h'' mo')) (fun _ tv _=>n4 - (intOf tv).toNat)
     case atStart=>exact⟨0,mo,h',Nat.zero_le _,rfl,rfl,rfl,HR'⟩
     case round =>
      obtain⟨j,mo',h'',hj,rfl,rfl,rfl,HR''⟩:=hrel;obtain⟨z,Hz⟩:∃ z,Hid (ext (ext ((ext (w.alloc (bxFn f (.slice a n cap) (.slice a2 n2 cap2))) x3).alloc (.cells (bA N h'') 4)) y') x4=ext ((ext (w.alloc (bxFn f (.slice a n cap) (.slice a2 n2 cap2))) x3).alloc (.cells (bA N h'') 4)) z):=zth _ _ _;by_cases hlt4:j<n4
      ·have hgk:∀ h,(bA N h)[k]?=some (.bool (h k)):=fun h=>zan N h k hlt;cases hk'' : h'' k
       ·have Hnx:=Lib.hid (HR''.out.next (fun hh=>by rw[hk''] at hh;cases hh));go_wp2_with fail;go_roundw
        case rel=>exact⟨k+1,mo',h'',z,by omega,by go_num,rfl,Hz.out,Hnx⟩
        case measure=>exact me
       ·obtain⟨g4,o4,r,rfl,⟨Hr,hrl,hrw,hcr⟩⟩:=(Hall.out h'').int j hlt4;obtain⟨rn,rfl,hrn⟩:=zev Hr.out;have hmem:=List.mem_of_getElem? hrn;have hrN:=Hlt.out k rn hmem;have hgr:∀ h,(bA N h)[rn]?=some (.bool (h rn)):=fun h=>zan N h rn hrN;have hsr:∀ h,(bA N h).setIfInBounds rn (.bool true)=bA N (up h rn true):=fun h=>zcm N h rn true hrN;have Hst:=Lib.hid (HR''.out.step hrN (Way.step (HR''.out.sound k hk'') hmem));rw[←zex hrn] at Hst;clear hmem hrn;cases mo'
        ·go_wp2_with fail;go_roundw
         case rel=>exact⟨j+1,!h'' rn,up h'' rn true,by omega,by go_num,rfl,rfl,by simpa using Hst⟩
         case measure=>exact me
        ·go_wp2_with fail;go_roundw
         case rel=>exact⟨j+1,true,up h'' rn true,by omega,by go_num,rfl,rfl,by simpa using Hst⟩
         case measure=>exact me
      ·have Hnx:=Lib.hid (HR''.out.next (fun _ r hr=>by rw[List.take_of_length_le (by rw[←Hn4'.out];omega)];exact hr));go_wp2_with fail;go_roundw
       case rel=>exact⟨k+1,mo',h'',z,by omega,by go_num,rfl,Hz.out,Hnx⟩
       case measure=>exact me
    ·obtain rfl:k=N:=om;have hcnt:=HR'.out.cnt;go_wp2_with fail;go_roundg (2 * zj k h'+mo.toNat)
     case measure=>have:=Hg.out;simp at this;omega
     case rel=>exact⟨mo,h',y',zj k h,rfl,rfl,HR',Lib.hid rfl⟩
theorem Sl.swap0 {α : Type}[Rp α]{F : Nat→Prop}{B : World}{c c' : Obj}{x : Ext}{v : Value}{xs : List α}(h : Sl F (ext (B.alloc c) x) v xs)(hb : ¬F B.heap.size): Sl F (ext (B.alloc c') x) v xs :=
 h.keep ((AgrS.alloc (AgrS.refl _ _) hb _ _).ext x).agr
theorem z2r {us k se : Bool}(h : (us||(k&&!se))=true): us=true∨(us=false∧k=true∧se=false):=by
 cases us<;>cases k<;>cases se<;>simp at h ⊢
theorem go_no {us k se : Bool}(h : ¬(us||(k&&!se))=true): us=false∧(k=false∨(k=true∧se=true)):=by
 cases us<;>cases k<;>cases se<;>simp at h ⊢
theorem z2s {wy us k se : Bool}(h : ¬(us||(k&&!se))=true): (wy&&(us||(k&&!se)))=false:=by
 have:(us||(k&&!se))=false:=by simpa using h
 rw[this];simp
theorem zrw (f : Fn)(v1 v2 : Value)(w : World){F F' : Nat→Prop}(h1 : Sl F w v1 f.locals)(h2 : Sl F' w v2 f.blocks)(hok : fnErr f=0)(t : Nat):
  Calls Tryz.prog 179 #[f.v v1 v2,.int .i64 (t:Nat)] w (RetP w fun v w'=>Sl (Fresh w) w' v (bL (zb f) (unB f t))):=by
 obtain⟨a,n,cap,rfl,Hn,hm,hcap,hcm,h1⟩:=h1.open;obtain⟨a2,n2,cap2,rfl,Hn2,hm2,hcap2,hcm2,h2⟩:=h2.open;have Hok:=Lib.hid hok;have hN1:=zah hok;have hN6:=zp hok;clear hok;have Hun:=Lib.hid (fun hh c0 s q=>@zvw f Hok.out t hh c0 s q);have Hre:=Lib.hid fun (w':World) (k1:Sl F w' (.slice a n cap) f.locals) (k2:Sl F' w' (.slice a2 n2 cap2) f.blocks)=>zow f _ _ w' k1 k2 Hok.out;have Hpt:Hid (∀ q,q<zb f→∃ b i x,PtAt f q b i x):=Lib.hid fun q h=>PtAt.of h;have Hlt:Hid (∀ q r,r∈nexts f q→r<zb f):=Lib.hid fun q r h=>(zar Hok.out h).2;have H0:Hid (un0 f t=up (fun _=>false) 0 (decide ((t:Int)<1)||decide (f.params<(t:Int)))):=Lib.hid (by
  have e:decide ((t:Int)<1)=decide (t<1):=decide_eq_decide.2 om;rw[e];rfl)
 generalize (zb f)=N at Hun Hre Hpt Hlt hN1 hN6 ⊢;have hz0:∀ h v,(bA N h).setIfInBounds 0 (.bool v)=bA N (up h 0 v):=fun h v=>zcm N h 0 v om;have hy0:∀ h,(bA N h)[0]?=some (.bool (h 0)):=fun h=>zan N h 0 om;go_enter Tryz.func179,Tryz.ntmps179
 go_upto_region 3 with (first|((go_at_call 205;((with_reducible refine armS (Hre.out _ h1.m h2.m) ?_);intro a3 n3 cap3 x3 Hn3 hm3 hcap3 hcm3 hs3));(have hn3:n3=N:=by rw[Hn3.out,zdz]);subst hn3)|(at_make;refine zam (bytes:=1) rfl rfl Tryz.underlying66 (by kernel_rfl) rfl rfl om om ?_))
 obtain⟨g3,o3,rfl,hgl3⟩:=hs3.addr om;cases hd:decide ((t:Int)<1);all_goals
  rw[hd] at H0;simp only[Bool.false_or,Bool.true_or] at H0;go_wp2_with fail;clear hz0 hy0 hd;go_loopg [7] (2 * zj n3 (un0 f t)+1) (fun g mv wr=>∃ (mo:Bool) (h:Nat→Bool) (c0:Nat),mv = .bool mo∧Grow ((ext (w.alloc (bxFn f (.slice a n cap) (.slice a2 n2 cap2))) x3).alloc (.cells (bA n3 h) 4)) wr∧Hid (Ro n3 (actU f t) (nexts f) (Un f t) (un0 f t) c0 n3 [] h mo)∧Hid (g=2 * zj n3 h+mo.toNat))
  case atStart=>exact⟨true,_,zj n3 (un0 f t)+1,rfl,Grow.refl _,Lib.hid (by rw[←H0.out];exact Ro.startN n3 (fun x hx=>z2k hx)),Lib.hid (by rw[←H0.out];rfl)⟩
  case round =>
   obtain⟨mo,h,c0,rfl,hgr,HR,Hg⟩:=hrel;obtain⟨y,rfl⟩:=za hgr;cases mo
   ·have He:Hid (bL n3 h=bL n3 (unB f t)):=Lib.hid (zcv fun i _=>Hun.out h c0 HR.out i);go_wp2_with fail;refine zd (by simp only[results,Tryz.results179];go_simp<;>rfl) rfl gw ?_;rw[←He.out];have hh:=zcf (ext (w.alloc (bxFn f (.slice a n cap) (.slice a2 n2 cap2))) x3) (.cells (bA n3 h) 4) y;rw[show (ext (w.alloc (bxFn f (.slice a n cap) (.slice a2 n2 cap2))) x3).heap.size=w.heap.size+1+x3.k from by simp] at hh;exact Sl.bools hh (Or.inr om) om
   ·go_wp2_with fail;go_loopw [7,8] (fun mv tv wr=>∃ (k:Nat) (mo:Bool) (h' : Nat→Bool),k≤n3∧tv = .int .i64 k∧mv = .bool mo∧Grow ((ext (w.alloc (bxFn f (.slice a n cap) (.slice a2 n2 cap2))) x3).alloc (.cells (bA n3 h') 4)) wr∧Hid (Ro n3 (actU f t) (nexts f) (Un f t) (un0 f t) (zj n3 h) k [] h' mo)) (fun _ tv _=>n3 - (intOf tv).toNat)
    case atStart=>exact⟨0,false,h,Nat.zero_le _,rfl,rfl,gw,Lib.hid HR.out.again⟩
    case round =>
     obtain⟨k,mo,h',hk,rfl,rfl,hgr',HR'⟩:=hrel;obtain⟨y',rfl⟩:=za hgr';by_cases hlt:k<n3
     ·obtain⟨pb,pi,px,hp⟩:=Hpt.out k hlt;have hl2:=zg5 hp;have hgk:∀ h,(bA n3 h)[k]?=some (.bool (h k)):=fun h=>zan n3 h k hlt;have hcw:=hs3.boolAt (zep (wayB f) hlt);have Huc:=Lib.hid fun (w':World) (k1:Sl F w' (.slice a n cap) f.locals) (k2:Sl F' w' (.slice a2 n2 cap2) f.blocks)=>zp8 f _ _ w' k1 k2 Hok.out hp t;have Hsc:=Lib.hid fun (w':World) (k1:Sl F w' (.slice a n cap) f.locals) (k2:Sl F' w' (.slice a2 n2 cap2) f.blocks)=>zl2 f _ _ w' k1 k2 Hok.out hp t;have Hac:Hid (∀ h,actU f t h k=(wayB f k&&(zbw (coF f k) t||(h k&&!setsC (coF f k) t)))):=Lib.hid fun h=>rfl;obtain⟨us,Hus⟩:∃ us,Hid (zbw (coF f k) t=us):=⟨_,Lib.hid rfl⟩
      obtain⟨se,Hse⟩:∃ se,Hid (setsC (coF f k) t=se):=⟨_,Lib.hid rfl⟩
      obtain⟨wy,Hwy⟩:∃ wy,Hid (wayB f k=wy):=⟨_,Lib.hid rfl⟩
      obtain⟨hk1,Hk1⟩:∃ b,Hid (h' k=b):=⟨_,Lib.hid rfl⟩
      rw[Hus.out,Hse.out,Hwy.out] at Hac;rw[Hus.out] at Huc;rw[Hse.out] at Hsc;rw[Hwy.out] at hcw;by_cases hgo:(us||(hk1&&!se))=true
      ·-- the point may hand on
       have Hact:Hid (wy=true→actU f t h' k=true):=Lib.hid fun e=>by rw[Hac.out,e,Hk1.out,hgo];rfl
       have hgo2:(us=true)∨(us=false∧h' k=true∧se=false):=by
        rw[Hk1.out];exact z2r hgo
       clear hgo;rcases hgo2 with rfl|⟨rfl,hk2,rfl⟩
       ·go_wp2_with (first|(go_at_call 206;((with_reducible refine armV (Huc.out _ h1.m h2.m) ?_);intro x7))|(go_at_call 207;((with_reducible refine armV (Hsc.out _ h1.m h2.m) ?_);intro x8))|(go_at_call 145;((with_reducible refine armS (zeu f _ _ _ h1.m h2.m Hok.out hp) ?_);intro a4 n4 cap4 x4 Hn4 hm4 hcap4 hcm4 hs4)));have Hn4' : Hid (n4=(nexts f k).length):=Lib.hid (by rw[Hn4.out,zew]);have hn4:n4≤2:=by rw[Hn4'.out];exact hl2
        obtain⟨z,hz⟩:=za (show Grow ((ext (w.alloc (bxFn f (.slice a n cap) (.slice a2 n2 cap2))) x3).alloc (.cells (bA n3 h') 4)) (ext (ext (ext ((ext (w.alloc (bxFn f (.slice a n cap) (.slice a2 n2 cap2))) x3).alloc (.cells (bA n3 h') 4)) y') x7) x4) from gw);rw[hz] at hs4 ⊢;clear hz;have Hall:Hid (∀ h'' : Nat→Bool,Sl (fun k=>(ext (w.alloc (bxFn f (.slice a n cap) (.slice a2 n2 cap2))) x3).heap.size<k) (ext ((ext (w.alloc (bxFn f (.slice a n cap) (.slice a2 n2 cap2))) x3).alloc (.cells (bA n3 h'') 4)) z) (.slice a4 n4 cap4) (zce f k)):=Lib.hid fun h''=>(hs4.wide (F':=fun k=>(ext (w.alloc (bxFn f (.slice a n cap) (.slice a2 n2 cap2))) x3).heap.size<k) (by intro k _ hF;rcases hF with hF|hF;exact hF.elim;simp at hF ⊢;omega)).swap0 om;clear hl2 hs4;go_loopw [7,10] (fun mv tv wr=>∃ (j:Nat) (mo' : Bool) (h'' : Nat→Bool),j≤n4∧tv = .int .i64 j∧mv = .bool mo'∧wr=ext ((ext (w.alloc (bxFn f (.slice a n cap) (.slice a2 n2 cap2))) x3).alloc (.cells (bA n3 h'') 4)) z∧Hid (Ro n3 (actU f t) (nexts f) (Un f t) (un0 f t) (zj n3 h) k ((nexts f k).take j) h'' mo')) (fun _ tv _=>n4 - (intOf tv).toNat)
        case atStart=>exact⟨0,mo,h',Nat.zero_le _,rfl,rfl,rfl,HR'⟩
        case round =>
         obtain⟨j,mo',h'',hj,rfl,rfl,rfl,HR''⟩:=hrel;by_cases hlt4:j<n4
         ·cases wy
          ·have Hnx:=Lib.hid (HR''.out.next (fun hh=>by rw[Hac.out] at hh;cases hh));go_wp2_with fail;go_roundw
           case rel=>exact⟨k+1,mo',h'',by omega,by go_num,rfl,gw,Hnx⟩
           case measure=>exact me
          ·obtain⟨g4,o4,r,rfl,⟨Hr,hrl,hrw,hcr⟩⟩:=(Hall.out h'').int j hlt4;obtain⟨rn,rfl,hrn⟩:=zev Hr.out;have hmem:=List.mem_of_getElem? hrn;have hrN:=Hlt.out k rn hmem;have hgr:∀ h,(bA n3 h)[rn]?=some (.bool (h rn)):=fun h=>zan n3 h rn hrN;have hsr:∀ h,(bA n3 h).setIfInBounds rn (.bool true)=bA n3 (up h rn true):=fun h=>zcm n3 h rn true hrN;have Hst:=Lib.hid (HR''.out.step hrN (zvv HR'.out.sound (Hact.out rfl) hmem));rw[←zex hrn] at Hst;clear hmem hrn;cases mo'
           ·go_wp2_with fail;go_roundw
            case rel=>exact⟨j+1,!h'' rn,up h'' rn true,by omega,by go_num,rfl,rfl,by simpa using Hst⟩
            case measure=>exact me
           ·go_wp2_with fail;go_roundw
            case rel=>exact⟨j+1,true,up h'' rn true,by omega,by go_num,rfl,rfl,by simpa using Hst⟩
            case measure=>exact me
         ·have Hnx:=Lib.hid (HR''.out.next (fun _ r hr=>by rw[List.take_of_length_le (by rw[←Hn4'.out];omega)];exact hr));go_wp2_with fail;go_roundw
          case rel=>exact⟨k+1,mo',h'',by omega,by go_num,rfl,gw,Hnx⟩
          case measure=>exact me
       ·go_wp2_with (first|(go_at_call 206;((with_reducible refine armV (Huc.out _ h1.m h2.m) ?_);intro x7))|(go_at_call 207;((with_reducible refine armV (Hsc.out _ h1.m h2.m) ?_);intro x8))|(go_at_call 145;((with_reducible refine armS (zeu f _ _ _ h1.m h2.m Hok.out hp) ?_);intro a4 n4 cap4 x4 Hn4 hm4 hcap4 hcm4 hs4)));have Hn4' : Hid (n4=(nexts f k).length):=Lib.hid (by rw[Hn4.out,zew]);have hn4:n4≤2:=by rw[Hn4'.out];exact hl2
        obtain⟨z,hz⟩:=za (show Grow ((ext (w.alloc (bxFn f (.slice a n cap) (.slice a2 n2 cap2))) x3).alloc (.cells (bA n3 h') 4)) (ext (ext (ext (ext ((ext (w.alloc (bxFn f (.slice a n cap) (.slice a2 n2 cap2))) x3).alloc (.cells (bA n3 h') 4)) y') x7) x8) x4) from gw);rw[hz] at hs4 ⊢;clear hz;have Hall:Hid (∀ h'' : Nat→Bool,Sl (fun k=>(ext (w.alloc (bxFn f (.slice a n cap) (.slice a2 n2 cap2))) x3).heap.size<k) (ext ((ext (w.alloc (bxFn f (.slice a n cap) (.slice a2 n2 cap2))) x3).alloc (.cells (bA n3 h'') 4)) z) (.slice a4 n4 cap4) (zce f k)):=Lib.hid fun h''=>(hs4.wide (F':=fun k=>(ext (w.alloc (bxFn f (.slice a n cap) (.slice a2 n2 cap2))) x3).heap.size<k) (by intro k _ hF;rcases hF with hF|hF;exact hF.elim;simp at hF ⊢;omega)).swap0 om;clear hl2 hs4;go_loopw [7,10] (fun mv tv wr=>∃ (j:Nat) (mo' : Bool) (h'' : Nat→Bool),j≤n4∧tv = .int .i64 j∧mv = .bool mo'∧wr=ext ((ext (w.alloc (bxFn f (.slice a n cap) (.slice a2 n2 cap2))) x3).alloc (.cells (bA n3 h'') 4)) z∧Hid (Ro n3 (actU f t) (nexts f) (Un f t) (un0 f t) (zj n3 h) k ((nexts f k).take j) h'' mo')) (fun _ tv _=>n4 - (intOf tv).toNat)
        case atStart=>exact⟨0,mo,h',Nat.zero_le _,rfl,rfl,rfl,HR'⟩
        case round =>
         obtain⟨j,mo',h'',hj,rfl,rfl,rfl,HR''⟩:=hrel;by_cases hlt4:j<n4
         ·cases wy
          ·have Hnx:=Lib.hid (HR''.out.next (fun hh=>by rw[Hac.out] at hh;cases hh));go_wp2_with fail;go_roundw
           case rel=>exact⟨k+1,mo',h'',by omega,by go_num,rfl,gw,Hnx⟩
           case measure=>exact me
          ·obtain⟨g4,o4,r,rfl,⟨Hr,hrl,hrw,hcr⟩⟩:=(Hall.out h'').int j hlt4;obtain⟨rn,rfl,hrn⟩:=zev Hr.out;have hmem:=List.mem_of_getElem? hrn;have hrN:=Hlt.out k rn hmem;have hgr:∀ h,(bA n3 h)[rn]?=some (.bool (h rn)):=fun h=>zan n3 h rn hrN;have hsr:∀ h,(bA n3 h).setIfInBounds rn (.bool true)=bA n3 (up h rn true):=fun h=>zcm n3 h rn true hrN;have Hst:=Lib.hid (HR''.out.step hrN (zvv HR'.out.sound (Hact.out rfl) hmem));rw[←zex hrn] at Hst;clear hmem hrn;cases mo'
           ·go_wp2_with fail;go_roundw
            case rel=>exact⟨j+1,!h'' rn,up h'' rn true,by omega,by go_num,rfl,rfl,by simpa using Hst⟩
            case measure=>exact me
           ·go_wp2_with fail;go_roundw
            case rel=>exact⟨j+1,true,up h'' rn true,by omega,by go_num,rfl,rfl,by simpa using Hst⟩
            case measure=>exact me
         ·have Hnx:=Lib.hid (HR''.out.next (fun _ r hr=>by rw[List.take_of_length_le (by rw[←Hn4'.out];omega)];exact hr));go_wp2_with fail;go_roundw
          case rel=>exact⟨k+1,mo',h'',by omega,by go_num,rfl,gw,Hnx⟩
          case measure=>exact me
      ·-- it does not
       have Hac0:Hid (actU f t h' k=false):=Lib.hid (by rw[Hac.out,Hk1.out];exact z2s hgo);have Hnx:=Lib.hid (HR'.out.next (fun hh=>by rw[Hac0.out] at hh;cases hh));have hgo2:us=false∧((h' k=false)∨(h' k=true∧se=true)):=by
        rw[Hk1.out];exact go_no hgo
       clear hl2 hgo;obtain⟨rfl,hgo3⟩:=hgo2;rcases hgo3 with hk2|⟨hk2,rfl⟩;all_goals
        go_wp2_with (first|(go_at_call 206;((with_reducible refine armV (Huc.out _ h1.m h2.m) ?_);intro x7))|(go_at_call 207;((with_reducible refine armV (Hsc.out _ h1.m h2.m) ?_);intro x8)));go_roundw
        case rel=>exact⟨k+1,mo,h',by omega,by go_num,rfl,gw,Hnx⟩
        case measure=>exact me
     ·obtain rfl:k=n3:=om;have hcnt:=HR'.out.cnt;go_wp2_with fail;go_roundg (2 * zj k h'+mo.toNat)
      case measure=>have:=Hg.out;simp at this;omega
      case rel=>exact⟨mo,h',zj k h,rfl,gw,HR',Lib.hid rfl⟩
end Go.Proofs.YtacmoaeglbggjaaGreat
