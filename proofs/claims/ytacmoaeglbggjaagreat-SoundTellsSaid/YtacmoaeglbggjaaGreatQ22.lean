/- A part of the proof. -/
import Derived.Test.YtacmoaeglbggjaaGreatQ19
namespace Go.Proofs.YtacmoaeglbggjaaGreat
open Go.RowKit
set_option linter.unusedSimpArgs false
set_option linter.unusedVariables false
set_option maxRecDepth 100000
set_option maxHeartbeats 16000000
theorem zqm {f : Fn}{n : Nat}{y : Int}(h : y∈lptP f n): 0≤y∧y<(n : Int):=by
 unfold lptP at h;obtain⟨x,hx,rfl⟩:=List.mem_map.1 h;obtain⟨q,hq,hx⟩:=zn2 hx;unfold loanC at hx;split at hx
 ·split at hx
  ·rw[List.mem_singleton] at hx;subst hx;simp;omega
  ·cases hx
 ·cases hx
theorem zwl {f : Fn}{q : Nat}(hq : q<zb f){s : St}(hc : coF f q = .st s)(h1 : s.kind=1)(h4 : s.r.kind=4): lidx (lptP f (zb f)) (q : Int) 0=((zy f q).length : Nat):=by
 have key:∀ n,q<n→∃ r,lptP f n=lptP f q++(q:Int)::r:=by
  intro n;induction n with
  |zero=>intro h;omega
  |succ n ih =>
   intro h;rw[zn1];by_cases e:q=n
   ·subst e;rw[hc,zto,if_pos ⟨h1,h4⟩];exact⟨[],rfl⟩
   ·obtain⟨r,hr⟩:=ih om;rw[hr];exact⟨r++lptC n (coF f n),by simp⟩
 obtain⟨r,hr⟩:=key _ hq;rw[hr,ztq _ _ _ _ (fun y hy=>by have:=zqm hy;omega)];simp[lptP]
structure QC where
 c:Array Value
 x:Ext
instance : Inhabited QC:=⟨⟨#[],default⟩⟩
theorem zwm (f : Fn)(v1 v2 : Value)(w : World){F F' : Nat→Prop}(h1 : Sl F w v1 f.locals)(h2 : Sl F' w v2 f.blocks)(hok : fnErr f=0){q b i : Nat}{x : Bk}(hp : PtAt f q b i x)(kind : Nat)(hk : kind=1∨kind=2∨kind=3):
  Calls Tryz.prog 182 #[f.v v1 v2,.int .i64 (q:Nat),.int .u8 (kind:Nat)] w (RetP w fun v _=>∃ (c:Cn) (is:Bool),v = .tuple #[c.v,.bool is]∧(if is=true then some c else none)=whyC f q (zy f q).length (kind:Nat) (coF f q)):=by
 have hq:=hp.lt;have hN6:=zp hok;have hcok:=za5 hok hq;have hq64:q≤1000:=om;obtain⟨a,n,cap,rfl,Hn,hm,hcap,hcm,h1⟩:=h1.open;obtain⟨a2,n2,cap2,rfl,Hn2,hm2,hcap2,hcm2,h2⟩:=h2.open;have Hok:=Lib.hid hok;have hn16:n≤16:=by rw[Hn.out];exact(zt hok).2.2
 have Hlo:=Lib.hid fun (w':World) (k1:Sl F w' (.slice a n cap) f.locals) (k2:Sl F' w' (.slice a2 n2 cap2) f.blocks)=>zup f _ _ w' k1 k2 Hok.out q hq64;have Hlb:Hid (-1≤lidx (lptP f (zb f)) (q:Nat) 0∧lidx (lptP f (zb f)) (q:Nat) 0≤600):=Lib.hid (by
  have h1:=ztr (lptP f (zb f)) (q:Int) 0;have h2:=zla f (zb f);omega)
 have Href:=Lib.hid fun (k:Nat) (hk:k<n) (w':World) (k1:Sl F w' (.slice a n cap) f.locals) (k2:Sl F' w' (.slice a2 n2 cap2) f.blocks)=>zoi f _ _ w' k1 k2 k (by rw[←Hn.out];exact hk);clear hok hq;rcases hp.cases with ⟨s,hs,hc⟩|hc
 ·have Hli:Hid (s.kind=1→s.r.kind=4→lidx (lptP f (zb f)) (q:Int) 0=((zy f q).length:Nat)):=Lib.hid (zwl hp.lt hc);have Hc:=Lib.hid hc;rw[hc] at hcok ⊢;clear hc hs;by_cases hs1:s.kind=1
  ·have e1:(s.kind==1)=true:=by simp[hs1]
   have e1n:(s.kind != 1)=false:=by simp[hs1]
   cases hw:whole s.pl
   ·have Hno:Hid (whyC f q (zy f q).length (kind:Nat) (.st s)=none):=Lib.hid (by unfold whyC;simp only;rw[if_neg (fun h=>by rw[hw] at h;cases h.2)]);have Hp:=Lib.hid (fun w'=>zbg s.pl w');rw[hw] at Hp;clear hw hs1 hk;go_enter Tryz.func182,Tryz.ntmps182
    go_wp2_with (first|(go_at_call 95;((with_reducible refine armV (zk f _ _ _ h1.m h2.m Hok.out hp Hc) ?_);intro x4))|(go_at_call 96;((with_reducible refine armV (Hp.out _) ?_);intro x5)));refine zd (by simp only[results,Tryz.results182];go_simp<;>rfl) rfl gw ⟨⟨0,0,0,0⟩,false,rfl,Hno.out.symm⟩
   ·have Hp:=Lib.hid (fun w'=>zbg s.pl w');rw[hw] at Hp;obtain⟨pt,hpt,hptn⟩:∃ pt:Nat,s.pl.loc=pt∧pt<n:=by
     have:=hcok.tgt s.pl (by show (if s.kind=1 then some s.pl else none)=_;rw[if_pos hs1])
     exact⟨s.pl.loc.toNat,by omega,by rw[Hn.out];omega⟩
    have Hpt:=Lib.hid hpt;have Hs1:=Lib.hid hs1;have Hw:=Lib.hid hw;clear hw;rcases hk with rfl|rfl|rfl
    ·have Hwy:Hid (whyC f q (zy f q).length ((1:Nat):Int) (.st s)=(if (s.r.kind==1)=true∧(s.r.a.kind != 1)=true∧whole s.r.a.pl=true∧refB f s.r.a.pl.loc=true∧refB f s.pl.loc=true then some ⟨s.r.a.pl.loc,s.pl.loc,q,1⟩ else none)):=Lib.hid (by
      unfold whyC;simp only;rw[if_pos ⟨Hs1.out,Hw.out⟩,if_pos (by decide)];simp only[beq_iff_eq,bne_iff_ne])
     have hol:s.r.kind=1→0≤s.r.a.pl.loc∧s.r.a.pl.loc<f.locals.length:=fun h4=>by
      have:=hcok.ops s.r.a (by show _∈(if s.kind=1 then ze s.r else if s.kind=3 then [] else [s.a]);rw[if_pos hs1];unfold ze;rw[if_pos h4];simp)
      exact⟨this.1,this.2.1⟩
     cases h4:(s.r.kind==1)
     ·rw[h4] at Hwy;simp only[Bool.false_eq_true,false_and,if_false] at Hwy;clear hs1 hpt Hlb hol;go_enter Tryz.func182,Tryz.ntmps182
      go_wp2_with (first|(go_at_call 95;((with_reducible refine armV (zk f _ _ _ h1.m h2.m Hok.out hp Hc) ?_);intro x4))|(go_at_call 96;((with_reducible refine armV (Hp.out _) ?_);intro x5)));have hC:∀ (u:Array Value) w',Grow ((((ext ((ext ((w.alloc (bxFn f (.slice a n cap) (.slice a2 n2 cap2))).alloc (.cells u 229)) x4).alloc (bxSt s)) x5).alloc (.cells #[.int .i64 s.r.a.pl.loc,.int .i64 s.pl.loc,.int .i64 (q:Nat),.int .u8 1] 229)).alloc (bxOpd (s.r.a)))) w'→∃ q0:QC,w'=ext ((((ext ((ext ((w.alloc (bxFn f (.slice a n cap) (.slice a2 n2 cap2))).alloc (.cells q0.c 229)) x4).alloc (bxSt s)) x5).alloc (.cells #[.int .i64 s.r.a.pl.loc,.int .i64 s.pl.loc,.int .i64 (q:Nat),.int .u8 1] 229)).alloc (bxOpd (s.r.a)))) q0.x:=fun u w' g=>by
       obtain⟨x,rfl⟩:=za g;exact⟨⟨u,x⟩,rfl⟩
      refine zcx (fun w'=>∃ q0:QC,w'=ext ((((ext ((ext ((w.alloc (bxFn f (.slice a n cap) (.slice a2 n2 cap2))).alloc (.cells q0.c 229)) x4).alloc (bxSt s)) x5).alloc (.cells #[.int .i64 s.r.a.pl.loc,.int .i64 s.pl.loc,.int .i64 (q:Nat),.int .u8 1] 229)).alloc (bxOpd (s.r.a)))) q0.x) 29 (by kernel_rfl) (by rfl) ?_
      ((iterate 13 ((first|refine Jq 0 ?_ (hS:=(hC _ _ gw))|refine Jq 1 ?_ (hS:=(hC _ _ gw))|refine Jq 2 ?_ (hS:=(hC _ _ gw))|refine Jq 3 ?_ (hS:=(hC _ _ gw))|refine Jq 4 ?_ (hS:=(hC _ _ gw))|refine Jq 5 ?_ (hS:=(hC _ _ gw))|refine Jq 6 ?_ (hS:=(hC _ _ gw))|refine Jq 7 ?_ (hS:=(hC _ _ gw))|refine Jq 8 ?_ (hS:=(hC _ _ gw))|refine Jq 9 ?_ (hS:=(hC _ _ gw))|refine Jq 10 ?_ (hS:=(hC _ _ gw))|refine Jq 11 ?_ (hS:=(hC _ _ gw))|refine Jq 12 ?_ (hS:=(hC _ _ gw)));(first|go_big_quiet_step (fail)|(refine wpQuiet_step (fun K hK=>?_);go_simp;split<;>(refine hK _ ?_;clear hK K)));refine wpQuiet_nil ?_));(repeat (any_goals (first|((first|refine Jq 14 ?_ (hS:=(hC _ _ gw))|refine Jq 15 ?_ (hS:=(hC _ _ gw))|refine Jq 16 ?_ (hS:=(hC _ _ gw))|refine Jq 17 ?_ (hS:=(hC _ _ gw))|refine Jq 18 ?_ (hS:=(hC _ _ gw))|refine Jq 20 ?_ (hS:=(hC _ _ gw))|refine Jq 21 ?_ (hS:=(hC _ _ gw))|refine Jq 22 ?_ (hS:=(hC _ _ gw))|refine Jq 23 ?_ (hS:=(hC _ _ gw))|refine Jq 24 ?_ (hS:=(hC _ _ gw))|refine Jq 26 ?_ (hS:=(hC _ _ gw))|refine Jq 28 ?_ (hS:=(hC _ _ gw)));(first|go_big_quiet_step (fail)|(refine wpQuiet_step (fun K hK=>?_);go_simp;split<;>(refine hK _ ?_;clear hK K)));refine wpQuiet_nil ?_)|((first|(refine J_any [13,27] (by decide +kernel) ?_;refine⟨?_,?_⟩)|(refine J_any [13] (by decide +kernel) ?_)|(refine J_any [19,27] (by decide +kernel) ?_;refine⟨?_,?_⟩)|(refine J_any [19] (by decide +kernel) ?_)|(refine J_any [25,27] (by decide +kernel) ?_;refine⟨?_,?_⟩)|(refine J_any [25] (by decide +kernel) ?_)|(refine J_any [27] (by decide +kernel) ?_)|(refine J_any [27,28] (by decide +kernel) ?_;refine⟨?_,?_⟩)|(refine J_any [28] (by decide +kernel) ?_))<;>(refine⟨_,rfl,fun K hK=>?_⟩;go_wp2_with (fail);refine hK _ _ (hC _ _ gw) ?_;clear hK K))))))
      all_goals (refine J_end (by decide +kernel) ?_)
      all_goals
       go_wp2_with fail;refine zd (by simp only[results,Tryz.results182];go_simp<;>rfl) rfl gw ⟨⟨s.r.a.pl.loc,s.pl.loc,q,1⟩,false,rfl,Hwy.out.symm⟩
     ·rw[h4] at Hwy;simp only[true_and] at Hwy;cases ha:(s.r.a.kind != 1)
      ·rw[ha] at Hwy;simp only[Bool.false_eq_true,false_and,if_false] at Hwy;clear hs1 hpt Hlb hol;go_enter Tryz.func182,Tryz.ntmps182
       go_wp2_with (first|(go_at_call 95;((with_reducible refine armV (zk f _ _ _ h1.m h2.m Hok.out hp Hc) ?_);intro x4))|(go_at_call 96;((with_reducible refine armV (Hp.out _) ?_);intro x5)));have hC:∀ (u:Array Value) w',Grow ((((ext ((ext ((w.alloc (bxFn f (.slice a n cap) (.slice a2 n2 cap2))).alloc (.cells u 229)) x4).alloc (bxSt s)) x5).alloc (.cells #[.int .i64 s.r.a.pl.loc,.int .i64 s.pl.loc,.int .i64 (q:Nat),.int .u8 1] 229)).alloc (bxOpd (s.r.a)))) w'→∃ q0:QC,w'=ext ((((ext ((ext ((w.alloc (bxFn f (.slice a n cap) (.slice a2 n2 cap2))).alloc (.cells q0.c 229)) x4).alloc (bxSt s)) x5).alloc (.cells #[.int .i64 s.r.a.pl.loc,.int .i64 s.pl.loc,.int .i64 (q:Nat),.int .u8 1] 229)).alloc (bxOpd (s.r.a)))) q0.x:=fun u w' g=>by
        obtain⟨x,rfl⟩:=za g;exact⟨⟨u,x⟩,rfl⟩
       refine zcx (fun w'=>∃ q0:QC,w'=ext ((((ext ((ext ((w.alloc (bxFn f (.slice a n cap) (.slice a2 n2 cap2))).alloc (.cells q0.c 229)) x4).alloc (bxSt s)) x5).alloc (.cells #[.int .i64 s.r.a.pl.loc,.int .i64 s.pl.loc,.int .i64 (q:Nat),.int .u8 1] 229)).alloc (bxOpd (s.r.a)))) q0.x) 29 (by kernel_rfl) (by rfl) ?_
       ((iterate 13 ((first|refine Jq 0 ?_ (hS:=(hC _ _ gw))|refine Jq 1 ?_ (hS:=(hC _ _ gw))|refine Jq 2 ?_ (hS:=(hC _ _ gw))|refine Jq 3 ?_ (hS:=(hC _ _ gw))|refine Jq 4 ?_ (hS:=(hC _ _ gw))|refine Jq 5 ?_ (hS:=(hC _ _ gw))|refine Jq 6 ?_ (hS:=(hC _ _ gw))|refine Jq 7 ?_ (hS:=(hC _ _ gw))|refine Jq 8 ?_ (hS:=(hC _ _ gw))|refine Jq 9 ?_ (hS:=(hC _ _ gw))|refine Jq 10 ?_ (hS:=(hC _ _ gw))|refine Jq 11 ?_ (hS:=(hC _ _ gw))|refine Jq 12 ?_ (hS:=(hC _ _ gw)));(first|go_big_quiet_step (fail)|(refine wpQuiet_step (fun K hK=>?_);go_simp;split<;>(refine hK _ ?_;clear hK K)));refine wpQuiet_nil ?_));(repeat (any_goals (first|((first|refine Jq 14 ?_ (hS:=(hC _ _ gw))|refine Jq 15 ?_ (hS:=(hC _ _ gw))|refine Jq 16 ?_ (hS:=(hC _ _ gw))|refine Jq 17 ?_ (hS:=(hC _ _ gw))|refine Jq 18 ?_ (hS:=(hC _ _ gw))|refine Jq 20 ?_ (hS:=(hC _ _ gw))|refine Jq 21 ?_ (hS:=(hC _ _ gw))|refine Jq 22 ?_ (hS:=(hC _ _ gw))|refine Jq 23 ?_ (hS:=(hC _ _ gw))|refine Jq 24 ?_ (hS:=(hC _ _ gw))|refine Jq 26 ?_ (hS:=(hC _ _ gw))|refine Jq 28 ?_ (hS:=(hC _ _ gw)));(first|go_big_quiet_step (fail)|(refine wpQuiet_step (fun K hK=>?_);go_simp;split<;>(refine hK _ ?_;clear hK K)));refine wpQuiet_nil ?_)|((first|(refine J_any [13,27] (by decide +kernel) ?_;refine⟨?_,?_⟩)|(refine J_any [13] (by decide +kernel) ?_)|(refine J_any [19,27] (by decide +kernel) ?_;refine⟨?_,?_⟩)|(refine J_any [19] (by decide +kernel) ?_)|(refine J_any [25,27] (by decide +kernel) ?_;refine⟨?_,?_⟩)|(refine J_any [25] (by decide +kernel) ?_)|(refine J_any [27] (by decide +kernel) ?_)|(refine J_any [27,28] (by decide +kernel) ?_;refine⟨?_,?_⟩)|(refine J_any [28] (by decide +kernel) ?_))<;>(refine⟨_,rfl,fun K hK=>?_⟩;go_wp2_with (fail);refine hK _ _ (hC _ _ gw) ?_;clear hK K))))))
       all_goals (refine J_end (by decide +kernel) ?_)
       all_goals
        go_wp2_with fail;refine zd (by simp only[results,Tryz.results182];go_simp<;>rfl) rfl gw ⟨⟨s.r.a.pl.loc,s.pl.loc,q,1⟩,false,rfl,Hwy.out.symm⟩
      ·rw[ha] at Hwy;simp only[true_and] at Hwy;have Hpa:=Lib.hid (fun w'=>zbg s.r.a.pl w');cases hwa:whole s.r.a.pl
       ·rw[hwa] at Hwy Hpa;simp only[Bool.false_eq_true,false_and,if_false] at Hwy;clear hwa;clear hs1 hpt Hlb hol;go_enter Tryz.func182,Tryz.ntmps182
        go_wp2_with (first|(go_at_call 95;((with_reducible refine armV (zk f _ _ _ h1.m h2.m Hok.out hp Hc) ?_);intro x4))|(go_at_call 96;((with_reducible refine armV (Hp.out _) ?_);intro x5)));have hC:∀ (u:Array Value) w',Grow ((((ext ((ext ((w.alloc (bxFn f (.slice a n cap) (.slice a2 n2 cap2))).alloc (.cells u 229)) x4).alloc (bxSt s)) x5).alloc (.cells #[.int .i64 s.r.a.pl.loc,.int .i64 s.pl.loc,.int .i64 (q:Nat),.int .u8 1] 229)).alloc (bxOpd (s.r.a)))) w'→∃ q0:QC,w'=ext ((((ext ((ext ((w.alloc (bxFn f (.slice a n cap) (.slice a2 n2 cap2))).alloc (.cells q0.c 229)) x4).alloc (bxSt s)) x5).alloc (.cells #[.int .i64 s.r.a.pl.loc,.int .i64 s.pl.loc,.int .i64 (q:Nat),.int .u8 1] 229)).alloc (bxOpd (s.r.a)))) q0.x:=fun u w' g=>by
         obtain⟨x,rfl⟩:=za g;exact⟨⟨u,x⟩,rfl⟩
        refine zcx (fun w'=>∃ q0:QC,w'=ext ((((ext ((ext ((w.alloc (bxFn f (.slice a n cap) (.slice a2 n2 cap2))).alloc (.cells q0.c 229)) x4).alloc (bxSt s)) x5).alloc (.cells #[.int .i64 s.r.a.pl.loc,.int .i64 s.pl.loc,.int .i64 (q:Nat),.int .u8 1] 229)).alloc (bxOpd (s.r.a)))) q0.x) 29 (by kernel_rfl) (by rfl) ?_
        ((iterate 13 ((first|refine Jq 0 ?_ (hS:=(hC _ _ gw))|refine Jq 1 ?_ (hS:=(hC _ _ gw))|refine Jq 2 ?_ (hS:=(hC _ _ gw))|refine Jq 3 ?_ (hS:=(hC _ _ gw))|refine Jq 4 ?_ (hS:=(hC _ _ gw))|refine Jq 5 ?_ (hS:=(hC _ _ gw))|refine Jq 6 ?_ (hS:=(hC _ _ gw))|refine Jq 7 ?_ (hS:=(hC _ _ gw))|refine Jq 8 ?_ (hS:=(hC _ _ gw))|refine Jq 9 ?_ (hS:=(hC _ _ gw))|refine Jq 10 ?_ (hS:=(hC _ _ gw))|refine Jq 11 ?_ (hS:=(hC _ _ gw))|refine Jq 12 ?_ (hS:=(hC _ _ gw)));(first|go_big_quiet_step (fail)|(refine wpQuiet_step (fun K hK=>?_);go_simp;split<;>(refine hK _ ?_;clear hK K)));refine wpQuiet_nil ?_));(repeat (any_goals (first|((first|refine Jq 14 ?_ (hS:=(hC _ _ gw))|refine Jq 15 ?_ (hS:=(hC _ _ gw))|refine Jq 16 ?_ (hS:=(hC _ _ gw))|refine Jq 17 ?_ (hS:=(hC _ _ gw))|refine Jq 18 ?_ (hS:=(hC _ _ gw))|refine Jq 20 ?_ (hS:=(hC _ _ gw))|refine Jq 21 ?_ (hS:=(hC _ _ gw))|refine Jq 22 ?_ (hS:=(hC _ _ gw))|refine Jq 23 ?_ (hS:=(hC _ _ gw))|refine Jq 24 ?_ (hS:=(hC _ _ gw))|refine Jq 26 ?_ (hS:=(hC _ _ gw))|refine Jq 28 ?_ (hS:=(hC _ _ gw)));(first|go_big_quiet_step (fail)|(refine wpQuiet_step (fun K hK=>?_);go_simp;split<;>(refine hK _ ?_;clear hK K)));refine wpQuiet_nil ?_)|((first|(refine J_any [13,27] (by decide +kernel) ?_;refine⟨?_,?_⟩)|(refine J_any [13] (by decide +kernel) ?_)|(refine J_any [19,27] (by decide +kernel) ?_;refine⟨?_,?_⟩)|(refine J_any [19] (by decide +kernel) ?_)|(refine J_any [25,27] (by decide +kernel) ?_;refine⟨?_,?_⟩)|(refine J_any [25] (by decide +kernel) ?_)|(refine J_any [27] (by decide +kernel) ?_)|(refine J_any [27,28] (by decide +kernel) ?_;refine⟨?_,?_⟩)|(refine J_any [28] (by decide +kernel) ?_))<;>(refine⟨_,rfl,fun K hK=>?_⟩;go_wp2_with (first|(go_at_call 96;((with_reducible refine(Hpa.out _).mono ?_);rintro e w6 ⟨rfl,hb6⟩;obtain⟨x6,rfl⟩:=za hb6;clear hb6)));refine hK _ _ (hC _ _ gw) ?_;clear hK K))))))
        all_goals (refine J_end (by decide +kernel) ?_)
        all_goals
         go_wp2_with fail;refine zd (by simp only[results,Tryz.results182];go_simp<;>rfl) rfl gw ⟨⟨s.r.a.pl.loc,s.pl.loc,q,1⟩,false,rfl,Hwy.out.symm⟩
       ·rw[hwa] at Hwy Hpa;simp only[true_and] at Hwy;clear hwa;obtain⟨pr,hpr,hprn⟩:∃ pr:Nat,s.r.a.pl.loc=pr∧pr<n:=by
         have:=hol (by simpa using h4)
         exact⟨s.r.a.pl.loc.toNat,by omega,by rw[Hn.out];omega⟩
        obtain⟨rb,Hrb⟩:∃ rb,Hid (refB f s.r.a.pl.loc=rb):=⟨_,Lib.hid rfl⟩
        obtain⟨rc,Hrc⟩:∃ rc,Hid (refB f s.pl.loc=rc):=⟨_,Lib.hid rfl⟩
        rw[Hrb.out,Hrc.out] at Hwy;have Hr3:Hid (∀ w',Sl F w' (.slice a n cap) f.locals→Sl F' w' (.slice a2 n2 cap2) f.blocks→Calls Tryz.prog 208 #[f.v (.slice a n cap) (.slice a2 n2 cap2),.int .i64 s.r.a.pl.loc] w' (Ret w' (.bool rb))):=Lib.hid fun w' k1 k2=>by rw[←Hrb.out,hpr];exact Href.out pr hprn w' k1 k2
        have Hr4:Hid (∀ w',Sl F w' (.slice a n cap) f.locals→Sl F' w' (.slice a2 n2 cap2) f.blocks→Calls Tryz.prog 208 #[f.v (.slice a n cap) (.slice a2 n2 cap2),.int .i64 s.pl.loc] w' (Ret w' (.bool rc))):=Lib.hid fun w' k1 k2=>by rw[←Hrc.out,hpt];exact Href.out pt hptn w' k1 k2
        clear hpr;cases rb
        ·simp only[Bool.false_eq_true,false_and,if_false] at Hwy;clear hs1 hpt Hlb hol;go_enter Tryz.func182,Tryz.ntmps182
         go_wp2_with (first|(go_at_call 95;((with_reducible refine armV (zk f _ _ _ h1.m h2.m Hok.out hp Hc) ?_);intro x4))|(go_at_call 96;((with_reducible refine armV (Hp.out _) ?_);intro x5)));have hC:∀ (u:Array Value) w',Grow ((((ext ((ext ((w.alloc (bxFn f (.slice a n cap) (.slice a2 n2 cap2))).alloc (.cells u 229)) x4).alloc (bxSt s)) x5).alloc (.cells #[.int .i64 s.r.a.pl.loc,.int .i64 s.pl.loc,.int .i64 (q:Nat),.int .u8 1] 229)).alloc (bxOpd (s.r.a)))) w'→∃ q0:QC,w'=ext ((((ext ((ext ((w.alloc (bxFn f (.slice a n cap) (.slice a2 n2 cap2))).alloc (.cells q0.c 229)) x4).alloc (bxSt s)) x5).alloc (.cells #[.int .i64 s.r.a.pl.loc,.int .i64 s.pl.loc,.int .i64 (q:Nat),.int .u8 1] 229)).alloc (bxOpd (s.r.a)))) q0.x:=fun u w' g=>by
          obtain⟨x,rfl⟩:=za g;exact⟨⟨u,x⟩,rfl⟩
         refine zcx (fun w'=>∃ q0:QC,w'=ext ((((ext ((ext ((w.alloc (bxFn f (.slice a n cap) (.slice a2 n2 cap2))).alloc (.cells q0.c 229)) x4).alloc (bxSt s)) x5).alloc (.cells #[.int .i64 s.r.a.pl.loc,.int .i64 s.pl.loc,.int .i64 (q:Nat),.int .u8 1] 229)).alloc (bxOpd (s.r.a)))) q0.x) 29 (by kernel_rfl) (by rfl) ?_
         ((iterate 13 ((first|refine Jq 0 ?_ (hS:=(hC _ _ gw))|refine Jq 1 ?_ (hS:=(hC _ _ gw))|refine Jq 2 ?_ (hS:=(hC _ _ gw))|refine Jq 3 ?_ (hS:=(hC _ _ gw))|refine Jq 4 ?_ (hS:=(hC _ _ gw))|refine Jq 5 ?_ (hS:=(hC _ _ gw))|refine Jq 6 ?_ (hS:=(hC _ _ gw))|refine Jq 7 ?_ (hS:=(hC _ _ gw))|refine Jq 8 ?_ (hS:=(hC _ _ gw))|refine Jq 9 ?_ (hS:=(hC _ _ gw))|refine Jq 10 ?_ (hS:=(hC _ _ gw))|refine Jq 11 ?_ (hS:=(hC _ _ gw))|refine Jq 12 ?_ (hS:=(hC _ _ gw)));(first|go_big_quiet_step (fail)|(refine wpQuiet_step (fun K hK=>?_);go_simp;split<;>(refine hK _ ?_;clear hK K)));refine wpQuiet_nil ?_));(repeat (any_goals (first|((first|refine Jq 14 ?_ (hS:=(hC _ _ gw))|refine Jq 15 ?_ (hS:=(hC _ _ gw))|refine Jq 16 ?_ (hS:=(hC _ _ gw))|refine Jq 17 ?_ (hS:=(hC _ _ gw))|refine Jq 18 ?_ (hS:=(hC _ _ gw))|refine Jq 20 ?_ (hS:=(hC _ _ gw))|refine Jq 21 ?_ (hS:=(hC _ _ gw))|refine Jq 22 ?_ (hS:=(hC _ _ gw))|refine Jq 23 ?_ (hS:=(hC _ _ gw))|refine Jq 24 ?_ (hS:=(hC _ _ gw))|refine Jq 26 ?_ (hS:=(hC _ _ gw))|refine Jq 28 ?_ (hS:=(hC _ _ gw)));(first|go_big_quiet_step (fail)|(refine wpQuiet_step (fun K hK=>?_);go_simp;split<;>(refine hK _ ?_;clear hK K)));refine wpQuiet_nil ?_)|((first|(refine J_any [13,27] (by decide +kernel) ?_;refine⟨?_,?_⟩)|(refine J_any [13] (by decide +kernel) ?_)|(refine J_any [19,27] (by decide +kernel) ?_;refine⟨?_,?_⟩)|(refine J_any [19] (by decide +kernel) ?_)|(refine J_any [25,27] (by decide +kernel) ?_;refine⟨?_,?_⟩)|(refine J_any [25] (by decide +kernel) ?_)|(refine J_any [27] (by decide +kernel) ?_)|(refine J_any [27,28] (by decide +kernel) ?_;refine⟨?_,?_⟩)|(refine J_any [28] (by decide +kernel) ?_))<;>(refine⟨_,rfl,fun K hK=>?_⟩;go_wp2_with (first|(go_at_call 96;((with_reducible refine(Hpa.out _).mono ?_);rintro e w6 ⟨rfl,hb6⟩;obtain⟨x6,rfl⟩:=za hb6;clear hb6))|(go_at_call 208;((with_reducible refine(Hr3.out _ h1.m h2.m).mono ?_);rintro e w7 ⟨rfl,hb7⟩;obtain⟨x7,rfl⟩:=za hb7;clear hb7)));refine hK _ _ (hC _ _ gw) ?_;clear hK K))))))
         all_goals (refine J_end (by decide +kernel) ?_)
         all_goals
          go_wp2_with fail;refine zd (by simp only[results,Tryz.results182];go_simp<;>rfl) rfl gw ⟨⟨s.r.a.pl.loc,s.pl.loc,q,1⟩,false,rfl,Hwy.out.symm⟩
        ·simp only[true_and] at Hwy;clear hs1 hpt Hlb hol;go_enter Tryz.func182,Tryz.ntmps182
         go_wp2_with (first|(go_at_call 95;((with_reducible refine armV (zk f _ _ _ h1.m h2.m Hok.out hp Hc) ?_);intro x4))|(go_at_call 96;((with_reducible refine armV (Hp.out _) ?_);intro x5)));have hC:∀ (u:Array Value) w',Grow ((((ext ((ext ((w.alloc (bxFn f (.slice a n cap) (.slice a2 n2 cap2))).alloc (.cells u 229)) x4).alloc (bxSt s)) x5).alloc (.cells #[.int .i64 s.r.a.pl.loc,.int .i64 s.pl.loc,.int .i64 (q:Nat),.int .u8 1] 229)).alloc (bxOpd (s.r.a)))) w'→∃ q0:QC,w'=ext ((((ext ((ext ((w.alloc (bxFn f (.slice a n cap) (.slice a2 n2 cap2))).alloc (.cells q0.c 229)) x4).alloc (bxSt s)) x5).alloc (.cells #[.int .i64 s.r.a.pl.loc,.int .i64 s.pl.loc,.int .i64 (q:Nat),.int .u8 1] 229)).alloc (bxOpd (s.r.a)))) q0.x:=fun u w' g=>by
          obtain⟨x,rfl⟩:=za g;exact⟨⟨u,x⟩,rfl⟩
         refine zcx (fun w'=>∃ q0:QC,w'=ext ((((ext ((ext ((w.alloc (bxFn f (.slice a n cap) (.slice a2 n2 cap2))).alloc (.cells q0.c 229)) x4).alloc (bxSt s)) x5).alloc (.cells #[.int .i64 s.r.a.pl.loc,.int .i64 s.pl.loc,.int .i64 (q:Nat),.int .u8 1] 229)).alloc (bxOpd (s.r.a)))) q0.x) 29 (by kernel_rfl) (by rfl) ?_
         ((iterate 13 ((first|refine Jq 0 ?_ (hS:=(hC _ _ gw))|refine Jq 1 ?_ (hS:=(hC _ _ gw))|refine Jq 2 ?_ (hS:=(hC _ _ gw))|refine Jq 3 ?_ (hS:=(hC _ _ gw))|refine Jq 4 ?_ (hS:=(hC _ _ gw))|refine Jq 5 ?_ (hS:=(hC _ _ gw))|refine Jq 6 ?_ (hS:=(hC _ _ gw))|refine Jq 7 ?_ (hS:=(hC _ _ gw))|refine Jq 8 ?_ (hS:=(hC _ _ gw))|refine Jq 9 ?_ (hS:=(hC _ _ gw))|refine Jq 10 ?_ (hS:=(hC _ _ gw))|refine Jq 11 ?_ (hS:=(hC _ _ gw))|refine Jq 12 ?_ (hS:=(hC _ _ gw)));(first|go_big_quiet_step (fail)|(refine wpQuiet_step (fun K hK=>?_);go_simp;split<;>(refine hK _ ?_;clear hK K)));refine wpQuiet_nil ?_));(repeat (any_goals (first|((first|refine Jq 14 ?_ (hS:=(hC _ _ gw))|refine Jq 15 ?_ (hS:=(hC _ _ gw))|refine Jq 16 ?_ (hS:=(hC _ _ gw))|refine Jq 17 ?_ (hS:=(hC _ _ gw))|refine Jq 18 ?_ (hS:=(hC _ _ gw))|refine Jq 20 ?_ (hS:=(hC _ _ gw))|refine Jq 21 ?_ (hS:=(hC _ _ gw))|refine Jq 22 ?_ (hS:=(hC _ _ gw))|refine Jq 23 ?_ (hS:=(hC _ _ gw))|refine Jq 24 ?_ (hS:=(hC _ _ gw))|refine Jq 26 ?_ (hS:=(hC _ _ gw))|refine Jq 28 ?_ (hS:=(hC _ _ gw)));(first|go_big_quiet_step (fail)|(refine wpQuiet_step (fun K hK=>?_);go_simp;split<;>(refine hK _ ?_;clear hK K)));refine wpQuiet_nil ?_)|((first|(refine J_any [13,27] (by decide +kernel) ?_;refine⟨?_,?_⟩)|(refine J_any [13] (by decide +kernel) ?_)|(refine J_any [19,27] (by decide +kernel) ?_;refine⟨?_,?_⟩)|(refine J_any [19] (by decide +kernel) ?_)|(refine J_any [25,27] (by decide +kernel) ?_;refine⟨?_,?_⟩)|(refine J_any [25] (by decide +kernel) ?_)|(refine J_any [27] (by decide +kernel) ?_)|(refine J_any [27,28] (by decide +kernel) ?_;refine⟨?_,?_⟩)|(refine J_any [28] (by decide +kernel) ?_))<;>(refine⟨_,rfl,fun K hK=>?_⟩;go_wp2_with (first|(go_at_call 96;((with_reducible refine(Hpa.out _).mono ?_);rintro e w6 ⟨rfl,hb6⟩;obtain⟨x6,rfl⟩:=za hb6;clear hb6))|(go_at_call 208;((with_reducible refine(Hr3.out _ h1.m h2.m).mono ?_);rintro e w7 ⟨rfl,hb7⟩;obtain⟨x7,rfl⟩:=za hb7;clear hb7))|(go_at_call 208;((with_reducible refine(Hr4.out _ h1.m h2.m).mono ?_);rintro e w8 ⟨rfl,hb8⟩;obtain⟨x8,rfl⟩:=za hb8;clear hb8)));refine hK _ _ (hC _ _ gw) ?_;clear hK K))))))
         all_goals (refine J_end (by decide +kernel) ?_)
         all_goals
          go_wp2_with fail;refine zd (by simp only[results,Tryz.results182];go_simp<;>rfl) rfl gw ⟨⟨s.r.a.pl.loc,s.pl.loc,q,1⟩,rc,rfl,Hwy.out.symm⟩
    ·have Hwy:Hid (∀ fr,(s.r.kind=4→fr=(n:Int)+((zy f q).length:Nat))→(if (s.r.kind==4)=true then some (⟨fr,pt,q,2⟩:Cn) else none)=whyC f q (zy f q).length ((2:Nat):Int) (.st s)):=Lib.hid fun fr hfr=>by
      have e:whyC f q (zy f q).length ((2:Nat):Int) (.st s)=(if s.r.kind=4 then some ⟨(f.locals.length:Int)+(zy f q).length,s.pl.loc,q,2⟩ else none):=by
       unfold whyC;simp only;rw[if_pos ⟨Hs1.out,Hw.out⟩,if_neg (by decide),if_pos (by decide)]
      rw[e];by_cases h4:s.r.kind=4
      ·rw[if_pos (by simp[h4]),if_pos h4,hfr h4,←Hn.out,Hpt.out]
      ·rw[if_neg (by simp[h4]),if_neg h4]
     have Hfr:Hid (s.r.kind=4→(n:Int)+lidx (lptP f (zb f)) (q:Nat) 0=(n:Int)+((zy f q).length:Nat)):=Lib.hid fun h4=>by rw[Hli.out Hs1.out h4]
     obtain⟨li,Hlie⟩:∃ li,Hid (lidx (lptP f (zb f)) (q:Nat) 0=li):=⟨_,Lib.hid rfl⟩
     rw[Hlie.out] at Hlo Hlb Hfr;have hlb:=Hlb.out;clear hs1 hpt Hlb;go_enter Tryz.func182,Tryz.ntmps182
     go_wp2_with (first|(go_at_call 95;((with_reducible refine armV (zk f _ _ _ h1.m h2.m Hok.out hp Hc) ?_);intro x4))|(go_at_call 96;((with_reducible refine armV (Hp.out _) ?_);intro x5)))
     (refine zjc 8 (by kernel_rfl) (by kernel_rfl) ?_;simp only[List.take_succ_cons,List.take_zero,List.drop_succ_cons,List.drop_zero];(repeat (any_goals (first|go_big_quiet_step (first|(go_at_call 210;with_reducible refine zr (Hlo.out _ h1.m h2.m)))|(refine wpQuiet_step (fun K hK=>?_);go_simp;split<;>(refine hK _ ?_;clear hK K)))));all_goals (refine wpQuiet_nil ?_;intro w6 hb6;obtain⟨x6,rfl⟩:=za hb6;clear hb6))
     go_wp2_with fail;go_region
     all_goals
      go_wp2_with fail;refine zd (by simp only[results,Tryz.results182];go_simp<;>rfl) rfl gw ⟨⟨(n:Int)+li,s.pl.loc,q,2⟩,(s.r.kind==4),rfl,by rw[Hpt.out];exact Hwy.out _ Hfr.out⟩
    ·have Hwy:Hid (whyC f q (zy f q).length ((3:Nat):Int) (.st s)=(if (s.r.kind==4)=true∧s.r.pl.deref=true∧refB f s.r.pl.loc=true then some ⟨s.r.pl.loc,s.pl.loc,q,3⟩ else none)):=Lib.hid (by
      unfold whyC;simp only;rw[if_pos ⟨Hs1.out,Hw.out⟩,if_neg (by decide),if_neg (by decide)];simp only[beq_iff_eq])
     have hrl:s.r.kind=4→0≤s.r.pl.loc∧s.r.pl.loc<f.locals.length:=fun h4=>hcok.ref s rfl hs1 (Or.inl h4);cases h4:(s.r.kind==4)
     ·rw[h4] at Hwy;simp only[Bool.false_eq_true,false_and,if_false] at Hwy;clear hs1 hpt hrl Hlb;go_enter Tryz.func182,Tryz.ntmps182
      go_wp2_with (first|(go_at_call 95;((with_reducible refine armV (zk f _ _ _ h1.m h2.m Hok.out hp Hc) ?_);intro x4))|(go_at_call 96;((with_reducible refine armV (Hp.out _) ?_);intro x5)));go_region
      all_goals
       go_wp2_with fail;refine zd (by simp only[results,Tryz.results182];go_simp<;>rfl) rfl gw ⟨⟨s.r.pl.loc,s.pl.loc,q,3⟩,false,rfl,Hwy.out.symm⟩
     ·rw[h4] at Hwy;simp only[true_and] at Hwy;cases hd:s.r.pl.deref
      ·rw[hd] at Hwy;simp only[Bool.false_eq_true,false_and,if_false] at Hwy;clear hs1 hpt hrl Hlb;go_enter Tryz.func182,Tryz.ntmps182
       go_wp2_with (first|(go_at_call 95;((with_reducible refine armV (zk f _ _ _ h1.m h2.m Hok.out hp Hc) ?_);intro x4))|(go_at_call 96;((with_reducible refine armV (Hp.out _) ?_);intro x5)));go_region
       all_goals
        go_wp2_with fail;refine zd (by simp only[results,Tryz.results182];go_simp<;>rfl) rfl gw ⟨⟨s.r.pl.loc,s.pl.loc,q,3⟩,false,rfl,Hwy.out.symm⟩
      ·rw[hd] at Hwy;simp only[true_and] at Hwy;obtain⟨pr,hpr,hprn⟩:∃ pr:Nat,s.r.pl.loc=pr∧pr<n:=by
        have:=hrl (by simpa using h4)
        exact⟨s.r.pl.loc.toNat,by omega,by rw[Hn.out];omega⟩
       have Hr3:=Lib.hid (fun w' k1 k2=>Href.out pr hprn w' k1 k2);rw[hpr] at Hwy;obtain⟨rb,Hrb⟩:∃ rb,Hid (refB f (pr:Nat)=rb):=⟨_,Lib.hid rfl⟩
       rw[Hrb.out] at Hr3 Hwy;clear hs1 hpt hrl Hlb;go_enter Tryz.func182,Tryz.ntmps182
       go_wp2_with (first|(go_at_call 95;((with_reducible refine armV (zk f _ _ _ h1.m h2.m Hok.out hp Hc) ?_);intro x4))|(go_at_call 96;((with_reducible refine armV (Hp.out _) ?_);intro x5)));go_region_with (first|(go_at_call 208;((with_reducible refine armV (Hr3.out _ h1.m h2.m) ?_);intro x6)))
       all_goals
        go_wp2_with fail;refine zd (by simp only[results,Tryz.results182];go_simp<;>rfl) rfl gw ⟨⟨pr,s.pl.loc,q,3⟩,rb,rfl,Hwy.out.symm⟩
  ·have e1:(s.kind==1)=false:=by simp[hs1]
   have e1n:(s.kind != 1)=true:=by simp[hs1]
   have Hno:Hid (whyC f q (zy f q).length (kind:Nat) (.st s)=none):=Lib.hid (by unfold whyC;simp only;rw[if_neg (fun h=>hs1 h.1)]);clear hs1 hk;go_enter Tryz.func182,Tryz.ntmps182
   go_wp2_with (first|(go_at_call 95;((with_reducible refine armV (zk f _ _ _ h1.m h2.m Hok.out hp Hc) ?_);intro x4)));refine zd (by simp only[results,Tryz.results182];go_simp<;>rfl) rfl gw ⟨⟨0,0,0,0⟩,false,rfl,Hno.out.symm⟩
 ·have Hc:=Lib.hid hc;rw[hc] at hcok ⊢;clear hc hk;go_enter Tryz.func182,Tryz.ntmps182
  go_wp2_with (first|(go_at_call 95;((with_reducible refine armV (zai f _ _ _ h1.m h2.m Hok.out hp Hc) ?_);intro x4)));refine zd (by simp only[results,Tryz.results182];go_simp<;>rfl) rfl gw ⟨⟨0,0,0,0⟩,false,rfl,rfl⟩
end Go.Proofs.YtacmoaeglbggjaaGreat
