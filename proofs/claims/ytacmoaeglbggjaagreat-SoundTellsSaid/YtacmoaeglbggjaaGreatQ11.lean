/- A part of the proof. -/
import Derived.Test.YtacmoaeglbggjaaGreatSHz
import Derived.Test.YtacmoaeglbggjaaGreatQ06
namespace Go.Proofs.YtacmoaeglbggjaaGreat
open Go.RowKit
set_option linter.unusedSimpArgs false
set_option linter.unusedVariables false
set_option maxRecDepth 100000
set_option maxHeartbeats 16000000
theorem zv1 : SlT Tryz.prog 161 165 2 16:=SlT.mk' (z:=.agg #[.int .i64 0,.int .i64 0]) Tryz.underlying161 (by kernel_rfl) rfl om
theorem pt_wf {b i : Nat}(hb : b≤1000)(hi : i≤1000): Pt.wf ⟨(b : Int),(i : Int)⟩:=⟨(show I64 (b : Int) from ⟨by omega,by omega⟩),(show I64 (i : Int) from ⟨by omega,by omega⟩)⟩
theorem zn6 (f : Fn)(v1 v2 : Value)(w : World){F F' : Nat→Prop}(h1 : Sl F w v1 f.locals)(h2 : Sl F' w v2 f.blocks)(hok : fnErr f=0):
  Calls Tryz.prog 163 #[f.v v1 v2] w (RetP w fun v w'=>Sl (Fresh w) w' v (ptL f)):=by
 obtain⟨a,n,cap,rfl,Hn,hm,hcap,hcm,h1⟩:=h1.open;obtain⟨a2,n2,cap2,rfl,Hn2,hm2,hcap2,hcm2,h2⟩:=h2.open;have Hok:=Lib.hid hok;clear hok;have hn24:n2≤24:=by have:=(zt Hok.out).2.1;rw[←Hn2.out] at this;exact this
 go_enter Tryz.func163,Tryz.ntmps163
 go_wp2_with fail;go_loopw [3,9] (fun tv i wr=>∃ (k:Nat) (x:Ext),k≤n2∧i = .int .i64 k∧wr=ext (w.alloc (bxFn f (.slice a n cap) (.slice a2 n2 cap2))) x∧Own (fun _=>False) (w.heap.size+1) 165 wr tv (ptP f k 0)) (fun _ i _=>n2 - (intOf i).toNat)
 case atStart=>exact⟨0,_,Nat.zero_le _,rfl,(zbi _).symm,Own.nil _ _ _ _⟩
 case round =>
  obtain⟨k,x,hk,rfl,rfl,hown⟩:=hrel;by_cases hlt:k<n2
  ·obtain⟨b_b,off_b,b,b_stmts_a,b_stmts_n,b_stmts_c,b_jump_args_a,b_jump_args_n,b_jump_args_c,rfl,⟨Hg_b,hl_b,hw_b,b_stmts,b_jump_args,c_b0,c_b1,c_b2,c_b3,c_b4,c_b5,c_b6,c_b7,c_b8,c_b9,c_b10,c_b11,c_b12,c_b13,r_b0,r_b1,r_b2,r_b3,r_b4⟩⟩:=h2.bk k hlt;have hb24:b_stmts_n≤24:=by have:=(zt Hok.out).1 b (List.mem_of_getElem? Hg_b.out);rw[←b_stmts.len] at this;exact this
   have Hbn:=Lib.hid b_stmts.len;go_wp2_with fail;go_loopw [3,20] (fun tv i wr=>∃ (m:Nat) (x:Ext),m≤b_stmts_n+1∧i = .int .i64 m∧wr=ext (w.alloc (bxFn f (.slice a n cap) (.slice (some ⟨b_b,off_b,none⟩) n2 cap2))) x∧Own (fun _=>False) (w.heap.size+1) 165 wr tv (ptP f k m)) (fun _ i _=>b_stmts_n+1 - (intOf i).toNat)
   case atStart=>exact⟨0,x,Nat.zero_le _,rfl,rfl,hown⟩
   case round =>
    obtain⟨m,x2,hm',rfl,rfl,hown2⟩:=hrel;by_cases hlt2:m<b_stmts_n+1
    ·have hpl:=zz2 Hok.out k m om;have hpw:=pt_wf (b:=k) (i:=m) om om;go_wp2_with (first|(at_builtin;go_must (refine zh (α:=Pt) zv1 rfl rfl rfl (hown2) gw (by first|exact Nat.le_refl _|(simp;done)|(simp;omega)) (by first|(simp;done)|(simp;omega)) rfl (y:=(⟨(k:Int),(m:Int)⟩:Pt)) (Gy:=fun _=>False) (⟨rfl,hpw⟩) (fun _ h=>h.elim) cel (by simp[Value.oneCell']) om om ?_);intro tv1 x1 ho1 hsz1 hagr1));go_roundw
     case rel=>exact⟨m+1,x1,by omega,by go_num,rfl,by rw[zxx];exact ho1⟩
     case measure=>exact me
    ·obtain rfl:m=b_stmts_n+1:=om;have Hnx:Hid (ptP f k (b_stmts_n+1)=ptP f (k+1) 0):=Lib.hid (by rw[Hbn.out];exact zxy Hg_b.out);go_wp2_with fail;go_roundw
     case rel=>exact⟨k+1,x2,by omega,by go_num,rfl,by rw[←Hnx.out];exact hown2⟩
     case measure=>exact me
  ·obtain rfl:k=n2:=om;go_wp2_with fail;refine zd (by simp only[results,Tryz.results163];go_simp<;>rfl) rfl gw ?_;have e:ptP f k 0=ptL f:=by rw[Hn2.out];exact zz1 f
   rw[←e];exact hown.sl.wide (fun b hb hF=>by rcases hF with hF|hF;exact hF.elim;exact Or.inr om)
theorem zbk (f : Fn)(v1 v2 : Value)(w : World){F F' : Nat→Prop}(hf : f.wf)(h1 : Sl F w v1 f.locals)(h2 : Sl F' w v2 f.blocks)(hok : fnErr f=0):
  Calls Tryz.prog 120 #[f.v v1 v2] w (RetP w fun v w'=>∃ u,v = .tuple #[u,.int .i64 0]∧Sl (Fresh w) w' u (ptL f)):=by
 obtain⟨a,n,cap,rfl,Hn,hm,hcap,hcm,h1⟩:=h1.open;obtain⟨a2,n2,cap2,rfl,Hn2,hm2,hcap2,hcm2,h2⟩:=h2.open;have Hok:=Lib.hid hok;have hok' : (fnErr f != 0)=false:=by simp[hok]
 clear hok;go_enter Tryz.func120,Tryz.ntmps120
 go_wp2_with (first|(go_at_call 16;((with_reducible refine armV (za2 f _ _ _ hf h1.m h2.m) ?_);intro x1))|(go_at_call 163;((with_reducible refine armS (zn6 f _ _ _ h1.m h2.m Hok.out) ?_);intro a2 n2 cap2 x2 Hn2 hm2 hcap2 hcm2 hs2)));refine zd (by simp only[results,Tryz.results120];go_simp<;>rfl) rfl gw ⟨_,rfl,?_⟩;exact hs2.wide (fun b hb hF=>by rcases hF with hF|hF;exact hF.elim;exact Or.inr (by simp at hF;omega))
theorem zrr (f : Fn)(v1 v2 : Value)(w : World){F F' : Nat→Prop}(h1 : Sl F w v1 f.locals)(h2 : Sl F' w v2 f.blocks)(hok : fnErr f=0){b i : Nat}{x : Bk}(hb : Hid (f.blocks[b]?=some x))(hi : i≤x.stmts.length):
  Calls Tryz.prog 213 #[f.v v1 v2,(⟨(b:Int),(i:Int)⟩:Pt).v] w (Ret w (.bool true)):=by
 obtain⟨a,n,cap,rfl,Hn,hm,hcap,hcm,h1⟩:=h1.open;obtain⟨a2,n2,cap2,rfl,Hn2,hm2,hcap2,hcm2,h2⟩:=h2.open;have hlt:b<n2:=by have:=(List.getElem?_eq_some_iff.1 hb.out).1;rw[←Hn2.out] at this;exact this
 obtain⟨b_y,off_y,y,y_stmts_a,y_stmts_n,y_stmts_c,y_jump_args_a,y_jump_args_n,y_jump_args_c,rfl,⟨Hg_y,hl_y,hw_y,y_stmts,y_jump_args,c_y0,c_y1,c_y2,c_y3,c_y4,c_y5,c_y6,c_y7,c_y8,c_y9,c_y10,c_y11,c_y12,c_y13,r_y0,r_y1,r_y2,r_y3,r_y4⟩⟩:=h2.bk b hlt;obtain rfl:y=x:=by have e1:=Hg_y.out;have e2:=hb.out;rw[e1] at e2;injection e2
 have hi' : i≤y_stmts_n:=by rw[y_stmts.len];exact hi
 have d1:decide ((0:Int)≤(b:Int))=true:=by simp
 have d2:decide ((b:Int)<(n2:Int))=true:=by simp;omega
 have d3:decide ((0:Int)≤(i:Int))=true:=by simp
 have d4:decide ((i:Int)≤(y_stmts_n:Int))=true:=by simp;omega
 go_enter Tryz.func213,Tryz.ntmps213
 go_wp2_with fail
 (refine zg (by kernel_rfl) (by kernel_rfl) ?_;(repeat (any_goals (first|go_big_quiet_step (first|fail)|(refine wpQuiet_step (fun K hK=>?_);go_simp;split<;>(refine hK _ ?_;clear hK K)))));all_goals (refine wpQuiet_nil ?_;intro w1 hb1;obtain⟨x1,rfl⟩:=za hb1;clear hb1))
 go_wp2_with fail;go_ret
 exact Ret.mk rfl gw
theorem zkf (f : Fn)(v1 v2 : Value)(w : World){F F' : Nat→Prop}(hf : f.wf)(h1 : Sl F w v1 f.locals)(h2 : Sl F' w v2 f.blocks)(hok : fnErr f=0){b i : Nat}{x : Bk}(hb : Hid (f.blocks[b]?=some x))(hi : i≤x.stmts.length):
  Calls Tryz.prog 189 #[f.v v1 v2,(⟨(b:Int),(i:Int)⟩:Pt).v] w (Ret w (.int .i64 0)):=by
 obtain⟨a,n,cap,rfl,Hn,hm,hcap,hcm,h1⟩:=h1.open;obtain⟨a2,n2,cap2,rfl,Hn2,hm2,hcap2,hcm2,h2⟩:=h2.open;have Hok:=Lib.hid hok;have hok' : (fnErr f != 0)=false:=by simp[hok]
 clear hok;go_enter Tryz.func189,Tryz.ntmps189
 go_wp2_with (first|(go_at_call 16;((with_reducible refine armV (za2 f _ _ _ hf h1.m h2.m) ?_);intro x1))|(go_at_call 213;((with_reducible refine armV (zrr f _ _ _ h1.m h2.m Hok.out hb hi) ?_);intro x2)));go_ret
 exact Ret.mk rfl gw
def orL (xs : List Int): Int:=match xs with
 |[]=>0
 |x::xs=>if x=0 then orL xs else x
theorem z2n (xs : List Int)(v : Value)(w : World){F : Nat→Prop}(h1 : Sl F w v xs): Calls Tryz.prog 215 #[v] w (Ret w (.int .i64 (orL xs))):=by
 obtain⟨a,n,cap,rfl,Hn,hm,hcap,hcm,h1⟩:=h1.open;go_enter Tryz.func215,Tryz.ntmps215
 go_wp2_with fail;go_loopw [8] (fun i wr=>∃ k:Nat,k≤n∧i = .int .i64 k∧Hid (orL xs=orL (xs.drop k))∧Grow w wr) (fun i _=>n - (intOf i).toNat)
 case atStart=>exact⟨0,Nat.zero_le _,rfl,Lib.hid rfl,gw⟩
 case round =>
  obtain⟨k,hk,rfl,Ho,hb1⟩:=hrel;obtain⟨y1,rfl⟩:=za hb1;by_cases hlt:k<n
  ·obtain⟨b,off,x,rfl,⟨hx,hxl,hxw,hc⟩⟩:=h1.int k hlt;have Hd:=Lib.hid (zbm hx);by_cases h0:x=0
   ·subst h0;go_wp2_with fail;go_roundw
    case rel=>exact⟨k+1,by omega,by go_num,Lib.hid (by rw[Ho.out,Hd.out];simp[orL]),gw⟩
    case measure=>exact me
   ·have h0' : (x != 0)=true:=by simp[h0]
    go_wp2_with fail;go_ret
    exact Ret.mk (by rw[Ho.out,Hd.out];simp[orL,h0]) gw
  ·have Hd:=Lib.hid (zbc Hn (Nat.le_of_not_lt hlt));go_wp2_with fail;go_ret
   exact Ret.mk (by rw[Ho.out,Hd.out];rfl) gw
theorem zkg (p q : Pt)(w : World)(hp : 0≤p.block∧p.block≤1000∧0≤p.index∧p.index≤1000)(hq : 0≤q.block∧q.block≤1000∧0≤q.index∧q.index≤1000):
  Calls Tryz.prog 192 #[p.v,q.v] w (Ret w (.int .i64 (ordP p q))):=by
 have i1:I64 (p.block - q.block):=⟨by omega,by omega⟩
 have i2:I64 (p.index - q.index):=⟨by omega,by omega⟩
 have e:ordP p q=orL [p.block - q.block,p.index - q.index]:=by
  unfold ordP orL;by_cases h:p.block - q.block=0
  ·by_cases h2:p.index - q.index=0
   ·simp[h,h2,orL]
   ·simp[h,h2,orL]
  ·simp[h]
 rw[e];go_enter Tryz.func192,Tryz.ntmps192
 go_wp2_with (first|(go_at_call 215;(refine(z2n [p.block - q.block,p.index - q.index] _ _ (Sl.two (F:=fun _=>True) trivial (by first|(simp;done)|(simp;omega)) om om ⟨rfl,i1⟩ cel ⟨rfl,i2⟩ cel)).mono ?_;rintro e w1 ⟨rfl,hb1⟩;obtain⟨x1,rfl⟩:=za hb1;clear hb1)));go_ret
 exact Ret.mk rfl gw
theorem QuAt.lits {w : World}{b : Nat}{xs : List Int}{base : Nat}(hb : base≤b)(hlt : b<w.heap.size)(h64 : ∀ x∈xs,I64 x)(hl : xs.length≤100)(hc : ∀ j (h : j<xs.length),w.cell? ⟨b,j,none⟩=some (.int .i64 xs[j]))(hf : ∀ j,j<xs.length→w.frozen? ⟨b,j,none⟩=false): QuAt base w b 0 xs.length xs where
 new:=hb
 lt:=hlt
 le:=Nat.le_refl _
 max:=om
 at_ j hj:=by rw[Nat.zero_add];exact hc j hj
 fr j hj:=by rw[Nat.zero_add];exact hf j hj
 room j hj:=absurd hj om
 i64:=h64
theorem one64 {x : Int}(h : I64 x): ∀ y∈[x],I64 y:=fun y hy=>by rw[List.mem_singleton] at hy;subst hy;exact h
theorem two64 {x z : Int}(h : I64 x)(k : I64 z): ∀ y∈[x,z],I64 y:=fun y hy=>by
 simp only[List.mem_cons,List.not_mem_nil,or_false] at hy;rcases hy with rfl|rfl;exact h;exact k
theorem ztc {x : Int}{p : (j : Nat)→j<[x].length→Prop}(h : p 0 (by simp)): ∀ j (hj : j<[x].length),p j hj:=fun j hj=>by
 have:j=0:=by simpa using hj
 subst this;exact h
theorem ztd {x y : Int}{p : (j : Nat)→j<[x,y].length→Prop}(h : p 0 (by simp))(k : p 1 (by simp)): ∀ j (hj : j<[x,y].length),p j hj:=fun j hj=>by
 have:j=0∨j=1:=by simp at hj;omega
 rcases this with rfl|rfl;exact h;exact k
theorem ziv (j : Ju)(av : Value)(w : World)(hj : j.wf){F : Nat→Prop}(hav : Sl F w av j.args)(h0 : juErr j=0):
  Calls Tryz.prog 68 #[j.v av] w (RetP w fun v w'=>∃ u,v = .tuple #[u,.int .i64 0]∧((leads j = []∧u = .slice none 0 0)∨(leads j≠[]∧Qu w.heap.size w' u (leads j)))):=by
 obtain⟨a,n,cap,rfl,Hn,hm,hcap,hcm,hav⟩:=hav.open;have hn:=hj.next;have he:=hj.els;have H0:Hid (juErr j=0):=Lib.hid h0;have h0' : (juErr j != 0)=false:=by simp[h0]
 clear h0;go_enter Tryz.func68,Tryz.ntmps68
 go_wp2_with (first|(go_at_call 108;((with_reducible refine(zbj j _ _ hj hav.m).mono ?_);rintro e w1 ⟨rfl,hb1⟩;rw[H0.out];obtain⟨x1,rfl⟩:=za hb1;clear hb1)));all_goals (refine zd (by simp only[results,Tryz.results68];go_simp;rfl) rfl gw ⟨_,rfl,?_⟩)
 all_goals first
  |(rw[show leads j = [] from by clear hav hj Hn;grind [leads]];exact Or.inl ⟨rfl,rfl⟩)
  |(rw[show leads j = [j.next] from by clear hav hj Hn;grind [leads]];exact Or.inr ⟨by simp,_,0,_,rfl,QuAt.lits (xs:=[j.next]) (by first|omega|(simp;omega)) (by first|(simp;done)|(simp;omega)|omega) (one64 hn) (by simp) (ztc (by go_simp)) (ztc (by go_simp))⟩)
  |(rw[show leads j = [j.next,j.els] from by clear hav hj Hn;grind [leads]];exact Or.inr ⟨by simp,_,0,_,rfl,QuAt.lits (xs:=[j.next,j.els]) (by first|omega|(simp;omega)) (by first|(simp;done)|(simp;omega)|omega) (two64 hn he) (by simp) (ztd (by go_simp) (by go_simp)) (ztd (by go_simp) (by go_simp))⟩)
theorem zp5 {W0 : World}{x0 : Ext}{base g off cap : Nat}{xs : List Int}(h : QuAt base (ext W0 x0) g off cap xs)(hb : W0.heap.size≤base)(hl : xs.length≤1000):
  Calls Tryz.prog 214 #[.slice (some ⟨g,off,none⟩) xs.length cap] (ext W0 x0) (fun e w'=>e = .returned (.tuple #[])∧∃ x',w'=ext W0 x'∧QuAt base (ext W0 x') g off cap (srt xs)∧∀ k,k<(ext W0 x0).heap.size→k≠g→(ext W0 x').heap[k]?=(ext W0 x0).heap[k]?):=by
 refine(Go.Proofs.Tryz.slices_Sort_int g off cap xs (ext W0 x0) (fun j hj=>?_) h.lt om).mono ?_
 ·have hj:j<xs.length:=by simpa using hj
  refine⟨?_,h.fr j hj⟩;rw[h.at_ j hj];simp[hj]
 ·rintro e w' ⟨rfl,n,os,rfl⟩;have hs:=h.sorted (n:=n) (os:=os);obtain⟨x',hx⟩:=za (zvi (n:=n) (os:=os) (off:=off) (d:=(srt xs).toArray) (zw W0 x0) (Nat.le_trans hb h.new));refine⟨rfl,x',hx,by rw[←hx];exact hs,fun k hk hne=>?_⟩;rw[←hx,Go.Sort.heap_grow_old _ _ (by rw[Go.Sort.size_putRow];exact hk)];unfold Go.Sort.putRow Go.Sort.mapBlock;simp only[Go.Sort.heap_ahead];rw[Array.getElem?_modify,if_neg om]
end Go.Proofs.YtacmoaeglbggjaaGreat
