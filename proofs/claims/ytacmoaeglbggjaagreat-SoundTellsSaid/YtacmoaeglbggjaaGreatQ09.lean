/- A part of the proof. -/
import Derived.Maps.Own
import Derived.Maps.Views
import Derived.Maps.OwnSet
import Derived.Test.YtacmoaeglbggjaaGreatQ08
namespace Go.Proofs.YtacmoaeglbggjaaGreat
open Go.RowKit
set_option linter.unusedSimpArgs false
set_option linter.unusedVariables false
set_option maxRecDepth 100000
set_option maxHeartbeats 16000000
theorem zkd (p : Pr)(f : Fn)(pv v1 v2 : Value)(w : World){F F1 F2 : Nat→Prop}(hp : Sl F w pv p.funcs)(h1 : Sl F1 w v1 f.locals)(h2 : Sl F2 w v2 f.blocks)(hju : ∀ b∈f.blocks,juErr b.jump=0):
  Calls Tryz.prog 27 #[p.v pv,f.v v1 v2] w (Ret w (.bool (f.blocks.all (callB p.funcs)))):=by
 obtain⟨a,n,cap,rfl,Hn,hm,hcap,hcm,hp⟩:=hp.open;obtain⟨a1,n1,cap1,rfl,Hn1,hm1,hcap1,hcm1,h1⟩:=h1.open;obtain⟨a2,n2,cap2,rfl,Hn2,hm2,hcap2,hcm2,h2⟩:=h2.open;have Hju:=Lib.hid hju;clear hju;go_enter Tryz.func27,Tryz.ntmps27
 go_wp2_with fail;go_loopw [5] (fun i wr=>∃ (k:Nat),k≤n2∧i = .int .i64 k∧Grow ((w.alloc (bxPr p (.slice a n cap))).alloc (bxFn f (.slice a1 n1 cap1) (.slice a2 n2 cap2))) wr∧Hid ((f.blocks.take k).all (callB p.funcs)=true)) (fun i _=>n2 - (intOf i).toNat)
 case atStart=>exact⟨0,Nat.zero_le _,rfl,gw,rfl⟩
 case round =>
  obtain⟨k,hk,rfl,hb1,Ha⟩:=hrel;obtain⟨y1,rfl⟩:=za hb1;by_cases hlt:k<n2
  ·obtain⟨b_x,off_x,x,x_stmts_a,x_stmts_n,x_stmts_c,x_jump_args_a,x_jump_args_n,x_jump_args_c,rfl,⟨Hg_x,hl_x,hw_x,x_stmts,x_jump_args,c_x0,c_x1,c_x2,c_x3,c_x4,c_x5,c_x6,c_x7,c_x8,c_x9,c_x10,c_x11,c_x12,c_x13,r_x0,r_x1,r_x2,r_x3,r_x4⟩⟩:=h2.bk k hlt;have HG:=Lib.hid (Hju.out x (List.mem_of_getElem? Hg_x.out));have Hna:=Lib.hid x_jump_args.len;by_cases h4:x.jump.kind=4
   ·have Hf0:=Lib.hid (zls HG.out h4);have H4:=Lib.hid h4;obtain⟨stmts,⟨kind,oa,fn,next,els,args,dest⟩⟩:=x;obtain⟨q,rfl⟩:=Int.eq_ofNat_of_zero_le Hf0.out;replace h4:(kind==4)=true:=by have:=H4.out;simp;exact this
    by_cases hlt2:q<n
    ·have hge:decide (n≤q)=false:=by simp;omega
     obtain⟨b_g,off_g,g,g_locals_a,g_locals_n,g_locals_c,g_blocks_a,g_blocks_n,g_blocks_c,rfl,⟨Hg_g,hl_g,hw_g,g_locals,g_blocks,c_g0,c_g1,c_g2,c_g3,r_g0⟩⟩:=hp.fn q hlt2;have Hc:Hid (callB p.funcs ⟨stmts,⟨kind,oa,q,next,els,args,dest⟩⟩ = !((x_jump_args_n:Int) != g.params)):=Lib.hid (by
      have e1:kind=4:=H4.out;have e2:=Hn.out;have e3:x_jump_args_n=args.length:=Hna.out;unfold callB;simp only[e1,decide_true,Bool.not_true,Bool.false_or,←e2,←e3];have e4:p.funcs.getD ((q:Int).toNat) fnz=g:=by rw[List.getD_eq_getElem?_getD,show (q:Int).toNat=q from rfl,Hg_g.out];rfl
      rw[e4];simp[hlt2,bne];rfl)
     cases hpar:((x_jump_args_n:Int) != g.params)
     ·go_wp2_with fail
      (refine zg (by kernel_rfl) (by kernel_rfl) ?_;(repeat (any_goals (first|go_big_quiet_step (first|fail)|(refine wpQuiet_step (fun K hK=>?_);go_simp;split<;>(refine hK _ ?_;clear hK K)))));all_goals (refine wpQuiet_nil ?_;intro w2 hb2;obtain⟨x2,rfl⟩:=za hb2;clear hb2))
      go_wp2_with fail;go_roundw
      case rel=>exact⟨k+1,by omega,by go_num,gw,zab Hg_x Ha (by rw[Hc.out,hpar];rfl)⟩
      case measure=>exact me
     ·go_wp2_with fail
      (refine zg (by kernel_rfl) (by kernel_rfl) ?_;(repeat (any_goals (first|go_big_quiet_step (first|fail)|(refine wpQuiet_step (fun K hK=>?_);go_simp;split<;>(refine hK _ ?_;clear hK K)))));all_goals (refine wpQuiet_nil ?_;intro w2 hb2;obtain⟨x2,rfl⟩:=za hb2;clear hb2))
      go_wp2_with fail;go_ret
      exact Ret.bool (by rw[za3 Hg_x (by rw[Hc.out,hpar];rfl)]) gw
    ·have hge:decide (n≤q)=true:=by simp;omega
     have Hc:Hid (callB p.funcs ⟨stmts,⟨kind,oa,q,next,els,args,dest⟩⟩=false):=Lib.hid (by
      have e2:=Hn.out;have e1:kind=4:=H4.out;unfold callB;simp[e1,←e2];intro h;omega)
     go_wp2_with fail
     (refine zg (by kernel_rfl) (by kernel_rfl) ?_;(repeat (any_goals (first|go_big_quiet_step (first|fail)|(refine wpQuiet_step (fun K hK=>?_);go_simp;split<;>(refine hK _ ?_;clear hK K)))));all_goals (refine wpQuiet_nil ?_;intro w2 hb2;obtain⟨x2,rfl⟩:=za hb2;clear hb2))
     go_wp2_with fail;go_ret
     exact Ret.bool (by rw[za3 Hg_x Hc.out]) gw
   ·have H4:=Lib.hid h4;replace h4:(x.jump.kind==4)=false:=by simp[h4]
    go_wp2_with fail
    (refine zg (by kernel_rfl) (by kernel_rfl) ?_;(repeat (any_goals (first|go_big_quiet_step (first|fail)|(refine wpQuiet_step (fun K hK=>?_);go_simp;split<;>(refine hK _ ?_;clear hK K)))));all_goals (refine wpQuiet_nil ?_;intro w2 hb2;obtain⟨x2,rfl⟩:=za hb2;clear hb2))
    go_wp2_with fail;go_roundw
    case rel=>exact⟨k+1,by omega,by go_num,gw,zab Hg_x Ha (by unfold callB;simp[H4.out])⟩
    case measure=>exact me
  ·go_wp2_with fail;go_ret
   exact Ret.bool (by rw[zag Hn2 om Ha]) gw
theorem zdf (p : Pr)(pv : Value)(w : World){F : Nat→Prop}(hp : Sl F w pv p.funcs):
  Calls Tryz.prog 12 #[p.v pv] w (Ret w (.int .i64 (prErr p))):=by
 obtain⟨a,n,cap,rfl,Hn,hm,hcap,hcm,hp⟩:=hp.open;by_cases hn8:8<n
 ·go_enter Tryz.func12,Tryz.ntmps12
  go_wp2_with fail;go_ret
  exact Ret.int (by unfold prErr;rw[←Hn.out,if_pos hn8]) gw
 ·by_cases hn0:n=0
  ·have hn0' : ((n:Int)==0)=true:=by simp[hn0]
   go_enter Tryz.func12,Tryz.ntmps12
   go_wp2_with fail;go_ret
   exact Ret.int (by unfold prErr;rw[←Hn.out,if_neg hn8,if_pos hn0]) gw
  ·have hn0' : ((n:Int)==0)=false:=by simp[hn0]
   have Hpr:Hid (prErr p=if zat p.funcs≠0 then zat p.funcs else if zed (p.funcs.getD 0 fnz)&&zc8 p then 0 else 8):=Lib.hid (by unfold prErr;rw[←Hn.out,if_neg hn8,if_neg hn0]);go_enter Tryz.func12,Tryz.ntmps12
   go_wp2_with fail;go_loopw [3] (fun i wr=>∃ (k:Nat),k≤n∧i = .int .i64 k∧Grow (w.alloc (bxPr p (.slice a n cap))) wr∧Hid (zat p.funcs=zat (p.funcs.drop k))) (fun i _=>n - (intOf i).toNat)
   case atStart=>exact⟨0,Nat.zero_le _,rfl,gw,rfl⟩
   case round =>
    obtain⟨k,hk,rfl,hb1,Ha⟩:=hrel;obtain⟨y1,rfl⟩:=za hb1;by_cases hlt:k<n
    ·obtain⟨b_f,off_f,f,f_locals_a,f_locals_n,f_locals_c,f_blocks_a,f_blocks_n,f_blocks_c,rfl,⟨Hg_f,hl_f,hw_f,f_locals,f_blocks,c_f0,c_f1,c_f2,c_f3,r_f0⟩⟩:=hp.fn k hlt;have Hd:Hid (zat (p.funcs.drop k)=if fnErr f≠0 then fnErr f else zat (p.funcs.drop (k+1))):=Lib.hid (by rw[zbm Hg_f,zat]);cases he:(fnErr f != 0)
     ·go_wp2_with (first|(go_at_call 26;((with_reducible refine armV (zfe f _ _ _ hw_f f_locals.m f_blocks.m) ?_);intro x2)));go_roundw
      case rel=>exact⟨k+1,by omega,by go_num,gw,Lib.hid (by rw[Ha.out,Hd.out,if_neg (by simpa using he)])⟩
      case measure=>exact me
     ·go_wp2_with (first|(go_at_call 26;((with_reducible refine armV (zfe f _ _ _ hw_f f_locals.m f_blocks.m) ?_);intro x2)));go_ret
      refine Ret.int ?_ gw;have q:fnErr f≠0:=by simpa using he
      have e:zat p.funcs=fnErr f:=by rw[Ha.out,Hd.out,if_pos q]
      rw[Hpr.out,e,if_pos q]
    ·have H0:Hid (zat p.funcs=0):=Lib.hid (by rw[Ha.out,zbc Hn om];rfl);clear Ha;have Hgood:Hid (∀ f∈p.funcs,fnErr f=0):=Lib.hid (zfz H0.out);have Hpr2:Hid (prErr p=if zed (p.funcs.getD 0 fnz)&&zc8 p then 0 else 8):=Lib.hid (by rw[Hpr.out,H0.out];simp);have Hju:Hid (∀ f∈p.funcs,∀ b∈f.blocks,juErr b.jump=0):=Lib.hid (fun f hf b hb=>(ze4 (zee (Hgood.out f hf)).2.1 hb).2);clear Hpr H0;go_wp2_with fail;go_loopw [4] (fun i wr=>∃ (k:Nat),k≤n∧i = .int .i64 k∧Grow (w.alloc (bxPr p (.slice a n cap))) wr∧Hid ((p.funcs.take k).all (fun f=>f.blocks.all (callB p.funcs))=true)) (fun i _=>n - (intOf i).toNat)
     case atStart=>exact⟨0,Nat.zero_le _,rfl,gw,rfl⟩
     case round =>
      obtain⟨k2,hk2,rfl,hb2,Ha⟩:=hrel;obtain⟨y2,rfl⟩:=za hb2;by_cases hlt2:k2<n
      ·obtain⟨b_f,off_f,f,f_locals_a,f_locals_n,f_locals_c,f_blocks_a,f_blocks_n,f_blocks_c,rfl,⟨Hg_f,hl_f,hw_f,f_locals,f_blocks,c_f0,c_f1,c_f2,c_f3,r_f0⟩⟩:=hp.fn k2 hlt2;have Hjf:=Lib.hid (Hju.out f (List.mem_of_getElem? Hg_f.out));cases hc:f.blocks.all (callB p.funcs)
       ·go_wp2_with fail
        (refine zg (by kernel_rfl) (by kernel_rfl) ?_;(repeat (any_goals (first|go_big_quiet_step (first|(go_at_call 27;refine zr (zkd p f _ _ _ _ hp.m f_locals.m f_blocks.m Hjf.out)))|(refine wpQuiet_step (fun K hK=>?_);go_simp;split<;>(refine hK _ ?_;clear hK K)))));all_goals (refine wpQuiet_nil ?_;intro w3 hb3;obtain⟨x3,rfl⟩:=za hb3;clear hb3))
        go_wp2_with fail;go_ret
        refine Ret.int ?_ gw;have e:zc8 p=false:=za3 Hg_f hc;rw[Hpr2.out,e];simp
       ·go_wp2_with fail
        (refine zg (by kernel_rfl) (by kernel_rfl) ?_;(repeat (any_goals (first|go_big_quiet_step (first|(go_at_call 27;refine zr (zkd p f _ _ _ _ hp.m f_locals.m f_blocks.m Hjf.out)))|(refine wpQuiet_step (fun K hK=>?_);go_simp;split<;>(refine hK _ ?_;clear hK K)))));all_goals (refine wpQuiet_nil ?_;intro w3 hb3;obtain⟨x3,rfl⟩:=za hb3;clear hb3))
        go_wp2_with fail;go_roundw
        case rel=>exact⟨k2+1,by omega,by go_num,gw,zab Hg_f Ha hc⟩
        case measure=>exact me
      ·have Hca:Hid (zc8 p=true):=Lib.hid (zag Hn om Ha);clear Ha;obtain⟨b_g,off_g,g,g_locals_a,g_locals_n,g_locals_c,g_blocks_a,g_blocks_n,g_blocks_c,rfl,⟨Hg_g,hl_g,hw_g,g_locals,g_blocks,c_g0,c_g1,c_g2,c_g3,r_g0⟩⟩:=hp.fn 0 om;simp only[Nat.zero_mul,Nat.add_zero] at c_g0 c_g1 c_g2 c_g3 r_g0;have Hgg:=Lib.hid (zee (Hgood.out g (List.mem_of_getElem? Hg_g.out)));have Hpar:=Lib.hid (zk7 Hgg.out.2.1);have Hg0:Hid (p.funcs.getD 0 fnz=g):=Lib.hid (by rw[List.getD_eq_getElem?_getD,Hg_g.out];rfl);have Hlen:=Lib.hid g_locals.len;have Hty:Hid (∀ t∈g.locals,TyOk t):=Lib.hid (by
        have h:=Hgg.out.2.1;unfold madeB zcb at h;simp only[Bool.and_eq_true,List.all_eq_true,decide_eq_true_eq] at h;exact h.1.1.1.2)
       obtain⟨par,uns,locals,blocks⟩:=g;obtain⟨q,rfl⟩:=Int.eq_ofNat_of_zero_le Hpar.out.1;have hql:q+1≤g_locals_n:=by have h1:(q:Int)<(locals.length:Int):=Hpar.out.2.2;have h2:g_locals_n=locals.length:=Hlen.out;omega
       have hq8:q≤8:=by have h1:(q:Int)≤8:=Hpar.out.2.1;omega
       have Hin:Hid (zed ⟨(q:Int),uns,locals,blocks⟩=((locals.drop 1).take q).all isInt):=Lib.hid rfl;go_wp2_with fail;go_loopw [6] (fun i wr=>∃ (k:Nat),1≤k∧k≤q+1∧i = .int .i64 k∧Grow ((ext (w.alloc (bxPr p (.slice (some ⟨b_g,off_g,none⟩) n cap))) y2).alloc (.cells #[.int .i64 (q:Int),.bool uns,.slice g_locals_a g_locals_n g_locals_c,.slice g_blocks_a g_blocks_n g_blocks_c] 38)) wr∧Hid (((locals.drop 1).take (k - 1)).all isInt=true)) (fun i _=>q+1 - (intOf i).toNat)
       case atStart=>exact⟨1,Nat.le_refl _,by omega,rfl,gw,Lib.hid rfl⟩
       case round =>
        obtain⟨k3,hk30,hk3,rfl,hb3,Ha⟩:=hrel;obtain⟨y3,rfl⟩:=za hb3;by_cases hlt3:k3≤q
        ·have hlt4:k3<g_locals_n:=om;obtain⟨b_t,off_t,t,rfl,⟨Hg_t,hl_t,hw_t,c_t0,c_t1,r_t0⟩⟩:=g_locals.ty k3 hlt4;have Htk:=Lib.hid (Hty.out t (List.mem_of_getElem? Hg_t.out));have Hgd:Hid ((locals.drop 1)[k3 - 1]?=some t):=Lib.hid (by rw[List.getElem?_drop,show 1+(k3 - 1)=k3 by omega];exact Hg_t.out);have Hi:Hid (isInt t = !(t.kind != 1)):=Lib.hid (by
          have q:=Htk.out;unfold isInt;by_cases z:t.kind=1
          ·have:t.to=0:=om
           simp[z,this]
          ·simp[z])
         cases hkd:(t.kind != 1)
         ·go_wp2_with fail;go_roundw
          case rel=>exact⟨k3+1,by omega,by omega,by go_num,gw,Lib.hid (by rw[show k3+1 - 1=(k3 - 1)+1 by omega];exact zab Hgd Ha (by rw[Hi.out,hkd];rfl))⟩
          case measure=>exact me
         ·go_wp2_with fail;go_ret
          refine Ret.int ?_ gw;have e:((locals.drop 1).take q).all isInt=false:=by
           refine za3 (k:=k3 - 1) (x:=t) (Lib.hid ?_) (by rw[Hi.out,hkd];rfl);rw[List.getElem?_take_of_lt om];exact Hgd.out
          rw[Hpr2.out,Hg0.out,Hin.out,e];simp
        ·go_wp2_with fail;go_ret
         refine Ret.int ?_ gw;have e:((locals.drop 1).take q).all isInt=true:=by have:=Ha.out;rw[show k3 - 1=q by omega] at this;exact this
         rw[Hpr2.out,Hg0.out,Hin.out,e,Hca.out];simp
open Go.RowKit Go.Maps
theorem zgi : Keyed Tryz.prog 3:=int_keyed Tryz.underlying3
theorem lit64 {c : Int}(h : I64 c): (Lit.int .i64 c).wf=true:=by
 unfold I64 at h;simp[Lit.wf,IntKind.min,IntKind.max,IntKind.bits,IntKind.signed];omega
def MapB (w : World)(B : Nat)(n : Nat)(S : Int→Bool): Prop :=
 ∃ D:DataW Unit,w.ownsMap Tryz.prog 3 (plainElem Tryz.prog 4) B n D∧∀ c,D.atKey (.int .i64 c) (.lit (.bool false)) = .lit (.bool (S c))
theorem MapB.made (w : World): MapB (w.alloc (.map #[] 0)) w.heap.size 0 (fun _=>false) :=
 ⟨_,World.ownsMap_made w _ _ _,fun c=>rfl⟩
theorem MapB.kept {w w' : World}{row : Option Nat}{B n : Nat}{S : Int→Bool}(h : MapB w B n S)(hg : w.grownBy w' row)(hne : some B≠row): MapB w' B n S:=by
 obtain⟨D,h1,h2⟩:=h;exact⟨D,h1.kept hg hne,h2⟩
theorem MapB.lt {w : World}{B n : Nat}{S : Int→Bool}(h : MapB w B n S): B<w.heap.size:=by obtain⟨D,h1,h2⟩:=h;exact h1.lt
theorem MapB.look {w : World}{B n : Nat}{S : Int→Bool}(h : MapB w B n S){c : Int}(hc : I64 c): (Instr.lookup 116 (.map (some B)) (.int .i64 c) false).run Tryz.prog w = .ok (.bool (S c)) w:=by
 obtain⟨D,h1,h2⟩:=h;obtain⟨v,ps,hr,hv⟩:=h1.lookup zgi Tryz.underlying116 (z:=.bool false) (by kernel_rfl) (plainElem_bool Tryz.underlying4 false) (keyOf_int_mk Tryz.underlying3 (lit64 hc));rw[h2 c] at hv;rw[hr];have:v = .bool (S c):=by
  unfold plainElem at hv;have hb:=Tryz.underlying4;generalize (Program.underlying Tryz.prog 4)=u at hv hb;subst hb;cases v<;>simp at hv;rw[hv.1]
 rw[this]
theorem MapB.put {w : World}{B n : Nat}{S : Int→Bool}(h : MapB w B n S)(hn : n<1000000){c : Int}(hc : I64 c): ∃ w',(Instr.mapUpdate 116 (.map (some B)) (.int .i64 c) (.bool true)).run Tryz.prog w = .ok () w'∧MapB w' B (n+1) (fun x=>if x=c then true else S x)∧w.grownBy w' (some B):=by
 obtain⟨D,h1,h2⟩:=h;obtain⟨w',hr,h3,h4⟩:=h1.update zgi Tryz.underlying116 (by unfold maxLen;omega) (keyOf_int_mk Tryz.underlying3 (lit64 hc)) (plainElem_bool Tryz.underlying4 true);refine⟨w',hr,⟨_,h3,fun x=>?_⟩,h4⟩;by_cases e:x=c
 ·subst e;rw[atKey_put_same (k:=Lit.int .i64 x) h1.isMap (show WideAt.IsKeyLit (Lit.int .i64 x) from trivial)];simp
 ·rw[atKey_put_other (by simp[e]),h2 x];simp[e]
inductive Rch (g : Nat→Nat→Bool) (s : Nat) : Nat→Prop
 |one {c:Nat}:g s c=true→Rch g s c
 |next {m c:Nat}:Rch g s m→g m c=true→Rch g s c
theorem Rch.mem {g : Nat→Nat→Bool}{s c : Nat}{P : Nat→Prop}(h0 : ∀ c,g s c=true→P c)(h1 : ∀ m c,P m→g m c=true→P c)(h : Rch g s c): P c:=by
 induction h with
 |one h=>exact h0 _ h
 |next _ h ih=>exact h1 _ _ ih h
def stepR (g : Nat→Nat→Bool)(h : Nat→Bool)(i : Nat): Nat→Bool:=if h i=true then (fun x=>h x||g i x) else h
def rnd (g : Nat→Nat→Bool)(n : Nat)(h : Nat→Bool): Nat→Bool:=(List.range n).foldl (stepR g) h
def rnds (g : Nat→Nat→Bool)(n : Nat): Nat→(Nat→Bool)→(Nat→Bool)
 |0,h=>h
 |k+1,h=>rnd g n (rnds g n k h)
theorem zp2 (g : Nat→Nat→Bool)(h : Nat→Bool)(i x : Nat)(hx : h x=true): stepR g h i x=true:=by
 unfold stepR;split<;>simp[hx]
theorem zm7 (g : Nat→Nat→Bool)(l : List Nat)(h : Nat→Bool)(x : Nat)(hx : h x=true): l.foldl (stepR g) h x=true:=by
 induction l generalizing h with
 |nil=>exact hx
 |cons i l ih=>exact ih _ (zp2 g h i x hx)
theorem zt9 (g : Nat→Nat→Bool)(P : Nat→Prop)(hP : ∀ m c,P m→g m c=true→P c)(l : List Nat)(h : Nat→Bool)(h0 : ∀ x,h x=true→P x): ∀ x,l.foldl (stepR g) h x=true→P x:=by
 induction l generalizing h with
 |nil=>exact h0
 |cons i l ih =>
  refine ih _ (fun x hx=>?_);unfold stepR at hx;split at hx
  ·rename_i hi;simp only[Bool.or_eq_true] at hx;rcases hx with hx|hx
   ·exact h0 x hx
   ·exact hP i x (h0 i hi) hx
  ·exact h0 x hx
theorem zvt (g : Nat→Nat→Bool)(l : List Nat)(h : Nat→Bool)(i x : Nat)(hi : i∈l)(hh : h i=true)(hg : g i x=true): l.foldl (stepR g) h x=true:=by
 induction l generalizing h with
 |nil=>cases hi
 |cons j l ih =>
  rcases List.mem_cons.1 hi with rfl|hi
  ·refine zm7 g l _ x ?_;unfold stepR;rw[if_pos hh];simp[hg]
  ·exact ih _ hi (zp2 g h j i hh)
theorem zdk {l : List Nat}{p q : Nat→Bool}(hle : ∀ x∈l,p x=true→q x=true){a : Nat}(ha : a∈l)(hp : p a=false)(hq : q a=true): l.countP p<l.countP q:=by
 induction l with
 |nil=>cases ha
 |cons b l ih =>
  have hm:l.countP p≤l.countP q:=List.countP_mono_left (fun x hx=>hle x (List.mem_cons_of_mem _ hx));rw[List.countP_cons,List.countP_cons];rcases List.mem_cons.1 ha with rfl|ha
  ·simp[hp,hq];omega
  ·have h1:=ih (fun x hx=>hle x (List.mem_cons_of_mem _ hx)) ha;have h2:=hle b (by simp);cases hb:p b
   ·simp;omega
   ·rw[h2 hb];simp;omega
def Clo (g : Nat→Nat→Bool)(h : Nat→Bool): Prop:=∀ i x,h i=true→g i x=true→h x=true
theorem zs4 {g : Nat→Nat→Bool}{h : Nat→Bool}(hc : Clo g h)(l : List Nat): l.foldl (stepR g) h=h:=by
 induction l with
 |nil=>rfl
 |cons i l ih =>
  have e:stepR g h i=h:=by
   unfold stepR;split
   ·rename_i hi;funext x
    cases hx:h x
    ·cases hgx:g i x
     ·rfl
     ·have:=hc i x hi hgx;rw[hx] at this;cases this
    ·rfl
   ·rfl
  rw[List.foldl_cons,e,ih]
theorem zx9 {g : Nat→Nat→Bool}{n N : Nat}(hn : n≤N)(hg : ∀ i c,g i c=true→i<n∧c<n)(h : Nat→Bool): ∀ k,Clo g (rnds g n k h)∨k≤(List.range N).countP (rnds g n k h):=by
 intro k;induction k with
 |zero=>exact Or.inr (Nat.zero_le _)
 |succ k ih =>
  rcases ih with ih|ih
  ·left;show Clo g (rnd g n (rnds g n k h));unfold rnd;rw[zs4 ih];exact ih
  ·by_cases hc:Clo g (rnds g n k h)
   ·left;show Clo g (rnd g n (rnds g n k h));unfold rnd;rw[zs4 hc];exact hc
   ·right;have:∃ i x,rnds g n k h i=true∧g i x=true∧rnds g n k h x=false:=by
     apply Classical.byContradiction;intro hno;apply hc;intro i x hi hgx;cases hx:rnds g n k h x
     ·exact absurd ⟨i,x,hi,hgx,hx⟩ hno
     ·rfl
    obtain⟨i,x,hi,hgx,hx⟩:=this;have hlt:=hg i x hgx;have:(List.range N).countP (rnds g n k h)<(List.range N).countP (rnds g n (k+1) h) :=
     zdk (fun y _ hy=>zm7 g _ _ y hy) (a:=x) (List.mem_range.2 om) hx (zvt g (List.range n) _ i x (List.mem_range.2 hlt.1) hi hgx)
    omega
theorem zua {l : List Nat}{p : Nat→Bool}(h : l.length≤l.countP p): ∀ x∈l,p x=true:=by
 have:=List.countP_le_length (p:=p) (l:=l)
 exact List.countP_eq_length.1 om
theorem zm8 (g : Nat→Nat→Bool)(n : Nat)(h : Nat→Bool)(x : Nat)(hx : h x=true): ∀ k,rnds g n k h x=true
 |0=>hx
 |k+1=>zm7 g _ _ x (zm8 g n h x hx k)
theorem zlt (g : Nat→Nat→Bool)(n : Nat)(P : Nat→Prop)(hP : ∀ m c,P m→g m c=true→P c)(h : Nat→Bool)(h0 : ∀ x,h x=true→P x): ∀ k x,rnds g n k h x=true→P x
 |0=>h0
 |k+1=>zt9 g P hP _ _ (zlt g n P hP h h0 k)
theorem zro {g : Nat→Nat→Bool}{n N : Nat}(hn : n≤N)(hg : ∀ i c,g i c=true→i<n∧c<n)(h : Nat→Bool): Clo g (rnds g n N h):=by
 rcases zx9 hn hg h N with h|h
 ·exact h
 ·intro i x hi hgx;exact zua (l:=List.range N) (by simpa using h) x (List.mem_range.2 (by have:=hg i x hgx;omega))
theorem zi7 {g : Nat→Nat→Bool}{n N : Nat}(hn : n≤N)(hg : ∀ i c,g i c=true→i<n∧c<n)(h : Nat→Bool)(x : Nat): rnds g n N h x=true↔(h x=true∨∃ i,h i=true∧Rch g i x):=by
 constructor
 ·refine zlt g n (fun x=>h x=true∨∃ i,h i=true∧Rch g i x) ?_ h (fun x hx=>Or.inl hx) N x;intro m c hm hgm;rcases hm with hm|⟨i,hi,hr⟩
  ·exact Or.inr ⟨m,hm,.one hgm⟩
  ·exact Or.inr ⟨i,hi,.next hr hgm⟩
 ·rintro(hx|⟨i,hi,hr⟩)
  ·exact zm8 g n h x hx N
  ·have hc:=zro hn hg h;exact hr.mem (P:=fun x=>rnds g n N h x=true) (fun c hgc=>hc i c (zm8 g n h i hi N) hgc) (fun m c hm hgm=>hc m c hm hgm)
theorem Grow.grown {w w' : World}(h : Grow w w'): w.grownBy w' none:=⟨h.os,h.tape,h.output,h.size,fun k hk _=>h.block k hk⟩
theorem MapB.agr {w w' : World}{B n : Nat}{S : Int→Bool}(h : MapB w B n S)(e : w'.heap[B]?=w.heap[B]?): MapB w' B n S:=by
 obtain⟨D,⟨es,clock,h1,h2⟩,h3⟩:=h;exact⟨D,⟨es,clock,by rw[e];exact h1,h2⟩,h3⟩
theorem Own.pop {F : Nat→Prop}{base : Nat}{e : TypeId}{w : World}{a : Option Addr}{n cap : Nat}{xs : List Int}{x : Int}(h : Own F base e w (.slice a (n+1) cap) (xs++[x])): Own F base e w (.slice a n cap) xs:=by
 obtain⟨G,css,hG,hl,hR,hn,hown⟩:=h;obtain⟨hlen,hown⟩:=hown;rcases hown with ⟨hv,h0⟩|⟨g,cap',cur,hv,hbg,hg,hnc,hcm,hcs,htake⟩
 ·simp at h0
 ·injection hv with e1 e2 e3;subst e1 e3;have hn' : n=xs.length:=by simp at e2;omega
  subst hn';simp only[List.length_append,List.length_singleton] at hl hnc hn hlen htake;refine⟨G,css.take xs.length,fun k hk=>⟨(hG k hk).1,(hG k hk).2.1,(hG k hk).2.2⟩,by simp;omega,fun i hi hi'=>?_,by omega,?_,Or.inr ⟨g,cap,cur,rfl,hbg,hg,by omega,hcm,hcs,?_⟩⟩
  ·have:=hR i (by simp;omega) om
   rw[List.getElem_append_left hi] at this;rw[List.getElem_take];exact this
  ·have hcl:∀ c∈css,c.length=1:=by
    intro c hc;obtain⟨i,hi,rfl⟩:=List.getElem_of_mem hc;exact Rp.len (hR i (by simp;omega) hi)
   have:∀ (l:List (List Value)),(∀ c∈l,c.length=1)→l.flatten.length=l.length:=by
    intro l hl;induction l with
    |nil=>rfl
    |cons c l ih=>simp[hl c (by simp),ih (fun d hd=>hl d (by simp[hd]))];omega
   rw[this _ (fun c hc=>hcl c (List.mem_of_mem_take hc))];simp[zfk];omega
  ·have hcl:∀ c∈css,c.length=1:=by
    intro c hc;obtain⟨i,hi,rfl⟩:=List.getElem_of_mem hc;exact Rp.len (hR i (by simp;omega) hi)
   have key:∀ (l:List (List Value)) (m:Nat),(∀ c∈l,c.length=1)→(l.take m).flatten=l.flatten.take m:=by
    intro l;induction l with
    |nil=>intro m _;simp
    |cons c l ih =>
     intro m hl;cases m with
     |zero=>simp
     |succ m =>
      have h1:=hl c (by simp);match c,h1 with
      |[v],_=>simp[ih m (fun d hd=>hl d (by simp[hd]))]
   rw[key css xs.length hcl,←htake];rw[zfk,List.take_take];congr 1;omega
theorem zke {P : Program}{ops : Array Oper}{rest : List Oper}{o : Oper}{a : Act}{w W0 : World}{x0 : Ext}{Q : Exit→Act→World→Prop}{s x : Operand}{t e : TypeId}{bytes : Nat}
  (T:SlT P t e 1 bytes) (hgd:o.guard=none) (ho:o.op = .call { callee:=.builtin .append,args:=#[s,x],argTypes:=#[t,t] })
  {base:Nat} {v:Value} {xs:List Int} (hs:a.eval s=v) (hown:Own (fun _=>False) base e (ext W0 x0) v xs) (hgr:Grow (ext W0 x0) w) (hb:W0.heap.size≤base) (hbs:base≤w.heap.size)
  {b off c:Nat} (hx:a.eval x = .slice (some ⟨b,off,none⟩) 1 c) {y:Int} (hy:I64 y) (hc:zad w b off [.int .i64 y]) (hlen:(xs.length+1) * bytes≤140737488355328) (hlen' : xs.length+1≤140737488355328)
  (h:∀ v' x',Own (fun _=>False) base e (ext W0 x') v' (xs++[y])→(ext W0 x0).grownBy (ext W0 x') v.ownBlock→(v'.ownBlock=v.ownBlock∨v'.ownBlock=some w.heap.size)→wpList P ops Q rest (a.put o.dst v') (ext W0 x')) :
  wpList P ops Q (o::rest) a w:=by
 obtain⟨G,css,hG,hl,hRs,hn,hor⟩:=hown.mono hgr;obtain⟨v',w',hr,h2,h3,h4⟩:=zf3 (P:=P) w base t o.type e _ bytes T v _ _ hor ⟨b,off,none⟩ 1 c [.int .i64 y] (by simp) (fun j u hu=>by
  obtain⟨hj,rfl⟩:=List.getElem?_eq_some_iff.1 hu;rw[Addr.add_lit];exact hc j hj) (fun u hu=>by simp at hu;subst hu;rfl) om hlen hlen' hbs
 have hrow:∀ k,v.ownBlock=some k→base≤k∧k<(ext W0 x0).heap.size:=hown.row_lt;have hgw:Grow W0 w:=(zw W0 x0).trans hgr;have hg0:Grow W0 w':=⟨h3.os.trans hgw.os,h3.tape.trans hgw.tape,h3.output.trans hgw.output,Nat.le_trans hgw.size h3.size,fun k hk=>by
  rw[h3.block k (Nat.lt_of_lt_of_le hk hgw.size) (fun e=>by have:=hrow k e.symm;omega),hgw.block k hk]⟩
 obtain⟨x',rfl⟩:=za hg0;have hOwn:Own (fun _=>False) base e (ext W0 x') v' (xs++[y]):=Own.snoc (ds:=[[.int .i64 y]]) (Gy:=fun _=>False) hG hl hRs (fun k hk=>hk.elim) rfl (fun i h h'=>match i,h with|0,_=>⟨rfl,hy⟩) hlen' (by show World.ownsRow _ base e 1 v' _ _;simpa using h2) h3 h4;refine wpList_plain hgd fun _ hK=>?_;unfold Oper.wp execOp;simp only[ho,resolve,invoke,builtin,Sem.run_bind,Sem.run_pure,Result.andThen_ok,List.map_toArray,List.map_cons,List.map_nil,hs,hx,hr];exact hK _ _ (h v' x' hOwn ⟨h3.os.trans hgr.os,h3.tape.trans hgr.tape,h3.output.trans hgr.output,Nat.le_trans hgr.size h3.size,fun k hk hne=>by
  rw[h3.block k (Nat.lt_of_lt_of_le hk hgr.size) hne,hgr.block k hk]⟩ h4)
theorem Own.kept {base : Nat}{e : TypeId}{w w' : World}{v : Value}{xs : List Int}{B : Nat}(h : Own (fun _=>False) base e w v xs)(hg : w.grownBy w' (some B))(hB : B<base): Own (fun _=>False) base e w' v xs :=
 h.keep (fun k hk hlt=>hg.block k hlt (by intro e;injection e with e;subst e;rcases hk with hk|hk;exact hk;omega)) hg.size
theorem MapB.mono {w w' : World}{B n : Nat}{S : Int→Bool}(h : MapB w B n S)(g : Grow w w'): MapB w' B n S:=h.kept g.grown (by simp)
def gr (p : Pr)(i c : Nat): Bool:=match p.funcs[i]? with|some f=>zba f c|none=>false
def zcn (S : Int→Bool): Nat:=(List.range 8).countP (fun c : Nat=>!S (c : Int))
def resB : Result Value→Bool
 |.ok (.bool b) _=>b
 |_=>false
theorem zs5 {w : World}{B n : Nat}{S : Int→Bool}(h : MapB w B n S): (List.range 8).countP (fun c : Nat=>!resB ((Instr.lookup 116 (.map (some B)) (.int .i64 (c : Nat)) false).run Tryz.prog w))=zcn S:=by
 unfold zcn;apply List.countP_congr;intro c hc;have hc:=List.mem_range.1 hc;rw[h.look ⟨by omega,by omega⟩];rfl
def lenOf : Value→Nat
 |.slice _ n _=>n
 |_=>0
theorem zub {S : Int→Bool}{c : Nat}(hc : c<8)(h : S (c : Int)=false): zcn (fun x=>if x=(c : Int) then true else S x)<zcn S:=by
 unfold zcn;refine zdk (fun x _ hx=>?_) (a:=c) (List.mem_range.2 hc) (by simp) (by simp[h]);by_cases e:(x:Int)=(c:Int)
 ·simp[e] at hx
 ·simpa[e] using hx
theorem zuc {f : Fn}{x : Int}(h : x∈zeo f): ∃ c : Nat,x=c∧c<8∧zba f c=true:=by
 unfold zeo at h;obtain⟨c,hc,rfl⟩:=List.mem_map.1 h;have:=List.mem_filter.1 hc
 exact⟨c,rfl,List.mem_range.1 this.1,this.2⟩
theorem zvu {f : Fn}{c : Nat}(hc : c<8)(h : zba f c=true): (c : Int)∈zeo f :=
 List.mem_map.2 ⟨c,List.mem_filter.2 ⟨List.mem_range.2 hc,h⟩,rfl⟩
theorem pr_ok {p : Pr}(h : prErr p=0): 1≤p.funcs.length∧p.funcs.length≤8∧(∀ f∈p.funcs,fnErr f=0)∧zed (p.funcs.getD 0 fnz)=true∧zc8 p=true:=by
 unfold prErr at h;by_cases h8:8<p.funcs.length
 ·rw[if_pos h8] at h;cases h
 ·rw[if_neg h8] at h;by_cases h0:p.funcs.length=0
  ·rw[if_pos h0] at h;cases h
  ·rw[if_neg h0] at h;by_cases hf:zat p.funcs=0
   ·rw[if_neg (by simpa using hf)] at h;by_cases hc:(zed (p.funcs.getD 0 fnz)&&zc8 p)=true
    ·simp only[Bool.and_eq_true] at hc;exact⟨by omega,by omega,zfz hf,hc.1,hc.2⟩
    ·rw[if_neg hc] at h;cases h
   ·rw[if_pos hf] at h;exact absurd h hf
theorem zk8 {p : Pr}(h : prErr p=0){f : Fn}(hf : f∈p.funcs){c : Nat}(hc : zba f c=true): c<p.funcs.length:=by
 have hb:=(pr_ok h).2.2.2.2;unfold zc8 at hb;unfold zba at hc;obtain⟨b,hbm,hb2⟩:=List.any_eq_true.1 hc;have:=List.all_eq_true.1 (List.all_eq_true.1 hb f hf) b hbm
 simp only[Bool.and_eq_true,decide_eq_true_eq] at hb2;unfold callB at this;simp only[hb2.1,decide_true,Bool.not_true,Bool.false_or,Bool.and_eq_true,decide_eq_true_eq] at this;omega
theorem gr_lt {p : Pr}(h : prErr p=0)(i c : Nat)(hg : gr p i c=true): i<p.funcs.length∧c<p.funcs.length:=by
 unfold gr at hg;cases e:p.funcs[i]? with
 |none=>rw[e] at hg;cases hg
 |some f=>rw[e] at hg;exact⟨(List.getElem?_eq_some_iff.1 e).1,zk8 h (List.mem_of_getElem? e) hg⟩
structure RI (p : Pr)(s : Nat)(T : List Int)(S : Int→Bool): Prop where
 sound:∀ c:Int,S c=true→∃ k:Nat,c=k∧Rch (gr p) s k
 todo:∀ x∈T,∃ k:Nat,x=k∧k<p.funcs.length∧(k=s∨S k=true)
 clo:∀ k:Nat,(k=s∨S k=true)→(k:Int)∉T→∀ c:Nat,gr p k c=true→S c=true
structure RJ (p : Pr)(s k : Nat)(L T : List Int)(S : Int→Bool): Prop where
 sound:∀ c:Int,S c=true→∃ k:Nat,c=k∧Rch (gr p) s k
 todo:∀ x∈T,∃ k:Nat,x=k∧k<p.funcs.length∧(k=s∨S k=true)
 clo:∀ k' : Nat,k'≠k→(k'=s∨S k'=true)→(k' : Int)∉T→∀ c:Nat,gr p k' c=true→S c=true
 own:k=s∨S k=true
 some:∀ c∈L,S c=true
theorem RI.start (p : Pr){s : Nat}(hs : s<p.funcs.length): RI p s [(s : Int)] (fun _=>false) where
 sound c h:=by cases h
 todo x hx:=by simp at hx;exact⟨s,hx,hs,Or.inl rfl⟩
 clo k h hk:=by rcases h with rfl|h;simp at hk;cases h
theorem RI.pop {p : Pr}{s k : Nat}{T : List Int}{S : Int→Bool}(h : RI p s (T++[(k : Int)]) S): RJ p s k [] T S where
 sound:=h.sound
 todo x hx:=h.todo x (List.mem_append_left _ hx)
 clo k' hne hs hT:=h.clo k' hs (by simp[hT];omega)
 own:=by
   obtain⟨k',e,_,h'⟩:=h.todo (k:Int) (by simp);obtain rfl:k=k':=om;exact h'
 some c hc:=by cases hc
theorem RJ.seen {p : Pr}{s k : Nat}{L T : List Int}{S : Int→Bool}{c : Int}(h : RJ p s k L T S)(hc : S c=true): RJ p s k (L++[c]) T S :=
 ⟨h.sound,h.todo,h.clo,h.own,fun x hx=>by rcases List.mem_append.1 hx with hx|hx;exact h.some x hx;simp at hx;subst hx;exact hc⟩
theorem RJ.push {p : Pr}{s k c : Nat}{L T : List Int}{S : Int→Bool}(h : RJ p s k L T S)(hc : S (c : Int)=false)(hg : gr p k c=true)(hn : c<p.funcs.length): RJ p s k (L++[(c : Int)]) (T++[(c : Int)]) (fun x=>if x=(c : Int) then true else S x) where
 sound x hx:=by
  by_cases e:x=(c:Int)
  ·refine⟨c,e,?_⟩;rcases h.own with rfl|ho
   ·exact .one hg
   ·obtain⟨k',e',hr⟩:=h.sound _ ho;obtain rfl:k=k':=om;exact .next hr hg
  ·simp only[e,if_false] at hx;exact h.sound x hx
 todo x hx:=by
  rcases List.mem_append.1 hx with hx|hx
  ·obtain⟨k',e,hl,ho⟩:=h.todo x hx;refine⟨k',e,hl,?_⟩;rcases ho with ho|ho
   ·exact Or.inl ho
   ·right;(try dsimp only);split<;>simp[ho]
  ·simp at hx;exact⟨c,hx,hn,Or.inr (by simp)⟩
 clo k' hne hs hT c' hg':=by
  have hk:¬(k' : Int)=(c:Int):=fun e=>hT (by simp[e]);have:k'=s∨S (k' : Int)=true:=by
   rcases hs with hs|hs
   ·exact Or.inl hs
   ·right;simpa only[hk,if_false] using hs
  have:=h.clo k' hne this (fun q=>hT (List.mem_append_left _ q)) c' hg'
  (try dsimp only);split<;>simp[this]
 own:=by
  rcases h.own with ho|ho
  ·exact Or.inl ho
  ·right;(try dsimp only);split<;>simp[ho]
 some x hx:=by
  rcases List.mem_append.1 hx with hx|hx
  ·have:=h.some x hx;(try dsimp only);split<;>simp[this]
  ·simp at hx;simp[hx]
theorem RJ.done {p : Pr}{s k : Nat}{L T : List Int}{S : Int→Bool}(h : RJ p s k L T S)(hL : ∀ c : Nat,gr p k c=true→(c : Int)∈L): RI p s T S where
 sound:=h.sound
 todo:=h.todo
 clo k' hs hT c hg:=by
  by_cases e:k'=k
  ·subst e;exact h.some _ (hL c hg)
  ·exact h.clo k' e hs hT c hg
theorem RI.fin {p : Pr}{s : Nat}{S : Int→Bool}(h : RI p s [] S)(c : Nat): S (c : Int)=true↔Rch (gr p) s c:=by
 constructor
 ·intro hc;obtain⟨k,e,hr⟩:=h.sound _ hc;obtain rfl:c=k:=om;exact hr
 ·intro hr;exact hr.mem (P:=fun c=>S (c:Int)=true) (fun c hg=>h.clo s (Or.inl rfl) (by simp) c hg) (fun m c hm hg=>h.clo m (Or.inr hm) (by simp) c hg)
theorem Own.lit1 {base : Nat}{e : TypeId}{w : World}{g : Nat}{x : Int}(hx : I64 x)(hg : w.heap[g]?=some (.cells #[.int .i64 x] e))(hb : base≤g): Own (fun _=>False) base e w (.slice (some ⟨g,0,none⟩) 1 1) [x] :=
 ⟨fun _=>False,[[.int .i64 x]],fun _ h=>h.elim,rfl,(fun i h h'=>match i,h with|0,_=>⟨rfl,hx⟩),by simp,by
  refine⟨by simp[zfk],.inr ⟨g,1,#[.int .i64 x],rfl,hb,hg,Nat.le_refl _,by unfold maxLen;omega,by simp[zfk],by simp[zfk]⟩⟩⟩
def Rg7 (lo hi b : Nat): Prop:=lo≤b∧b<hi
theorem zrp (T : List Int): T = []∨∃ T' x,T=T'++[x]:=by
 rcases List.eq_nil_or_concat T with h|⟨T',x,h⟩
 ·exact Or.inl h
 ·exact Or.inr ⟨T',x,by rw[h,List.concat_eq_append]⟩
theorem zn0 (S : Int→Bool): zcn S≤8:=by
 unfold zcn;have:=List.countP_le_length (p:=fun c:Nat=>!S (c:Int)) (l:=List.range 8);simpa using this
theorem zp3 (p : Pr)(pv : Value)(s : Nat)(w : World){F : Nat→Prop}(hp : Sl F w pv p.funcs)(hok : prErr p=0)(hs : s<p.funcs.length):
  Calls Tryz.prog 80 #[p.v pv,.int .i64 s] w (RetP w fun v w'=>∃ B m S,v = .map (some B)∧MapB w' B m S∧w.heap.size≤B∧∀ c:Nat,S (c:Int)=true↔Rch (gr p) s c):=by
 obtain⟨a,n,cap,rfl,Hn,hm,hcap,hcm,hp⟩:=hp.open;have Hok:=Lib.hid (pr_ok hok);have Hok0:=Lib.hid hok;have Hs:=Lib.hid hs;have hsn:s<n:=by rw[Hn.out];exact hs
 have hn8:n≤8:=by have:=Hok.out.2.1;rw[←Hn.out] at this;exact this
 clear hok hs;have hmm:=@run_makeMap Tryz.prog;go_enter Tryz.func80,Tryz.ntmps80
 go_wp2_with fail;clear hmm;go_loopw [6] (fun tv wr=>∃ (T:List Int) (S:Int→Bool) (m:Nat) (x:Ext),wr=ext (w.alloc (bxPr p (.slice a n cap))) x∧MapB wr (w.heap.size+1) m S∧Own (fun _=>False) (w.heap.size+1+1) 3 wr tv T∧m+zcn S≤8∧T.length+zcn S≤9∧Hid (RI p s T S)) (fun tv wr=>2 * (List.range 8).countP (fun c:Nat=>!resB ((Instr.lookup 116 (.map (some (w.heap.size+1))) (.int .i64 (c:Nat)) false).run Tryz.prog wr))+lenOf tv)
 case atStart =>
  obtain⟨x,hx⟩:=za (W:=w.alloc (bxPr p (.slice a n cap))) (w:=((w.alloc (bxPr p (.slice a n cap))).alloc (.map #[] 0)).alloc (.cells #[.int .i64 (s:Int)] 3)) gw;refine⟨[(s:Int)],fun _=>false,0,x,hx,?_,?_,?_,?_,Lib.hid (RI.start p Hs.out)⟩
  ·have:=(MapB.made (w.alloc (bxPr p (.slice a n cap)))).mono (w':=((w.alloc (bxPr p (.slice a n cap))).alloc (.map #[] 0)).alloc (.cells #[.int .i64 (s:Int)] 3)) gw
   rwa[zav] at this
  ·refine Own.lit1 ⟨by omega,by omega⟩ ?_ (Nat.le_refl _);show (Array.push _ _)[_]?=_;rw[Array.getElem?_push,if_pos (by simp)]
  ·have:=zn0 (fun _=>false);omega
  ·have:=zn0 (fun _=>false);simp;omega
 case round =>
  obtain⟨T,S,m,x,rfl,hMB,hown,hmu,hTu,Hri⟩:=hrel;obtain⟨ta,tcap,rfl,htl⟩:=hown.shape;rcases zrp T with rfl|⟨T',tx,rfl⟩
  ·go_wp2_with fail;go_ret
   exact RetP.mk ⟨_,m,S,rfl,hMB,by omega,fun c=>Hri.out.fin c⟩ gw
  ·obtain⟨k,rfl,hkn,_⟩:=Hri.out.todo tx (by simp);have hkn' : k<n:=by rw[Hn.out];exact hkn
   clear hkn;obtain⟨n1,hn1⟩:∃ n1,n1=T'.length:=⟨_,rfl⟩
   have e1:(T'++[(k:Int)]).length=n1+1:=by simp[hn1]
   rw[e1] at hown hTu ⊢;have hown1:=hown.pop;have hsl:=hown.sl;obtain⟨b_t,off_t,t,rfl,⟨Hg_t,hl_t,hw_t,c_t0⟩⟩:=hsl.int n1 om;obtain rfl:t=(k:Int):=by
    have q:=Hg_t.out;rw[hn1] at q;simp at q;exact q.symm
   have Hn1:=Lib.hid hn1;clear hn1 e1;have htc:n1+1≤tcap∧tcap≤9223372036854775807:=by obtain⟨_,_,_,he,_,hq,h1,h2,_⟩:=hsl.open;injection he with _ e2 e3;omega
   obtain⟨htc1,htc2⟩:=htc;obtain⟨b_f,off_f,f,f_locals_a,f_locals_n,f_locals_c,f_blocks_a,f_blocks_n,f_blocks_c,rfl,⟨Hg_f,hl_f,hw_f,f_locals,f_blocks,c_f0,c_f1,c_f2,c_f3,r_f0⟩⟩:=hp.fn k hkn';have Hfm:=Lib.hid (List.mem_of_getElem? Hg_f.out);have Hfe:=Lib.hid (Hok.out.2.2.1 f Hfm.out);have Hrj:=Lib.hid Hri.out.pop;have Hgr:Hid (∀ c,gr p k c=zba f c):=Lib.hid (fun c=>by unfold gr;rw[Hg_f.out]);have HM0:Hid (2 * (List.range 8).countP (fun c:Nat=>!resB ((Instr.lookup 116 (.map (some (w.heap.size+1))) (.int .i64 (c:Nat)) false).run Tryz.prog (ext (w.alloc (bxPr p (.slice (some ⟨b_f,off_f,none⟩) n cap))) x)))=2 * zcn S):=Lib.hid (by rw[zs5 hMB]);have hrow:b_t<(ext (w.alloc (bxPr p (.slice (some ⟨b_f,off_f,none⟩) n cap))) x).heap.size:=(hown1.row_lt b_t rfl).2;clear hown Hri hsl;go_wp2_with (first
    |(go_at_call 123;go_must (with_reducible refine(zos f _ _ _ hw_f f_locals.m f_blocks.m Hfe.out).mono ?_);rintro e w5 ⟨v5,rfl,⟨u5,rfl,hs5⟩,hb5⟩;obtain⟨x5,rfl⟩:=za hb5;clear hb5;obtain⟨a5,n5,cap5,rfl,Hn5,hm5,hcap5,hcm5,hs5⟩:=hs5.open))
   have hs6:Sl (Rg7 (ext (w.alloc (bxPr p (.slice (some ⟨b_f,off_f,none⟩) n cap))) x).heap.size (ext (ext (w.alloc (bxPr p (.slice (some ⟨b_f,off_f,none⟩) n cap))) x) x5).heap.size) (ext (ext (w.alloc (bxPr p (.slice (some ⟨b_f,off_f,none⟩) n cap))) x) x5) (.slice a5 n5 cap5) (zeo f):=hs5.wide (fun b hb hF=>by rcases hF with hF|hF;exact hF.elim;exact⟨hF,hb⟩);obtain⟨lo,hlo⟩:∃ lo,lo=(ext (w.alloc (bxPr p (.slice (some ⟨b_f,off_f,none⟩) n cap))) x).heap.size:=⟨_,rfl⟩
   obtain⟨hi,hhi⟩:∃ hi,hi=(ext (ext (w.alloc (bxPr p (.slice (some ⟨b_f,off_f,none⟩) n cap))) x) x5).heap.size:=⟨_,rfl⟩
   rw[←hlo,←hhi] at hs6;have hlo1:w.heap.size+1+1≤lo:=by have:=hMB.lt;omega
   have hbt:b_t<lo:=by rw[hlo];exact hrow
   have hMB5:=hMB.mono (zw (ext (w.alloc (bxPr p (.slice (some ⟨b_f,off_f,none⟩) n cap))) x) x5);have hown5:=hown1.mono (zw (ext (w.alloc (bxPr p (.slice (some ⟨b_f,off_f,none⟩) n cap))) x) x5);rw[zaa] at hs6 hMB5 hown5 hhi;have Hhi:=Lib.hid hhi;have Hlo:=Lib.hid hlo;clear hlo hhi hs5 hrow;go_loopw [6,40] (fun tv i wr=>∃ (q:Nat) (T2:List Int) (S2:Int→Bool) (m2:Nat) (x2:Ext),q≤n5∧i = .int .i64 q∧wr=ext (w.alloc (bxPr p (.slice (some ⟨b_f,off_f,none⟩) n cap))) x2∧hi≤wr.heap.size∧MapB wr (w.heap.size+1) m2 S2∧Own (fun _=>False) (w.heap.size+1+1) 3 wr tv T2 ∧
    Sl (Rg7 lo hi) wr (.slice a5 n5 cap5) (zeo f)∧(∀ g,tv.ownBlock=some g→g<lo∨hi≤g)∧m2+zcn S2≤8∧T2.length+zcn S2≤9∧2 * zcn S2+T2.length+1≤2 * zcn S+(n1+1)∧Hid (RJ p s k ((zeo f).take q) T2 S2)) (fun _ i _=>n5 - (intOf i).toNat)
   case atStart =>
    refine⟨0,T',S,m,_,Nat.zero_le _,rfl,zaa _ _ _,?_,?_,?_,?_,?_,hmu,?_,?_,Lib.hid (by simpa using Hrj.out)⟩
    ·rw[zaa,Hhi.out];exact Nat.le_refl _
    ·rw[zaa];exact hMB5
    ·rw[zaa];exact hown5
    ·rw[zaa];exact hs6
    ·intro g hg;simp[Value.ownBlock] at hg;subst hg;exact Or.inl hbt
    ·rw[←Hn1.out];omega
    ·rw[←Hn1.out];omega
   case round =>
    obtain⟨q,T2,S2,m2,x2,hq,rfl,rfl,hhs,hMB2,hown2,hs2,hob,hmu2,hTu2,hM2,Hj⟩:=hrel;clear hs6 hMB5 hown5 hMB hown1;by_cases hlt:q<n5
    ·obtain⟨b_c,off_c,c,rfl,⟨Hg_c,hl_c,hw_c,c_c0⟩⟩:=hs2.int q hlt;obtain⟨cn,rfl,hc8,hct⟩:=zuc (List.mem_of_getElem? Hg_c.out);have Hcl:=Lib.hid (zk8 Hok0.out Hfm.out hct);have Hct:=Lib.hid (show gr p k cn=true by rw[Hgr.out cn];exact hct);have Htk:Hid ((zeo f).take (q+1)=(zeo f).take q++[(cn:Int)]):=Lib.hid (by rw[List.take_add_one,Hg_c.out];rfl);clear hct;have hlook:=hMB2.look hw_c;cases hS:S2 (cn:Int)
     ·obtain⟨w1,hput,hMB3,hgr1⟩:=hMB2.put om hw_c;obtain⟨x3,rfl⟩:=za (W:=(w.alloc (bxPr p (.slice (some ⟨b_f,off_f,none⟩) n cap)))) (zej (zw _ _) hgr1 (fun k hk=>by simp at hk;subst hk;simp));have hown3:=hown2.kept hgr1 om;have Hun:=Lib.hid (zub (S:=S2) hc8 hS);have hbs3:w.heap.size+1+1≤(ext (w.alloc (bxPr p (.slice (some ⟨b_f,off_f,none⟩) n cap))) x3).heap.size:=by have:=hMB3.lt;omega
      have hhs3:hi≤(ext (w.alloc (bxPr p (.slice (some ⟨b_f,off_f,none⟩) n cap))) x3).heap.size:=Nat.le_trans hhs hgr1.size;go_wp2_with (first|(at_builtin;go_must (refine zke zau rfl rfl rfl hown3 gw (by simp) (Nat.le_trans hbs3 (by rw[zav];omega)) rfl (y:=(cn:Int)) hw_c cel om om ?_);intro tv' x' hown' hgr' hob'));go_roundw
      case rel =>
       have hne:∀ b,b<w.heap.size+1+1→some b≠Value.ownBlock _:=fun b hb e=>by have:=(hown3.row_lt b e.symm).1;omega
       refine⟨q+1,T2++[(cn:Int)],_,m2+1,x',by omega,by go_num,rfl,Nat.le_trans hhs3 hgr'.size,hMB3.agr (hgr'.block _ hMB3.lt (hne _ om)),hown',?_,?_,?_,?_,?_,Lib.hid (by rw[Htk.out];exact Hj.out.push hS Hct.out Hcl.out)⟩
       ·have h1:=hs2.keep (w':=ext (w.alloc (bxPr p (.slice (some ⟨b_f,off_f,none⟩) n cap))) x3) (fun b hb hlt=>hgr1.block b hlt (by intro e;injection e with e;have:=hb.1;omega));exact h1.keep (fun b hb hlt=>hgr'.block b hlt (fun e=>by have h2:=hob b e.symm;have h3:=hb.1;have h4:=hb.2;omega))
       ·intro g hg;rcases hob' with e|e
        ·exact hob g (Eq.trans (Eq.symm e) hg)
        ·rw[e] at hg;injection hg with hg;right;rw[←hg,zav];omega
       ·have:=Hun.out;omega
       ·have:=Hun.out;rw[List.length_append,List.length_singleton];omega
       ·have:=Hun.out;rw[List.length_append,List.length_singleton];omega
      case measure=>exact me
     ·go_wp2_with fail;go_roundw
      case rel=>exact⟨q+1,T2,S2,m2,x2,by omega,by go_num,rfl,hhs,hMB2,hown2,hs2,hob,hmu2,hTu2,hM2,Lib.hid (by rw[Htk.out];exact Hj.out.seen hS)⟩
      case measure=>exact me
    ·obtain⟨ta2,tc2,rfl,_⟩:=hown2.shape;go_wp2_with fail;go_roundw
     case rel =>
      refine⟨T2,S2,m2,x2,rfl,hMB2,hown2,hmu2,hTu2,Lib.hid (Hj.out.done (fun c hc=>?_))⟩;rw[List.take_of_length_le (by rw[←hs2.len];omega)];rw[Hgr.out] at hc;exact zvu (by have:=zk8 Hok0.out Hfm.out hc;have:=Hok.out.2.1;omega) hc
     case measure=>rw[HM0.out,zs5 hMB2];simp only[lenOf];omega
def zcd (p : Pr): Nat→Bool:=rnds (gr p) p.funcs.length 8 (fun x=>x==0)
theorem zlu {p : Pr}(h : prErr p=0)(c : Nat): zcd p c=true↔(c=0∨Rch (gr p) 0 c):=by
 unfold zcd;rw[zi7 (pr_ok h).2.1 (gr_lt h)];constructor
 ·rintro(h|⟨i,hi,hr⟩)
  ·exact Or.inl (by simpa using h)
  ·obtain rfl:i=0:=by simpa using hi
   exact Or.inr hr
 ·rintro(h|h)
  ·exact Or.inl (by simp[h])
  ·exact Or.inr ⟨0,by simp,h⟩
def zb6 (p : Pr)(q : Nat): List Int:=((List.range q).filter (zcd p)).map (fun c : Nat=>(c : Int))
def zdy (p : Pr): List Int:=zb6 p p.funcs.length
theorem ze5 (p : Pr)(q : Nat): zb6 p (q+1)=zb6 p q++(if zcd p q=true then [(q : Int)] else []):=by
 unfold zb6;rw[List.range_succ,List.filter_append,List.map_append];cases h:zcd p q<;>simp[h]
theorem zot (p : Pr)(q : Nat): (zb6 p q).length≤q:=by
 unfold zb6;rw[List.length_map];have:=List.length_filter_le (zcd p) (List.range q);simpa using this
theorem zou {p : Pr}(h : prErr p=0): zb6 p 1 = [0]:=by
 have:zcd p 0=true:=(zlu h 0).2 (Or.inl rfl)
 rw[ze5,this];rfl
theorem zov (p : Pr)(pv : Value)(w : World){F : Nat→Prop}(hp : Sl F w pv p.funcs)(hok : prErr p=0)(hs : 0<p.funcs.length):
  Calls Tryz.prog 80 #[p.v pv,.int .i64 0] w (RetP w fun v w'=>∃ B m S,v = .map (some B)∧MapB w' B m S∧w.heap.size≤B∧∀ c:Nat,S (c:Int)=true↔Rch (gr p) 0 c):=zp3 p pv 0 w hp hok hs
theorem zlv (p : Pr)(pv : Value)(w : World){F : Nat→Prop}(hp : Sl F w pv p.funcs)(hok : prErr p=0):
  Calls Tryz.prog 49 #[p.v pv] w (RetP w fun v w'=>∃ u,v = .tuple #[u,.int .i64 0]∧Sl (Fresh w) w' u (zdy p)):=by
 obtain⟨a,n,cap,rfl,Hn,hm,hcap,hcm,hp⟩:=hp.open;have Hok:=Lib.hid hok;have hok' : (prErr p != 0)=false:=by simp[hok]
 have H8:=Lib.hid (pr_ok hok);clear hok;have hn8:n≤8:=by have:=H8.out.2.1;rw[←Hn.out] at this;exact this
 have hn1:1≤n:=by have:=H8.out.1;rw[←Hn.out] at this;exact this
 have H0:Hid (0<p.funcs.length):=Lib.hid (by have:=H8.out.1;omega);go_enter Tryz.func49,Tryz.ntmps49
 go_wp2_with (first|(go_at_call 10;((with_reducible refine armV (zbx p _ _ hp.m) ?_);intro x1))|(go_at_call 80;go_must (with_reducible refine(zov p _ _ hp.m Hok.out H0.out).mono ?_);rintro e w2 ⟨v2,rfl,⟨B,m,S,rfl,hMB,hB,hS⟩,hb2⟩;obtain⟨x2,rfl⟩:=za hb2;clear hb2;have HS:=Lib.hid hS;clear hS));obtain⟨base,hbase⟩:∃ base,base=(ext (ext (w.alloc (bxPr p (.slice a n cap))) x1) x2).heap.size:=⟨_,rfl⟩
 have hBb:B<base:=by rw[hbase];exact hMB.lt
 have hb0:w.heap.size+1≤base:=by rw[hbase];simp;omega
 have Hbase:=Lib.hid hbase;go_loopw [6,7] (fun tv i wr=>∃ (q:Nat) (x:Ext),1≤q∧q≤n∧i = .int .i64 q∧wr=ext (w.alloc (bxPr p (.slice a n cap))) x∧base≤wr.heap.size∧MapB wr B m S∧Own (fun _=>False) base 3 wr tv (zb6 p q)) (fun _ i _=>n - (intOf i).toNat)
 case atStart =>
  obtain⟨y,hy⟩:=za (W:=w.alloc (bxPr p (.slice a n cap))) (w:=(ext (ext (w.alloc (bxPr p (.slice a n cap))) x1) x2).alloc (.cells #[.int .i64 0] 3)) gw;refine⟨1,y,Nat.le_refl _,hn1,rfl,hy,?_,?_,?_⟩
  ·rw[zav,←hbase];omega
  ·exact hMB.mono gw
  ·rw[zou Hok.out,show (⟨_,0,none⟩:Addr)=⟨base,0,none⟩ by rw[hbase];simp];refine Own.lit1 ⟨by omega,by omega⟩ ?_ (Nat.le_refl _);rw[hbase];show (Array.push _ _)[_]?=_;rw[Array.getElem?_push,if_pos rfl]
 case round =>
  obtain⟨q,x,hq1,hq,rfl,rfl,hbs,hMB2,hown⟩:=hrel;clear hMB hbase;by_cases hlt:q<n
  ·have hlook:=hMB2.look (c:=(q:Int)) ⟨by omega,by omega⟩;have Hr:Hid (zcd p q=S (q:Int)):=Lib.hid (by
    rw[Bool.eq_iff_iff,zlu Hok.out,HS.out q];constructor
    ·rintro(h|h);omega;exact h
    ·exact Or.inr)
   have hln:=zot p q;cases hSq:S (q:Int)
   ·go_wp2_with fail;go_roundw
    case rel=>exact⟨q+1,x,by omega,by omega,by go_num,rfl,hbs,hMB2,by rw[ze5,Hr.out,hSq];simpa using hown⟩
    case measure=>exact me
   ·have hw64:I64 (q:Int):=⟨by omega,by omega⟩
    have hb1:(w.alloc (bxPr p (.slice a n cap))).heap.size≤base:=by rw[zav];exact hb0
    go_wp2_with (first|(at_builtin;go_must (refine zke zau rfl rfl rfl hown gw hb1 (Nat.le_trans hbs (by rw[zav];omega)) rfl (y:=(q:Int)) hw64 cel om om ?_);intro tv' x' hown' hgr' hob'));go_roundw
    case rel =>
     refine⟨q+1,x',by omega,by omega,by go_num,rfl,Nat.le_trans hbs hgr'.size,hMB2.agr (hgr'.block _ hMB2.lt (fun e=>by have:=(hown.row_lt B e.symm).1;omega)),?_⟩;rw[ze5,Hr.out,hSq];exact hown'
    case measure=>exact me
  ·obtain rfl:q=n:=om;go_wp2_with fail;refine zd (by simp only[results,Tryz.results49];go_simp<;>rfl) rfl gw ⟨_,rfl,?_⟩;have e:zdy p=zb6 p q:=by unfold zdy;rw[←Hn.out]
   rw[e];exact hown.sl.wide (fun b hb hF=>by rcases hF with hF|hF;exact hF.elim;exact Or.inr om)
theorem za5 {f : Fn}(h : fnErr f=0){q : Nat}(hq : q<zb f): CoOk f.locals.length (coF f q):=by
 have hp:=List.getElem?_eq_getElem (l:=ptsF f) (i:=q) (by rw[ze1];exact hq);obtain⟨h1,x,h2,h3⟩:=zk2 hp;unfold coF;rw[hp];simp only[h2];exact zlo h h2 _
theorem Way.lt {f : Fn}(h : fnErr f=0){q : Nat}(hw : Way f q): q<zb f:=by
 cases hw with
 |start=>exact zah h
 |step _ hr=>exact(zar h hr).2
def cloS (f : Fn)(M : Nat→Nat→Bool)(seen : Nat→Bool)(q : Nat): Prop:=∀ r∈nexts f q,seen r=true∧∀ i,M r i=true→bhM (M q) (ddC (coF f q)) i=true
structure SI (f : Fn)(M : Nat→Nat→Bool)(seen : Nat→Bool)(work : List Int): Prop where
 cap:∀ q i,M q i=true→i<f.locals.length
 sound:∀ q i,i<f.locals.length→M q i=false→Un f i q
 way:∀ q,seen q=true→Way f q
 zero:seen 0=true
 head:∀ i,M 0 i=true→1≤i∧(i:Int)≤f.params
 todo:∀ x∈work,∃ k:Nat,x=k∧seen k=true
 clo:∀ q,seen q=true→(q:Int)∈work∨cloS f M seen q
structure SJ (f : Fn)(c : Nat)(T : Nat→Bool)(L : List Nat)(M : Nat→Nat→Bool)(seen : Nat→Bool)(work : List Int): Prop where
 cap:∀ q i,M q i=true→i<f.locals.length
 sound:∀ q i,i<f.locals.length→M q i=false→Un f i q
 way:∀ q,seen q=true→Way f q
 zero:seen 0=true
 head:∀ i,M 0 i=true→1≤i∧(i:Int)≤f.params
 todo:∀ x∈work,∃ k:Nat,x=k∧seen k=true
 cw:Way f c
 mask:∀ i,i<f.locals.length→T i=false→∀ r∈nexts f c,Un f i r
 clo:∀ q,seen q=true→(q:Int)∈work∨cloS f M seen q∨(q=c∧T=bhM (M c) (ddC (coF f c))∧∀ r∈L,seen r=true∧∀ i,M r i=true→T i=true)
theorem SI.pop {f : Fn}(h : fnErr f=0){M : Nat→Nat→Bool}{seen : Nat→Bool}{work : List Int}{c : Nat}(s : SI f M seen ((c : Int)::work)): SJ f c (bhM (M c) (ddC (coF f c))) [] M seen work where
 cap:=s.cap
 sound:=s.sound
 way:=s.way
 zero:=s.zero
 head:=s.head
 todo x hx:=s.todo x (List.mem_cons_of_mem _ hx)
 cw:=by
   obtain⟨k,e,hk⟩:=s.todo c (List.mem_cons_self ..);obtain rfl:c=k:=om;exact s.way c hk
 mask i hi hT r hr:=by
  have hw:Way f c:=by
    obtain⟨k,e,hk⟩:=s.todo c (List.mem_cons_self ..);obtain rfl:c=k:=om;exact s.way c hk
  rw[zm3 (za5 h (hw.lt h))] at hT;simp only[Bool.or_eq_false_iff,Bool.and_eq_false_iff] at hT;rcases hT.2 with hu|hu
  ·exact .undo hw (by simpa using hu) hr
  ·exact .keep hw (s.sound c i hi hu) hT.1 hr
 clo q hq:=by
  rcases s.clo q hq with hm|hm
  ·rcases List.mem_cons.1 hm with hm|hm
   ·exact Or.inr (Or.inr ⟨by omega,rfl,fun r hr=>(List.not_mem_nil hr).elim⟩)
   ·exact Or.inl hm
  ·exact Or.inr (Or.inl hm)
theorem SJ.keep {f : Fn}{c n : Nat}{T : Nat→Bool}{L : List Nat}{M : Nat→Nat→Bool}{seen : Nat→Bool}{work : List Int}(s : SJ f c T L M seen work)(h1 : seen n=true)(h2 : ∀ i,M n i=true→T i=true): SJ f c T (L++[n]) M seen work:=by
 refine { s with clo:=fun q hq=>?_ };rcases s.clo q hq with hm|hm|⟨h3,h4,h5⟩
 ·exact Or.inl hm
 ·exact Or.inr (Or.inl hm)
 ·refine Or.inr (Or.inr ⟨h3,h4,fun r hr=>?_⟩);rcases List.mem_append.1 hr with hr|hr
  ·exact h5 r hr
  ·rw[List.mem_singleton] at hr;subst hr;exact⟨h1,h2⟩
theorem SJ.put {f : Fn}{c n : Nat}{T : Nat→Bool}{L : List Nat}{M : Nat→Nat→Bool}{seen : Nat→Bool}{work : List Int}(s : SJ f c T L M seen work)(hn : n∈nexts f c): SJ f c T (L++[n]) (up M n (fun i=>M n i&&T i)) (up seen n true) (work++[(n : Int)]):=by
 have hle:∀ r i,up M n (fun i=>M n i&&T i) r i=true→M r i=true:=by
  intro r i hr;unfold up at hr;split at hr
  ·rename_i e;subst e;simp only[Bool.and_eq_true] at hr;exact hr.1
  ·exact hr
 have hse:∀ r,seen r=true→up seen n true r=true:=by intro r hr;unfold up;split;rfl;exact hr
 have hclo:∀ q,q≠n→cloS f M seen q→cloS f (up M n (fun i=>M n i&&T i)) (up seen n true) q:=by
  intro q hq hc r hr;have:=hc r hr
  refine⟨hse r this.1,fun i hi=>?_⟩;rw[up_ne _ _ hq];exact this.2 i (hle r i hi)
 refine { cap:=fun q i hi=>s.cap q i (hle q i hi),sound:=?_,way:=?_,zero:=hse 0 s.zero,head:=fun i hi=>s.head i (hle 0 i hi),todo:=?_,cw:=s.cw,mask:=s.mask,clo:=?_ }
 ·intro q i hi hf;unfold up at hf;split at hf
  ·rename_i e;subst e;simp only[Bool.and_eq_false_iff] at hf;rcases hf with hf|hf
   ·exact s.sound q i hi hf
   ·exact s.mask i hi hf q hn
  ·exact s.sound q i hi hf
 ·intro q hq;unfold up at hq;split at hq
  ·rename_i e;subst e;exact .step s.cw hn
  ·exact s.way q hq
 ·intro x hx;rcases List.mem_append.1 hx with hx|hx
  ·obtain⟨k,e,hk⟩:=s.todo x hx;exact⟨k,e,hse k hk⟩
  ·rw[List.mem_singleton] at hx;exact⟨n,hx,zm ..⟩
 ·intro q hq;by_cases e:q=n
  ·subst e;exact Or.inl (by simp)
  ·rw[up_ne _ _ e] at hq;rcases s.clo q hq with hm|hm|⟨h3,h4,h5⟩
   ·exact Or.inl (by simp[hm])
   ·exact Or.inr (Or.inl (hclo q e hm))
   ·refine Or.inr (Or.inr ⟨h3,?_,fun r hr=>?_⟩)
    ·subst h3;rw[up_ne _ _ e];exact h4
    ·rcases List.mem_append.1 hr with hr|hr
     ·exact⟨hse r (h5 r hr).1,fun i hi=>(h5 r hr).2 i (hle r i hi)⟩
     ·rw[List.mem_singleton] at hr;subst hr;refine⟨zm ..,fun i hi=>?_⟩;rw[zm] at hi;simp only[Bool.and_eq_true] at hi;exact hi.2
theorem SJ.done {f : Fn}{c : Nat}{T : Nat→Bool}{L : List Nat}{M : Nat→Nat→Bool}{seen : Nat→Bool}{work : List Int}(s : SJ f c T L M seen work)(hL : ∀ r∈nexts f c,r∈L): SI f M seen work where
 cap:=s.cap
 sound:=s.sound
 way:=s.way
 zero:=s.zero
 head:=s.head
 todo:=s.todo
 clo q hq:=by
  rcases s.clo q hq with hm|hm|⟨h3,h4,h5⟩
  ·exact Or.inl hm
  ·exact Or.inr hm
  ·subst h3;exact Or.inr fun r hr=>⟨(h5 r (hL r hr)).1,fun i hi=>by rw[←h4];exact(h5 r (hL r hr)).2 i hi⟩
theorem SI.last {f : Fn}(h : fnErr f=0){M : Nat→Nat→Bool}{seen : Nat→Bool}(s : SI f M seen [])(q : Nat): M q=setM f q:=by
 have hclo:∀ q,seen q=true→cloS f M seen q:=fun q hq=>by
  rcases s.clo q hq with hm|hm
  ·cases hm
  ·exact hm
 have hway:∀ q,Way f q→seen q=true:=by
  intro q hw;induction hw with
  |start=>exact s.zero
  |step _ hr ih=>exact(hclo _ ih _ hr).1
 have hun:∀ i q,Un f i q→M q i=false:=by
  intro i q hu;induction hu with
  |start h0 =>
   cases hM:M 0 i
   ·rfl
   ·have:=s.head i hM;omega
  |undo hw hus hr =>
   rename_i q r;cases hM:M r i
   ·rfl
   ·have:=(hclo q (hway q hw) r hr).2 i hM
    rw[zm3 (za5 h (hw.lt h)),hus] at this;have h2:setsC (coF f q) i=false:=by unfold zbw at hus;simp only[Bool.and_eq_true,Bool.not_eq_true'] at hus;exact hus.1
    rw[h2] at this;simp at this
  |keep hw hu hse hr ih =>
   rename_i q r;cases hM:M r i
   ·rfl
   ·have:=(hclo q (hway q hw) r hr).2 i hM
    rw[zm3 (za5 h (hw.lt h)),hse,ih] at this;simp at this
 funext i
 unfold setM;by_cases hi:i<f.locals.length
 ·cases hM:M q i
  ·have:=(zj0 f i q).2 (s.sound q i hi hM);simp[hi,this]
  ·have:unB f i q=false:=by
    cases hu:unB f i q
    ·rfl
    ·have:=hun i q ((zj0 f i q).1 hu);rw[hM] at this;cases this
   simp[hi,this]
 ·cases hM:M q i
  ·simp[hi]
  ·exact absurd (s.cap q i hM) hi
def bitsM (N : Nat)(M : Nat→Nat→Bool): Nat:=(List.range (N * 16)).countP fun j=>M (j / 16) (j % 16)
def zj (N : Nat)(h : Nat→Bool): Nat:=(List.range N).countP fun q=>!h q
theorem zi8 {l : List Nat}{p q : Nat→Bool}(h : ∀ x∈l,p x=true→q x=true): l.countP p≤l.countP q:=List.countP_mono_left h
theorem zii {N n : Nat}{h : Nat→Bool}: zj N (up h n true)≤zj N h:=zi8 fun x _ hx=>by
 unfold up at hx;split at hx;cases hx;exact hx
theorem zco {N n : Nat}{h : Nat→Bool}(hn : n<N)(h0 : h n=false): zj N (up h n true)<zj N h:=zdk (fun x _ hx=>by
 unfold up at hx;split at hx;cases hx;exact hx) (a:=n) (List.mem_range.2 hn) (by simp[zm]) (by simp[h0])
theorem zya {N n : Nat}{M : Nat→Nat→Bool}{T : Nat→Bool}: bitsM N (up M n (fun i=>M n i&&T i))≤bitsM N M:=zi8 fun x _ hx=>by
 unfold up at hx;split at hx
 ·rename_i e;rw[e];simp only[Bool.and_eq_true] at hx;exact hx.1
 ·exact hx
theorem zyb {N n i : Nat}{M : Nat→Nat→Bool}{T : Nat→Bool}(hn : n<N)(hi : i<16)(h1 : M n i=true)(h2 : T i=false): bitsM N (up M n (fun i=>M n i&&T i))<bitsM N M:=by
 have e1:(n * 16+i) / 16=n:=om;have e2:(n * 16+i) % 16=i:=om;refine zdk (fun x _ hx=>?_) (a:=n * 16+i) (List.mem_range.2 om) ?_ ?_
 ·unfold up at hx;split at hx
  ·rename_i e;rw[e];simp only[Bool.and_eq_true] at hx;exact hx.1
  ·exact hx
 ·rw[e1,e2,zm];simp[h1,h2]
 ·rw[e1,e2];exact h1
def muS (N : Nat)(M : Nat→Nat→Bool)(seen : Nat→Bool)(work : List Int): Nat:=2 * (bitsM N M+zj N seen)+work.length
theorem zs6 {N n : Nat}{M : Nat→Nat→Bool}{T seen : Nat→Bool}{work : List Int}(hn : n<N)(h : seen n=false∨∃ i,i<16∧M n i=true∧T i=false): muS N (up M n (fun i=>M n i&&T i)) (up seen n true) (work++[(n : Int)])≤muS N M seen work:=by
 unfold muS;have h1:=zya (N:=N) (n:=n) (M:=M) (T:=T);have h2:=zii (N:=N) (n:=n) (h:=seen);rw[List.length_append,List.length_singleton];rcases h with h|⟨i,hi,hM,hT⟩
 ·have:=zco (N:=N) (h:=seen) hn h;omega
 ·have:=zyb (N:=N) (M:=M) (T:=T) hn hi hM hT;omega
theorem z0h {N : Nat}{M : Nat→Nat→Bool}{seen : Nat→Bool}{work : List Int}{c : Int}: muS N M seen work<muS N M seen (c::work):=by unfold muS;simp only[List.length_cons];omega
def allM (f : Fn): Nat→Nat→Bool:=up (fun _ i=>decide (i<f.locals.length)) 0 (fun i=>decide (1≤i∧(i : Int)≤f.params))
theorem SI.start {f : Fn}(h : fnErr f=0): SI f (allM f) (up (fun _=>false) 0 true) [0] where
 cap q i hi:=by
  have:=zcc h
  unfold allM up at hi;split at hi
  ·simp only[decide_eq_true_eq] at hi;omega
  ·simpa using hi
 sound q i hi hM:=by
  unfold allM up at hM;split at hM
  ·rename_i e;subst e;simp only[decide_eq_false_iff_not] at hM;exact .start om
  ·simp[hi] at hM
 way q hq:=by
  unfold up at hq;split at hq
  ·rename_i e;subst e;exact .start
  ·cases hq
 zero:=zm ..
 head i hi:=by unfold allM at hi;rw[zm] at hi;simpa using hi
 todo x hx:=by rw[List.mem_singleton] at hx;exact⟨0,hx,zm ..⟩
 clo q hq:=by
  unfold up at hq;split at hq
  ·rename_i e;subst e;exact Or.inl (by simp)
  ·cases hq
structure Ro (N : Nat)(act : (Nat→Bool)→Nat→Bool)(nx : Nat→List Nat)(P : Nat→Prop)(h0 : Nat→Bool)(c0 : Nat)(n : Nat)(L : List Nat)(h : Nat→Bool)(more : Bool): Prop where
 sound:∀ x,h x=true→P x
 old:∀ x,h0 x=true→h x=true
 clo:more=false→∀ m,m<n→act h m=true→∀ r∈nx m,h r=true
 here:more=false→∀ r∈L,h r=true
 cnt:zj N h+more.toNat≤c0
theorem Ro.step {N n r : Nat}{act : (Nat→Bool)→Nat→Bool}{nx : Nat→List Nat}{P : Nat→Prop}{h0 h : Nat→Bool}{c0 : Nat}{L : List Nat}{more : Bool}(s : Ro N act nx P h0 c0 n L h more)(hr : r<N)(hP : P r):
  Ro N act nx P h0 c0 n (L++[r]) (up h r true) (more||!h r):=by
 cases hh:h r
 ·refine { sound:=?_,old:=?_,clo:=fun hm=>by simp at hm,here:=fun hm=>by simp at hm,cnt:=?_ }
  ·intro x hx;unfold up at hx;split at hx
   ·rename_i e;subst e;exact hP
   ·exact s.sound x hx
  ·intro x hx;unfold up;split;rfl;exact s.old x hx
  ·have:=zco (N:=N) hr hh;have:=s.cnt;cases more<;>simp at *<;>omega
 ·have e:up h r true=h:=by funext x;unfold up;split;rename_i e;subst e;exact hh.symm;rfl
  rw[e];have e2:(more||!true)=more:=by simp
  rw[e2];refine { s with here:=fun hm x hx=>?_ };rcases List.mem_append.1 hx with hx|hx
  ·exact s.here hm x hx
  ·rw[List.mem_singleton] at hx;subst hx;exact hh
theorem Ro.next {N n : Nat}{act : (Nat→Bool)→Nat→Bool}{nx : Nat→List Nat}{P : Nat→Prop}{h0 h : Nat→Bool}{c0 : Nat}{L : List Nat}{more : Bool}(s : Ro N act nx P h0 c0 n L h more)(hL : act h n=true→∀ r∈nx n,r∈L):
  Ro N act nx P h0 c0 (n+1) [] h more:=by
 refine { s with clo:=fun hm m hlt ha r hr=>?_,here:=fun _ r hr=>(List.not_mem_nil hr).elim };by_cases e:m=n
 ·subst e;exact s.here hm r (hL ha r hr)
 ·exact s.clo hm m om ha r hr
theorem Ro.again {N n : Nat}{act : (Nat→Bool)→Nat→Bool}{nx : Nat→List Nat}{P : Nat→Prop}{h0 h : Nat→Bool}{c0 : Nat}{L : List Nat}{more : Bool}(s : Ro N act nx P h0 c0 n L h more):
  Ro N act nx P h0 (zj N h) 0 [] h false :=
 {sound:=s.sound,old:=s.old,clo:=fun _ m hm=>absurd hm (Nat.not_lt_zero _),here:=fun _ r hr=>(List.not_mem_nil hr).elim,cnt:=by simp }
theorem zud {f : Fn}(h : fnErr f=0){hh : Nat→Bool}{c0 : Nat}(s : Ro (zb f) (fun h n=>h n) (nexts f) (Way f) (up (fun _=>false) 0 true) c0 (zb f) [] hh false)(q : Nat): hh q=wayB f q:=by
 have hw:∀ q,Way f q→hh q=true:=by
  intro q hw;induction hw with
  |start=>exact s.old 0 (zm ..)
  |step hw hr ih=>exact s.clo rfl _ (hw.lt h) ih _ hr
 cases e:hh q
 ·cases e2:wayB f q
  ·rfl
  ·have:=hw q ((zgg f q).1 e2);rw[e] at this;cases this
 ·exact((zgg f q).2 (s.sound q e)).symm
noncomputable def actU (f : Fn)(i : Nat)(h : Nat→Bool)(n : Nat): Bool:=wayB f n&&(zbw (coF f n) i||(h n&&!setsC (coF f n) i))
def un0 (f : Fn)(i : Nat): Nat→Bool:=up (fun _=>false) 0 (decide (i<1)||decide (f.params<(i : Int)))
theorem z2k {f : Fn}{i x : Nat}(h : un0 f i x=true): Un f i x:=by
 unfold un0 up at h;split at h
 ·rename_i e;subst e;simp only[Bool.or_eq_true,decide_eq_true_eq] at h;exact .start h
 ·cases h
theorem zvv {f : Fn}{i n r : Nat}{h : Nat→Bool}(hs : ∀ x,h x=true→Un f i x)(ha : actU f i h n=true)(hr : r∈nexts f n): Un f i r:=by
 unfold actU at ha;simp only[Bool.and_eq_true,Bool.or_eq_true,Bool.not_eq_true'] at ha;have hw:=(zgg f n).1 ha.1;rcases ha.2 with hu|⟨hu,hse⟩
 ·exact .undo hw hu hr
 ·exact .keep hw (hs n hu) hse hr
theorem zvw {f : Fn}(h : fnErr f=0){i : Nat}{hh : Nat→Bool}{c0 : Nat}(s : Ro (zb f) (actU f i) (nexts f) (Un f i) (un0 f i) c0 (zb f) [] hh false)(q : Nat): hh q=unB f i q:=by
 have hw:∀ q,Un f i q→hh q=true:=by
  intro q hw;induction hw with
  |start h0=>exact s.old 0 (by unfold un0;rw[zm];simp only[Bool.or_eq_true,decide_eq_true_eq];exact h0)
  |undo hw hu hr=>exact s.clo rfl _ (hw.lt h) (by unfold actU;rw[(zgg f _).2 hw,hu];rfl) _ hr
  |keep hw _ hse hr ih=>exact s.clo rfl _ (hw.lt h) (by unfold actU;rw[(zgg f _).2 hw,hse,ih];simp) _ hr
 cases e:hh q
 ·cases e2:unB f i q
  ·rfl
  ·have:=hw q ((zj0 f i q).1 e2);rw[e] at this;cases this
 ·exact((zj0 f i q).2 (s.sound q e)).symm
end Go.Proofs.YtacmoaeglbggjaaGreat
