/- A part of the proof. -/
import Derived.Deep.CutRange
import Derived.Test.YtacmoaeglbggjaaGreatQ19
namespace Go.Proofs.YtacmoaeglbggjaaGreat
open Go.RowKit
set_option linter.unusedSimpArgs false
set_option linter.unusedVariables false
set_option maxRecDepth 100000
set_option maxHeartbeats 16000000
theorem agr2 {A : World}{o1 o1' o2 o2' : Obj}{z : Ext}{F : Nat→Prop}(h1 : ¬F A.heap.size)(h2 : ¬F (A.heap.size+1)):
  AgrS F (ext ((A.alloc o1).alloc o2) z) (ext ((A.alloc o1').alloc o2') z):=by
 refine(AgrS.alloc (AgrS.alloc (AgrS.refl F A) h1 o1 o1') ?_ o2 o2').ext z;rw[show (A.alloc o1).heap.size=A.heap.size+1 from by simp];exact h2
theorem Sl.turn2 {α : Type}[Rp α]{A : World}{o1 o1' o2 o2' : Obj}{z : Ext}{v : Value}{xs : List α}{F : Nat→Prop}(h : Sl F (ext ((A.alloc o1).alloc o2) z) v xs)(h1 : ¬F A.heap.size)(h2 : ¬F (A.heap.size+1)):
  Sl F (ext ((A.alloc o1').alloc o2') z) v xs:=h.keep (agr2 h1 h2).agr
theorem zur (f : Fn)(x : Lo)(v1 v2 rv : Value)(w : World){F F' Fr' : Nat→Prop}(h1 : Sl F w v1 f.locals)(h2 : Sl F' w v2 f.blocks)(hok : fnErr f=0){reg : Nat→Bool}(hr : Sl Fr' w rv (bL (zb f) reg))(hx0 : 0≤x.at_)(hx1 : x.at_<(zb f : Nat))(hx2 : x.loc<16):
  Calls Tryz.prog 98 #[f.v v1 v2,x.v,rv] w (RetP w fun v w'=>∃ u1 u2,v = .tuple #[u1,u2]∧Sl (Fresh w) w' u1 (bL (zb f) (inB f x reg))∧Sl (Fresh w) w' u2 (bL (zb f) (usB f x reg))):=by
 obtain⟨a,n,cap,rfl,Hn,hm,hcap,hcm,h1⟩:=h1.open;obtain⟨a2,n2,cap2,rfl,Hn2,hm2,hcap2,hcm2,h2⟩:=h2.open;have Hok:=Lib.hid hok;have hN1:=zah hok;have hN6:=zp hok;clear hok;obtain⟨pa,hpa⟩:=Int.eq_ofNat_of_zero_le hx0;have Hpa:Hid (x.at_.toNat=pa):=Lib.hid om;have hpaN:pa<zb f:=om;have Hpe:=Lib.hid hpa;clear hpa;have Hend:Hid (∀ In Us c0,Rx f x reg (zb f) c0 (zb f) In Us false→∀ q,In q=inB f x reg q∧Us q=usB f x reg q):=Lib.hid fun In Us c0 s q=>s.last Hok.out (by rw[Hpa.out];exact hpaN) q;have Hpt:Hid (∀ q,q<zb f→∃ b i x,PtAt f q b i x):=Lib.hid fun q h=>PtAt.of h;have Hlt:Hid (∀ q r,r∈nexts f q→r<zb f):=Lib.hid fun q r h=>(zar Hok.out h).2;obtain⟨rg,ro,rcap,rfl,hrgl,hrat⟩:∃ rg ro rcap,rv = .slice (some ⟨rg,ro,none⟩) (zb f) rcap∧LtW rg w∧∀ q,q<zb f→w.cell? ⟨rg,ro+q,none⟩=some (.bool (reg q)):=by
  obtain⟨ar,nr,capr,rfl,Hnr,_,_,_,hr⟩:=hr.open;obtain rfl:nr=zb f:=by rw[Hnr.out,zdz]
  obtain⟨rg,ro,rfl,hl⟩:=hr.addr om;exact⟨rg,ro,capr,rfl,hl,fun q hq=>hr.boolAt (zep reg hq)⟩
 have Hrat:=Lib.hid hrat
 clear hr hrat hx0 hx1;generalize (zb f)=N at Hend Hpt Hlt Hrat hpaN hN1 hN6 ⊢;go_enter Tryz.func98,Tryz.ntmps98
 go_wp2_with (first|(at_make;refine zam (bytes:=1) rfl rfl Tryz.underlying66 (by kernel_rfl) rfl rfl om om ?_));go_loopg [10] (4 * (zj N (fun _=>false)+zj N (fun _=>false))+1) (fun g mv wr=>∃ (mo:Bool) (In Us:Nat→Bool) (c0:Nat),mv = .bool mo∧Grow ((((w.alloc (bxFn f (.slice a n cap) (.slice a2 n2 cap2))).alloc (bxLo x)).alloc (.cells (bA N In) 4)).alloc (.cells (bA N Us) 4)) wr∧Hid (Rx f x reg N c0 N In Us mo)∧Hid (g=4 * (zj N In+zj N Us)+mo.toNat))
 case atStart=>exact⟨true,_,_,_,rfl,Grow.refl _,Lib.hid Rx.start,Lib.hid rfl⟩
 case round =>
  obtain⟨mo,In,Us,c0,rfl,hgr,HR,Hg⟩:=hrel;obtain⟨y,rfl⟩:=za hgr;cases mo
  ·have He1:Hid (bL N In=bL N (inB f x reg)):=Lib.hid (zcv fun i _=>(Hend.out In Us c0 HR.out i).1);have He2:Hid (bL N Us=bL N (usB f x reg)):=Lib.hid (zcv fun i _=>(Hend.out In Us c0 HR.out i).2);go_wp2_with fail;refine zd (by simp only[results,Tryz.results98];go_simp<;>first|rfl|exact⟨rfl,rfl⟩) rfl gw ⟨_,_,rfl,?_,?_⟩
   ·rw[←He1.out];have hh:=(show Grow (((w.alloc (bxFn f (.slice a n cap) (.slice a2 n2 cap2))).alloc (bxLo x)).alloc (.cells (bA N In) 4)) (ext ((((w.alloc (bxFn f (.slice a n cap) (.slice a2 n2 cap2))).alloc (bxLo x)).alloc (.cells (bA N In) 4)).alloc (.cells (bA N Us) 4)) y) from gw).block ((w.alloc (bxFn f (.slice a n cap) (.slice a2 n2 cap2))).alloc (bxLo x)).heap.size (by simp);rw[heap_alloc_new] at hh;rw[show ((w.alloc (bxFn f (.slice a n cap) (.slice a2 n2 cap2))).alloc (bxLo x)).heap.size=w.heap.size+1+1 from by simp] at hh;exact Sl.bools hh (Or.inr om) om
   ·rw[←He2.out];have hh:=zcf (((w.alloc (bxFn f (.slice a n cap) (.slice a2 n2 cap2))).alloc (bxLo x)).alloc (.cells (bA N In) 4)) (.cells (bA N Us) 4) y;rw[show (((w.alloc (bxFn f (.slice a n cap) (.slice a2 n2 cap2))).alloc (bxLo x)).alloc (.cells (bA N In) 4)).heap.size=w.heap.size+1+1+1 from by simp] at hh;exact Sl.bools hh (Or.inr om) om
  ·go_wp2_with fail;go_loopw [10,11] (fun mv tv wr=>∃ (k:Nat) (mo:Bool) (In' Us' : Nat→Bool),k≤N∧tv = .int .i64 k∧mv = .bool mo∧Grow ((((w.alloc (bxFn f (.slice a n cap) (.slice a2 n2 cap2))).alloc (bxLo x)).alloc (.cells (bA N In') 4)).alloc (.cells (bA N Us') 4)) wr∧Hid (Rx f x reg N (zj N In+zj N Us) k In' Us' mo)) (fun _ tv _=>N - (intOf tv).toNat)
   case atStart=>exact⟨0,false,In,Us,Nat.zero_le _,rfl,rfl,gw,Lib.hid HR.out.again⟩
   case round =>
    obtain⟨k,mo,In',Us',hk,rfl,rfl,hgr',HR'⟩:=hrel;obtain⟨y',rfl⟩:=za hgr';by_cases hlt:k<N
    ·obtain⟨pb,pi,px,hp⟩:=Hpt.out k hlt;have hl2:=zg5 hp;have hgk:∀ h,(bA N h)[k]?=some (.bool (h k)):=fun h=>zan N h k hlt;have Hki:=Lib.hid fun (w':World) (k1:Sl F w' (.slice a n cap) f.locals) (k2:Sl F' w' (.slice a2 n2 cap2) f.blocks)=>zqk f x _ _ w' k1 k2 Hok.out hp;have Hus:=Lib.hid fun (w':World) (k1:Sl F w' (.slice a n cap) f.locals) (k2:Sl F' w' (.slice a2 n2 cap2) f.blocks)=>zuq f x _ _ w' k1 k2 Hok.out hp hx2;obtain⟨kb,Hkb⟩:∃ kb,Hid (killB f x k=kb):=⟨_,Lib.hid rfl⟩
     obtain⟨ux,Hux⟩:∃ ux,Hid (usesX f x k=ux):=⟨_,Lib.hid rfl⟩
     rw[Hkb.out] at Hki;rw[Hux.out] at Hus;by_cases hact:k=pa∨In' k=true
     ·cases kb
      ·-- the point hands on
       have HY:=Lib.hid (HR'.out.begin (by rw[Hpa.out];exact hact) Hkb.out);obtain⟨wx,Hwx⟩:∃ wx,Hid (wasX f x In' Us' k=wx):=⟨_,Lib.hid rfl⟩
       rw[Hwx.out] at HY;have Hwd:Hid (wx=(Us' k||(In' k&&ux))):=Lib.hid (by rw[←Hwx.out,←Hux.out];rfl);have hc1:(k=pa∧((k:Int) != x.at_)=false)∨(((k:Int) != x.at_)=true∧In' k=true):=by
        by_cases e:k=pa
        ·exact Or.inl ⟨e,by rw[Hpe.out];simp[e]⟩
        ·exact Or.inr ⟨by rw[Hpe.out];simp;omega,hact.resolve_left e⟩
       clear hact;obtain⟨uk,huk⟩:∃ uk,Us' k=uk:=⟨_,rfl⟩
       obtain⟨ik,hik⟩:∃ ik,In' k=ik:=⟨_,rfl⟩
       rw[huk,hik] at Hwd;have hc2:((k:Int) != x.at_)=false∨(((k:Int) != x.at_)=true∧ik=true):=by
        rcases hc1 with h|h
        ·exact Or.inl h.2
        ·exact Or.inr ⟨h.1,by rw[←hik];exact h.2⟩
       clear hc1;go_upto_region 9 with fail;go_cut [44] from 22 to 123 (fun v wc=>v = .bool false∧Grow ((((w.alloc (bxFn f (.slice a n cap) (.slice a2 n2 cap2))).alloc (bxLo x)).alloc (.cells (bA N In') 4)).alloc (.cells (bA N Us') 4)) wc)
       case first =>
        rcases hc2 with hne|⟨hne,hik2⟩
        ·go_wp2_with (first|(go_at_call 143;((with_reducible refine armV (Hki.out _ h1.m h2.m) ?_);intro x7)));go_meet
         case rel=>exact⟨rfl,gw⟩
        ·subst hik2;go_wp2_with (first|(go_at_call 143;((with_reducible refine armV (Hki.out _ h1.m h2.m) ?_);intro x7)));go_meet
         case rel=>exact⟨rfl,gw⟩
       case rest =>
        obtain⟨rfl,hgc⟩:=hcut;obtain⟨y9,rfl⟩:=za hgc;clear hc2;go_upto_region 10 with fail;go_cut [12] from 22 to 123 (fun v wc=>v = .bool wx∧Grow ((((w.alloc (bxFn f (.slice a n cap) (.slice a2 n2 cap2))).alloc (bxLo x)).alloc (.cells (bA N In') 4)).alloc (.cells (bA N Us') 4)) wc)
        case first =>
         cases uk
         ·cases ik
          ·go_wp2_with fail;go_meet
           case rel=>exact⟨by rw[Hwd.out];rfl,gw⟩
          ·go_wp2_with (first|(go_at_call 144;((with_reducible refine armV (Hus.out _ h1.m h2.m) ?_);intro x8)));go_meet
           case rel=>exact⟨by rw[Hwd.out];rfl,gw⟩
         ·go_wp2_with fail;go_meet
          case rel=>exact⟨by rw[Hwd.out];rfl,gw⟩
        case rest =>
         obtain⟨rfl,hgd⟩:=hcut;obtain⟨y10,rfl⟩:=za hgd;clear huk hik Hwd;go_wp2_with (first|(go_at_call 145;((with_reducible refine armS (zeu f _ _ _ h1.m h2.m Hok.out hp) ?_);intro a4 n4 cap4 x4 Hn4 hm4 hcap4 hcm4 hs4)));have Hn4' : Hid (n4=(nexts f k).length):=Lib.hid (by rw[Hn4.out,zew]);have hn4:n4≤2:=by rw[Hn4'.out];exact hl2
         have hs4:=hs4.iv;obtain⟨s0,Hs0⟩:∃ s0,Hid (s0=(ext ((((w.alloc (bxFn f (.slice a n cap) (.slice a2 n2 cap2))).alloc (bxLo x)).alloc (.cells (bA N In') 4)).alloc (.cells (bA N Us') 4)) y10).heap.size):=⟨_,Lib.hid rfl⟩
         obtain⟨s1,Hs1⟩:∃ s1,Hid (s1=(ext (ext ((((w.alloc (bxFn f (.slice a n cap) (.slice a2 n2 cap2))).alloc (bxLo x)).alloc (.cells (bA N In') 4)).alloc (.cells (bA N Us') 4)) y10) x4).heap.size):=⟨_,Lib.hid rfl⟩
         rw[←Hs0.out,←Hs1.out] at hs4;have hs0:w.heap.size+4≤s0:=by rw[Hs0.out];simp<;>omega
         clear hl2;go_loopw [10,14] (fun mv tv wr=>∃ (j:Nat) (mo' : Bool) (In'' Us'' : Nat→Bool),j≤n4∧tv = .int .i64 j∧mv = .bool mo'∧Grow ((((w.alloc (bxFn f (.slice a n cap) (.slice a2 n2 cap2))).alloc (bxLo x)).alloc (.cells (bA N In'') 4)).alloc (.cells (bA N Us'') 4)) wr∧Sl (fun b=>s0≤b∧b<s1) wr (.slice a4 n4 cap4) (zce f k)∧Hid (Ry f x reg N (zj N In+zj N Us) k wx ((nexts f k).take j) In'' Us'' mo')) (fun _ tv _=>n4 - (intOf tv).toNat)
         case atStart=>exact⟨0,mo,In',Us',Nat.zero_le _,rfl,rfl,gw,hs4,HY⟩
         case round =>
          obtain⟨j,mo',In'',Us'',hj,rfl,rfl,hgr2,hs5,HY2⟩:=hrel;obtain⟨z,rfl⟩:=za hgr2;by_cases hlt4:j<n4
          ·obtain⟨g4,o4,r,rfl,⟨Hr,hrl,hrw,hcr⟩⟩:=hs5.int j hlt4;obtain⟨rn,rfl,hrn⟩:=zev Hr.out;have hmem:=List.mem_of_getElem? hrn;have hrN:=Hlt.out k rn hmem;have hgr:∀ h,(bA N h)[rn]?=some (.bool (h rn)):=fun h=>zan N h rn hrN;have hsr:∀ h v,(bA N h).setIfInBounds rn (.bool v)=bA N (up h rn v):=fun h v=>zcm N h rn v hrN;have hreg:=Hrat.out rn hrN;obtain⟨rb,hrb⟩:∃ rb,reg rn=rb:=⟨_,rfl⟩
           rw[hrb] at hreg;have Htk:=Lib.hid (zex hrn);cases rb
           ·have Hnx:=Lib.hid (HY2.out.skip hrb);rw[←Htk.out] at Hnx;clear hmem hrn hrb;go_wp2_with fail;go_roundw
            case rel=>exact⟨j+1,mo',In'',Us'',by omega,by go_num,rfl,gw,hs5,Hnx⟩
            case measure=>exact me
           ·have Hst:=Lib.hid (HY2.out.step hmem hrb hrN);rw[←Htk.out] at Hst;obtain⟨iv,hiv⟩:∃ iv,In'' rn=iv:=⟨_,rfl⟩
            obtain⟨uv,huv⟩:∃ uv,Us'' rn=uv:=⟨_,rfl⟩
            rw[hiv,huv] at Hst;have hs6:Sl (fun b=>s0≤b∧b<s1) (ext ((((w.alloc (bxFn f (.slice a n cap) (.slice a2 n2 cap2))).alloc (bxLo x)).alloc (.cells (bA N (up In'' rn true)) 4)).alloc (.cells (bA N Us'') 4)) z) (.slice (some ⟨g4,o4,none⟩) n4 cap4) (zce f k):=hs5.turn2 (by simp;omega) (by simp;omega);have hcr2:=(hs6.intAt Hr.out).1;haveI:LtW g4 (ext ((((w.alloc (bxFn f (.slice a n cap) (.slice a2 n2 cap2))).alloc (bxLo x)).alloc (.cells (bA N (up In'' rn true)) 4)).alloc (.cells (bA N Us'') 4)) z):=⟨by have:=hrl.lt;simpa using this⟩
            clear hmem hrn hrb;cases mo'<;>cases iv<;>cases wx<;>cases uv;all_goals
             replace Hst:=Hst.out;simp only[Bool.or_false,Bool.or_true,Bool.false_or,Bool.true_or,Bool.not_true,Bool.not_false,Bool.and_false,Bool.and_true,Bool.false_and,Bool.true_and] at Hst;replace Hst:=Lib.hid Hst;go_wp2_with fail
             ((refine zv 17 16 (by kernel_rfl) (by rfl) (by decide) ?_);(iterate 16 (all_goals (first|((first|refine Tq 0 ?_|refine Tq 1 ?_|refine Tq 2 ?_|refine Tq 3 ?_|refine Tq 4 ?_|refine Tq 5 ?_|refine Tq 6 ?_|refine Tq 7 ?_|refine Tq 8 ?_|refine Tq 9 ?_|refine Tq 10 ?_|refine Tq 11 ?_|refine Tq 12 ?_|refine Tq 13 ?_|refine Tq 14 ?_|refine Tq 15 ?_);(first|go_big_quiet_step (fail)|(refine wpQuiet_step (fun K hK=>?_);go_simp;split<;>(refine hK _ ?_;clear hK K)));refine wpQuiet_nil ?_)|((first|refine Tf 0 ?_|refine Tf 1 ?_|refine Tf 2 ?_|refine Tf 3 ?_|refine Tf 4 ?_|refine Tf 5 ?_|refine Tf 6 ?_|refine Tf 7 ?_|refine Tf 8 ?_|refine Tf 9 ?_|refine Tf 10 ?_|refine Tf 11 ?_|refine Tf 12 ?_|refine Tf 13 ?_|refine Tf 14 ?_|refine Tf 15 ?_);intro xg K hK;go_wp2_with (fail);refine hK _ _ gw ?_;clear hK K))));all_goals (refine zap (by decide +kernel) ?_;intro xR K hK;simp only[List.drop_succ_cons,List.drop_zero];go_wp2_with (fail);refine hK _ _ ?_;clear hK K))
             go_wp2_with fail;go_roundw
             case rel=>exact⟨j+1,_,_,_,by omega,by go_num,rfl,gw,(hs5.turn2 (by simp;omega) (by simp;omega)).mono gw,Hst⟩
             case measure=>exact me
          ·have Hnx:=Lib.hid (HY2.out.done (fun r hr=>by rw[List.take_of_length_le (by rw[←Hn4'.out];omega)];exact hr));go_wp2_with fail;go_roundw
           case rel=>exact⟨k+1,mo',In'',Us'',by omega,by go_num,rfl,gw,Hnx⟩
           case measure=>exact me
      ·have Hnx:=Lib.hid (HR'.out.skip (Or.inr Hkb.out));have hc2:((k:Int) != x.at_)=false∨(((k:Int) != x.at_)=true∧In' k=true):=by
        by_cases e:k=pa
        ·exact Or.inl (by rw[Hpe.out];simp[e])
        ·exact Or.inr ⟨by rw[Hpe.out];simp;omega,hact.resolve_left e⟩
       clear hact hl2;rcases hc2 with hne|⟨hne,hik⟩;all_goals
        go_wp2_with (first|(go_at_call 143;((with_reducible refine armV (Hki.out _ h1.m h2.m) ?_);intro x7)));go_roundw
        case rel=>exact⟨k+1,mo,In',Us',by omega,by go_num,rfl,gw,Hnx⟩
        case measure=>exact me
     ·have hne:((k:Int) != x.at_)=true:=by rw[Hpe.out];simp;intro e;exact hact (Or.inl om)
      have hik:In' k=false:=by cases h:In' k;rfl;exact absurd (Or.inr h) hact
      have Hnx:=Lib.hid (HR'.out.skip (Or.inl ⟨by rw[Hpa.out];intro e;exact hact (Or.inl e),hik⟩));clear hact hl2;go_wp2_with fail;go_roundw
      case rel=>exact⟨k+1,mo,In',Us',by omega,by go_num,rfl,gw,Hnx⟩
      case measure=>exact me
    ·obtain rfl:k=N:=om;have hcnt:=HR'.out.cnt;go_wp2_with fail;go_roundg (4 * (zj k In'+zj k Us')+mo.toNat)
     case measure=>have:=Hg.out;simp at this;omega
     case rel=>exact⟨mo,In',Us',_,rfl,gw,HR',Lib.hid rfl⟩
end Go.Proofs.YtacmoaeglbggjaaGreat
