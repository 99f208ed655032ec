/- A part of the proof. -/
import Derived.Test.YtacmoaeglbggjaaGreatQ13
namespace Go.Proofs.YtacmoaeglbggjaaGreat
open Go.RowKit
set_option linter.unusedSimpArgs false
set_option linter.unusedVariables false
set_option maxRecDepth 100000
set_option maxHeartbeats 16000000
theorem zl6 (l k : List Opd): ∀ S,opF S (l++k)=(opF S l||opF (mvM S l) k):=by
 induction l with
 |nil=>intro S;rfl
 |cons o l ih=>intro S;simp only[List.cons_append,opF,ih,Bool.or_assoc];rfl
theorem zys {l : List Opd}{k : Nat}{o : Opd}(S : Nat→Bool)(h : Hid (l[k]?=some o)): opF S (l.take (k+1))=(opF S (l.take k)||(decide (o.kind≠1)&&!mvM S (l.take k) o.pl.loc.toNat)):=by
 rw[List.take_add_one,h.out,zl6];simp[opF]
theorem zyt {l : List Opd}{k : Nat}{o : Opd}(S : Nat→Bool)(h : Hid (l[k]?=some o)): mvM S (l.take (k+1))=mv1 (mvM S (l.take k)) o:=by
 rw[List.take_add_one,h.out];unfold mvM;rw[List.foldl_append];rfl
theorem zqe {l : List Opd}{S : Nat→Bool}{k : Nat}(h : opF S (l.take k)=true): opF S l=true:=by
 have:=zl6 (l.take k) (l.drop k) S
 rw[List.take_append_drop] at this;rw[this,h];rfl
theorem zf9 (q : Nat)(hq : q<16): (2 : Int) ^ q % 4294967296=mk (one q):=by
 rw[←zpk q hq];have:(2:Nat) ^ q<2 ^ 16:=Nat.pow_lt_pow_right (by decide) hq
 have e:((2 ^ q:Nat):Int)=(2:Int) ^ q:=by simp
 rw[←e];clear e;generalize (2:Nat) ^ q=z at this ⊢;have:z<65536:=by simpa using this
 omega
theorem znd (T : Nat→Bool)(q : Nat)(hq : q<16): (bits .and .u32 (mk T) (mk (one q))==0) = !T q:=by
 rw[Bool.eq_iff_iff,beq_iff_eq,zvg T q hq];simp
theorem ztm (T : Nat→Bool)(q : Nat)(hq : q<16): (bits .and .u32 (mk T) (mk (one q)) != 0)=T q:=by
 unfold bne;rw[znd T q hq];simp
theorem zoh (f : Fn)(v1 v2 : Value)(w : World){F F' : Nat→Prop}(h1 : Sl F w v1 f.locals)(h2 : Sl F' w v2 f.blocks)(hok : fnErr f=0){q b i : Nat}{x : Bk}(hp : PtAt f q b i x)(S : Nat→Bool):
  Calls Tryz.prog 93 #[f.v v1 v2,.int .i64 (q:Nat),.int .u32 (mk S)] w (RetP w fun v w'=>∃ bd:Int,v = .int .i64 bd∧(0≤bd↔zh0 (coF f q) S=true)):=by
 obtain⟨a,n,cap,rfl,Hn,hm,hcap,hcm,h1⟩:=h1.open;obtain⟨a2,n2,cap2,rfl,Hn2,hm2,hcap2,hcm2,h2⟩:=h2.open;have Hok:=Lib.hid hok;have hcok:=za5 hok hp.lt;have h8:=zf7 hcok;have h16:=(zt hok).2.2;have Ho:Hid (∀ o∈opsC (coF f q),0≤o.pl.loc∧o.pl.loc<16):=Lib.hid fun o ho=>by have:=hcok.ops o ho;omega
 have Hr:Hid (∀ r∈rdsC (coF f q),0≤r∧r<16):=Lib.hid fun r hr=>by have:=zp4 (zcc hok).2.1 hcok r hr;omega
 have hr2:(rdsC (coF f q)).length≤2:=by
  cases coF f q with
  |st s =>
   show (if s.kind=1 then (if s.r.kind=4∨s.r.kind=5 then [s.r.pl.loc] else [])++(if whole s.pl=true then [] else [s.pl.loc]) else []).length≤2;split
   ·rw[List.length_append];have e1:(if s.r.kind=4∨s.r.kind=5 then [s.r.pl.loc] else []).length≤1:=by split<;>simp
    have e2:(if whole s.pl=true then [] else [s.pl.loc]).length≤1:=by split<;>simp
    omega
   ·simp
  |ju j =>
   show (if j.kind=4 then (if whole j.dest=true then [] else [j.dest.loc]) else if j.kind=3 then [0] else []).length≤2;split
   ·split<;>simp
   ·split<;>simp
 clear hok hcok h16;have Ht:=Lib.hid fun (w':World) (k1:Sl F w' (.slice a n cap) f.locals) (k2:Sl F' w' (.slice a2 n2 cap2) f.blocks)=>zdq f _ _ w' k1 k2 Hok.out hp;have Hrd:=Lib.hid fun (w':World) (k1:Sl F w' (.slice a n cap) f.locals) (k2:Sl F' w' (.slice a2 n2 cap2) f.blocks)=>zrv f _ _ w' k1 k2 Hok.out hp;have Hf:Hid (zh0 (coF f q) S=(opF S (opsC (coF f q))||(rdsC (coF f q)).any fun r=>!mvM S (opsC (coF f q)) r.toNat)):=Lib.hid rfl;rw[Hf.out];clear Hf;generalize (opsC (coF f q))=l at Ht Hrd h8 Ho ⊢;generalize (rdsC (coF f q))=rl at Hrd hr2 Hr ⊢;have hrol:=ztg l;go_enter Tryz.func93,Tryz.ntmps93
 go_wp2_with (first|(go_at_call 136;((with_reducible refine armS (Ht.out _ h1.m h2.m) ?_);intro a3 n3 cap3 x3 Hn3 hm3 hcap3 hcm3 hs3)));have hn3:n3≤8:=by rw[Hn3.out];exact h8
 have hmk0:(0:Int)=mk (fun _=>false):=zjv;go_loopw [7,9] (fun m ti wr=>∃ (k:Nat) (Mv:Nat→Bool),k≤n3∧ti = .int .i64 k∧m = .int .u32 (mk Mv)∧Hid (∀ i,mvM S (l.take k) i=(S i&&!Mv i))∧Hid (opF S (l.take k)=false)∧Grow (ext (w.alloc (bxFn f (.slice a n cap) (.slice a2 n2 cap2))) x3) wr) (fun _ ti _=>n3 - (intOf ti).toNat)
 case atStart=>exact⟨0,fun _=>false,Nat.zero_le _,rfl,by rw[←hmk0],Lib.hid (by simp[mvM]),Lib.hid rfl,gw⟩
 case round =>
  obtain⟨k,Mv,hk,rfl,rfl,HM,HF,hb1⟩:=hrel;obtain⟨y1,rfl⟩:=za hb1;clear hmk0;by_cases hlt:k<n3
  ·obtain⟨b_o,off_o,o,rfl,⟨Hg_o,hl_o,hw_o,c_o0,c_o1,c_o2,c_o3,c_o4,r_o0,r_o1⟩⟩:=hs3.opd k hlt;have HFs:=Lib.hid (zys S Hg_o);have HMs:=Lib.hid (zyt S Hg_o);have hol:=Ho.out o (List.mem_of_getElem? Hg_o.out);obtain⟨kd,nn,⟨loc,de,fi⟩⟩:=o;obtain⟨p,rfl⟩:=Int.eq_ofNat_of_zero_le hol.1;have hp16:p<16:=by have:=hol.2;simp only at this;omega
   have hsh:=zf9 p hp16;have h0:=znd S p hp16;have h01:=ztm Mv p hp16;have hset:∀ U,bits .or .u32 (mk U) (mk (one p))=mk (up U p true):=fun U=>zlk U p;cases hk1:(kd==1)
   ·have hne:kd≠1:=by simpa using hk1
    have Hflt:Hid (opF S (l.take (k+1))=(!S p||Mv p)):=Lib.hid (by rw[HFs.out,HF.out,HM.out];simp[hne]);clear hne;cases hS:S p
    ·rw[hS] at h0;have Hx:Hid (opF S l=true):=Lib.hid (zqe (k:=k+1) (by rw[Hflt.out,hS];rfl));clear hS;go_wp2_with fail;refine zd (by simp only[results,Tryz.results93];go_simp<;>rfl) rfl gw ⟨_,rfl,?_⟩;rw[Hx.out];simp
    ·rw[hS] at h0;cases hM:Mv p
     ·rw[hM] at h01;have Hx:Hid (opF S (l.take (k+1))=false):=Lib.hid (by rw[Hflt.out,hS,hM];rfl);cases hk3:(kd==3)
      ·have HM2:Hid (∀ i,mvM S (l.take (k+1)) i=(S i&&!Mv i)):=Lib.hid fun i=>by
        rw[HMs.out];unfold mv1;rw[if_neg (by simpa using hk3)];exact HM.out i
       clear hS hM;go_wp2_with fail;go_roundw
       case rel=>exact⟨k+1,Mv,by omega,by go_num,rfl,HM2,Hx,gw⟩
       case measure=>exact me
      ·have HM2:Hid (∀ i,mvM S (l.take (k+1)) i=(S i&&!up Mv p true i)):=Lib.hid fun i=>by
        rw[HMs.out];unfold mv1;rw[if_pos (by simpa using hk3)];simp only[Int.toNat_natCast];unfold up;by_cases e:i=p
        ·rw[if_pos e,if_pos e];simp
        ·rw[if_neg e,if_neg e];exact HM.out i
       clear hS hM;go_wp2_with fail;go_roundw
       case rel=>exact⟨k+1,up Mv p true,by omega,by go_num,rfl,HM2,Hx,gw⟩
       case measure=>exact me
     ·rw[hM] at h01;have Hx:Hid (opF S l=true):=Lib.hid (zqe (k:=k+1) (by rw[Hflt.out,hS,hM];rfl));clear hS hM;go_wp2_with fail;refine zd (by simp only[results,Tryz.results93];go_simp<;>rfl) rfl gw ⟨_,rfl,?_⟩;rw[Hx.out];simp
   ·have he:kd=1:=by simpa using hk1
    have Hx:Hid (opF S (l.take (k+1))=false):=Lib.hid (by rw[HFs.out,HF.out];simp[he]);have HM2:Hid (∀ i,mvM S (l.take (k+1)) i=(S i&&!Mv i)):=Lib.hid fun i=>by
     rw[HMs.out];unfold mv1;rw[if_neg (by simp only;omega)];exact HM.out i
    clear he;go_wp2_with fail;go_roundw
    case rel=>exact⟨k+1,Mv,by omega,by go_num,rfl,HM2,Hx,gw⟩
    case measure=>exact me
  ·have e:l.take k=l:=List.take_of_length_le (by have:=Hn3.out;omega);rw[e] at HM HF;clear e;go_wp2_with (first|(go_at_call 137;((with_reducible refine armS (Hrd.out _ h1.m h2.m) ?_);intro a5 n5 cap5 x5 Hn5 hm5 hcap5 hcm5 hs5)));have hn5:n5≤10:=by rw[Hn5.out,List.length_append];omega
   obtain⟨pl,Hpl⟩:∃ pl:Nat,Hid ((rdO l).length=pl):=⟨_,Lib.hid rfl⟩
   have hpl8:pl≤8:=by rw[←Hpl.out];omega
   go_loopw [12] (fun ti wr=>∃ k2:Nat,k2≤n5∧ti = .int .i64 k2∧Hid (∀ j r,pl≤j→j<k2→(rdO l++rl)[j]?=some r→mvM S l r.toNat=true)∧Grow (ext (ext (ext (w.alloc (bxFn f (.slice a n cap) (.slice a2 n2 cap2))) x3) y1) x5) wr) (fun ti _=>n5 - (intOf ti).toNat)
   case atStart=>exact⟨0,Nat.zero_le _,rfl,Lib.hid (fun j r h1 h2=>absurd h2 (Nat.not_lt_zero _)),gw⟩
   case round =>
    obtain⟨k2,hk2,rfl,HA,hb2⟩:=hrel;obtain⟨y2,rfl⟩:=za hb2;by_cases hlt5:k2<n5
    ·obtain⟨g5,o5,r,rfl,⟨Hrr,hrl5,hrw5,hcr5⟩⟩:=hs5.int k2 hlt5;have hrb:0≤r∧r<16:=by
      have hm:=List.mem_of_getElem? Hrr.out;rcases List.mem_append.1 hm with hm|hm
      ·unfold rdO at hm;obtain⟨o,ho,hr⟩:=List.mem_flatMap.1 hm;unfold rdO1 at hr;split at hr
       ·cases hr
       ·rw[List.mem_singleton] at hr;subst hr;exact Ho.out o ho
      ·exact Hr.out r hm
     obtain⟨p,rfl⟩:=Int.eq_ofNat_of_zero_le hrb.1;have hp16:p<16:=by have:=hrb.2;omega
     have hsh:=zf9 p hp16;have h0:=znd S p hp16;have h01:=ztm Mv p hp16;have Hpc:Hid (∀ w',Sl (fun _=>True) w' (.slice a3 n3 cap3) l→Calls Tryz.prog 138 #[.slice a3 n3 cap3] w' (Ret w' (.int .i64 (pl:Nat)))):=Lib.hid fun w' k1=>by
      have:=zp7 l _ w' k1 om
      rw[zv4,Hpl.out] at this;exact this
     by_cases hfi:k2<pl
     ·have HA2:Hid (∀ j r,pl≤j→j<k2+1→(rdO l++rl)[j]?=some r→mvM S l r.toNat=true):=Lib.hid fun j r h1 h2 h3=>by omega
      go_wp2_with (first|(go_at_call 138;((with_reducible refine armV (Hpc.out _ (hs3.mono gw)) ?_);intro x6)));go_roundw
      case rel=>exact⟨k2+1,by omega,by go_num,HA2,gw⟩
      case measure=>exact me
     ·have Hin:Hid ((p:Int)∈rl):=Lib.hid (by
       have e:=Hrr.out;rw[List.getElem?_append_right (by rw[Hpl.out];omega)] at e;exact List.mem_of_getElem? e)
      cases hS:S p
      ·rw[hS] at h0;have Hx:Hid ((rl.any fun r=>!mvM S l r.toNat)=true):=Lib.hid (List.any_eq_true.2 ⟨p,Hin.out,by rw[HM.out];simp[hS]⟩);clear hS;go_wp2_with (first|(go_at_call 138;((with_reducible refine armV (Hpc.out _ (hs3.mono gw)) ?_);intro x6)));refine zd (by simp only[results,Tryz.results93];go_simp<;>rfl) rfl gw ⟨_,rfl,?_⟩;rw[Hx.out];simp
      ·rw[hS] at h0;cases hM:Mv p
       ·rw[hM] at h01;have HA2:Hid (∀ j r,pl≤j→j<k2+1→(rdO l++rl)[j]?=some r→mvM S l r.toNat=true):=Lib.hid fun j r h1 h2 h3=>by
         by_cases e:j=k2
         ·subst e;have e2:=Hrr.out;rw[h3] at e2;injection e2 with e2;subst e2;rw[HM.out];simp[hS,hM]
         ·exact HA.out j r h1 om h3
        clear hS hM;go_wp2_with (first|(go_at_call 138;((with_reducible refine armV (Hpc.out _ (hs3.mono gw)) ?_);intro x6)));go_roundw
        case rel=>exact⟨k2+1,by omega,by go_num,HA2,gw⟩
        case measure=>exact me
       ·rw[hM] at h01;have Hx:Hid ((rl.any fun r=>!mvM S l r.toNat)=true):=Lib.hid (List.any_eq_true.2 ⟨p,Hin.out,by rw[HM.out];simp[hM]⟩);clear hS hM;go_wp2_with (first|(go_at_call 138;((with_reducible refine armV (Hpc.out _ (hs3.mono gw)) ?_);intro x6)));refine zd (by simp only[results,Tryz.results93];go_simp<;>rfl) rfl gw ⟨_,rfl,?_⟩;rw[Hx.out];simp
    ·have Hx:Hid ((rl.any fun r=>!mvM S l r.toNat)=false):=Lib.hid (List.any_eq_false.2 fun r hr=>by
      obtain⟨j,hj,rfl⟩:=List.getElem_of_mem hr;have hlen:=Hn5.out;rw[List.length_append,Hpl.out] at hlen;have:=HA.out (pl+j) rl[j] om om (by rw[List.getElem?_append_right (by rw[Hpl.out];omega),Hpl.out,Nat.add_sub_cancel_left,List.getElem?_eq_getElem hj])
      rw[this];simp)
     go_wp2_with fail;refine zd (by simp only[results,Tryz.results93];go_simp<;>rfl) rfl gw ⟨_,rfl,?_⟩;rw[Hx.out,HF.out];simp
theorem mk_lt (S : Nat→Bool): 0≤mk S∧mk S<65536:=by
 unfold mk;have:=zlj 16 S
 have e:(2:Nat) ^ 16=65536:=by decide
 rw[e] at this;omega
theorem z01 (S : Nat→Bool)(q : Nat)(hq : q<16)(h : S q=false): (mk S+mk (one q)) % 4294967296=mk (up S q true):=by
 rw[←zpk q hq,z1x S q hq h];have:=mk_lt (up S q true)
 omega
noncomputable def setK (f : Fn)(k : Nat)(q i : Nat): Bool:=decide (i<k)&&!unB f i q
theorem zy0 (f : Fn): setK f f.locals.length=setM f:=rfl
theorem zr5 (f : Fn)(v1 v2 : Value)(w : World){F F' : Nat→Prop}(h1 : Sl F w v1 f.locals)(h2 : Sl F' w v2 f.blocks)(hok : fnErr f=0):
  Calls Tryz.prog 135 #[f.v v1 v2] w (RetP w fun v w'=>Sl (Fresh w) w' v (mL (zb f) (setM f))):=by
 obtain⟨a,n,cap,rfl,Hn,hm,hcap,hcm,h1⟩:=h1.open;obtain⟨a2,n2,cap2,rfl,Hn2,hm2,hcap2,hcm2,h2⟩:=h2.open;have Hok:=Lib.hid hok;have hN1:=zah hok;have hN6:=zp hok;have hn16:n≤16:=by rw[Hn.out];exact(zt hok).2.2
 clear hok;have Hsz:=Lib.hid fun (w':World) (k1:Sl F w' (.slice a n cap) f.locals) (k2:Sl F' w' (.slice a2 n2 cap2) f.blocks)=>zcp f _ _ w' k1 k2 Hok.out;have Hus:Hid (∀ (t:Nat) w',Sl F w' (.slice a n cap) f.locals→Sl F' w' (.slice a2 n2 cap2) f.blocks→Calls Tryz.prog 179 #[f.v (.slice a n cap) (.slice a2 n2 cap2),.int .i64 (t:Nat)] w' (RetP w' fun v w''=>Sl (Fresh w') w'' v (bL (zb f) (unB f t)))):=Lib.hid fun t w' k1 k2=>zrw f _ _ w' k1 k2 Hok.out t;generalize (zb f)=N at Hsz Hus hN1 hN6 ⊢;go_enter Tryz.func135,Tryz.ntmps135
 go_wp2_with (first|(go_at_call 61;((with_reducible refine armV (Hsz.out _ h1.m h2.m) ?_);intro x3))|(at_make;refine zes (bytes:=4) rfl rfl Tryz.underlying127 (by kernel_rfl) rfl rfl om om ?_));go_loopw [4] (fun ti wr=>∃ (k:Nat) (M:Nat→Nat→Bool),k≤n∧ti = .int .i64 k∧Hid (∀ q i,q<N→M q i=setK f k q i)∧Grow ((ext (w.alloc (bxFn f (.slice a n cap) (.slice a2 n2 cap2))) x3).alloc (.cells (mA N M) 131)) wr) (fun ti _=>n - (intOf ti).toNat)
 case atStart=>exact⟨0,fun _ _=>false,Nat.zero_le _,rfl,Lib.hid (fun q i _=>by simp[setK]),gw⟩
 case round =>
  obtain⟨k,M,hk,rfl,HM,hgr⟩:=hrel;obtain⟨y,rfl⟩:=za hgr;by_cases hlt:k<n
  ·go_wp2_with (first|(go_at_call 179;((with_reducible refine armS (Hus.out k _ h1.m h2.m) ?_);intro a4 n4 cap4 x4 Hn4 hm4 hcap4 hcm4 hs4)));obtain rfl:N=n4:=by rw[Hn4.out,zdz]
   obtain⟨z,hz⟩:=za (show Grow ((ext (w.alloc (bxFn f (.slice a n cap) (.slice a2 n2 cap2))) x3).alloc (.cells (mA N M) 131)) (ext (ext ((ext (w.alloc (bxFn f (.slice a n cap) (.slice a2 n2 cap2))) x3).alloc (.cells (mA N M) 131)) y) x4) from gw);rw[hz] at hs4 ⊢;clear hz;have Hall:Hid (∀ M' : Nat→Nat→Bool,Sl (fun k=>(ext (w.alloc (bxFn f (.slice a n cap) (.slice a2 n2 cap2))) x3).heap.size<k) (ext ((ext (w.alloc (bxFn f (.slice a n cap) (.slice a2 n2 cap2))) x3).alloc (.cells (mA N M') 131)) z) (.slice a4 N cap4) (bL N (unB f k))):=Lib.hid fun M'=>(hs4.wide (F':=fun k=>(ext (w.alloc (bxFn f (.slice a n cap) (.slice a2 n2 cap2))) x3).heap.size<k) (by intro k _ hF;rcases hF with hF|hF;exact hF.elim;simp at hF ⊢;omega)).swap0 om;obtain⟨g4,o4,rfl,_⟩:=(Hall.out M).addr om;have hk16:k<16:=om;have hsh:=zf9 k hk16;clear hs4;go_loopw [6] (fun ti wr=>∃ (j:Nat) (M' : Nat→Nat→Bool),j≤N∧ti = .int .i64 j∧Hid (∀ q i,q<N→M' q i=if q<j then setK f (k+1) q i else setK f k q i)∧wr=ext ((ext (w.alloc (bxFn f (.slice a n cap) (.slice a2 n2 cap2))) x3).alloc (.cells (mA N M') 131)) z) (fun ti _=>N - (intOf ti).toNat)
   case atStart=>exact⟨0,M,Nat.zero_le _,rfl,Lib.hid (fun q i hq=>by rw[if_neg (Nat.not_lt_zero _)];exact HM.out q i hq),rfl⟩
   case round =>
    obtain⟨j,M',hj,rfl,HM',rfl⟩:=hrel;by_cases hltj:j<N
    ·have hcn:=(Hall.out M').boolAt (zep (unB f k) hltj);have Hs1:Hid (∀ i,setK f (k+1) j i=if i=k then !unB f k j else setK f k j i):=Lib.hid fun i=>by
      unfold setK;by_cases e:i=k
      ·subst e;simp
      ·rw[if_neg e];congr 1;apply decide_eq_decide.2;omega
     obtain⟨nb,Hnb⟩:∃ nb,Hid (unB f k j=nb):=⟨_,Lib.hid rfl⟩
     rw[Hnb.out] at hcn Hs1;have Hk0:Hid (setK f k j k=false):=Lib.hid (by unfold setK;simp);have hgj:∀ M,(mA N M)[j]?=some (.int .u32 (mk (M j))):=fun M=>zd2 N M j hltj;have hsj:∀ M T,(mA N M).setIfInBounds j (.int .u32 (mk T))=mA N (up M j T):=fun M T=>zh5 N M j T hltj;cases nb
     ·have hM0:M' j k=false:=by rw[HM'.out _ _ hltj,if_neg (Nat.lt_irrefl _)];exact Hk0.out
      have hadd:=z01 (M' j) k hk16 hM0;have HMn:Hid (∀ q i,q<N→up M' j (up (M' j) k true) q i=if q<j+1 then setK f (k+1) q i else setK f k q i):=Lib.hid fun q i hq=>by
       unfold up;by_cases e:q=j
       ·subst e;rw[if_pos rfl,if_pos (Nat.lt_succ_self _),Hs1.out];by_cases e2:i=k
        ·rw[if_pos e2,if_pos e2];rfl
        ·rw[if_neg e2,if_neg e2,HM'.out _ _ hq,if_neg (Nat.lt_irrefl _)]
       ·rw[if_neg e,HM'.out _ _ hq];by_cases e3:q<j
        ·rw[if_pos e3,if_pos om]
        ·rw[if_neg e3,if_neg om]
      clear hM0;go_wp2_with fail;go_roundw
      case rel=>exact⟨j+1,_,by omega,by go_num,HMn,rfl⟩
      case measure=>exact me
     ·have HMn:Hid (∀ q i,q<N→M' q i=if q<j+1 then setK f (k+1) q i else setK f k q i):=Lib.hid fun q i hq=>by
       rw[HM'.out _ _ hq];by_cases e:q=j
       ·subst e;rw[if_neg (Nat.lt_irrefl _),if_pos (Nat.lt_succ_self _),Hs1.out];by_cases e2:i=k
        ·subst e2;rw[if_pos rfl,Hk0.out];rfl
        ·rw[if_neg e2]
       ·by_cases e3:q<j
        ·rw[if_pos e3,if_pos om]
        ·rw[if_neg e3,if_neg om]
      go_wp2_with fail;go_roundw
      case rel=>exact⟨j+1,M',by omega,by go_num,HMn,rfl⟩
      case measure=>exact me
    ·have HMn:Hid (∀ q i,q<N→M' q i=setK f (k+1) q i):=Lib.hid fun q i hq=>by rw[HM'.out _ _ hq,if_pos om]
     go_wp2_with fail;go_roundw
     case rel=>exact⟨k+1,M',by omega,by go_num,HMn,gw⟩
     case measure=>exact me
  ·have He:Hid (mL N M=mL N (setM f)):=Lib.hid (List.map_congr_left fun q hq=>by
    have:M q=setM f q:=by funext i;rw[HM.out q i (List.mem_range.1 hq),show k=n by omega,Hn.out,zy0]
    rw[this])
   go_wp2_with fail;refine zd (by simp only[results,Tryz.results135];go_simp<;>rfl) rfl gw ?_;rw[←He.out];have hh:=zcf (ext (w.alloc (bxFn f (.slice a n cap) (.slice a2 n2 cap2))) x3) (.cells (mA N M) 131) y;rw[show (ext (w.alloc (bxFn f (.slice a n cap) (.slice a2 n2 cap2))) x3).heap.size=w.heap.size+1+x3.k from by simp] at hh;exact Sl.masks hh (Or.inr om) om
theorem zwq (f : Fn)(v1 v2 : Value)(w : World){F F' : Nat→Prop}(hf : f.wf)(h1 : Sl F w v1 f.locals)(h2 : Sl F' w v2 f.blocks)(hok : fnErr f=0):
  Calls Tryz.prog 92 #[f.v v1 v2] w (RetP w fun v w'=>∃ u,v = .tuple #[u,.int .i64 0]∧Sl (Fresh w) w' u (mL (zb f) (setM f))):=by
 obtain⟨a,n,cap,rfl,Hn,hm,hcap,hcm,h1⟩:=h1.open;obtain⟨a2,n2,cap2,rfl,Hn2,hm2,hcap2,hcm2,h2⟩:=h2.open;have Hok:=Lib.hid hok;have hok' : (fnErr f != 0)=false:=by simp[hok]
 clear hok;go_enter Tryz.func92,Tryz.ntmps92
 go_wp2_with (first|(go_at_call 26;((with_reducible refine armV (zfe f _ _ _ hf h1.m h2.m) ?_);intro x1))|(go_at_call 135;((with_reducible refine armS (zr5 f _ _ _ h1.m h2.m Hok.out) ?_);intro a2 n2 cap2 x2 Hn2 hm2 hcap2 hcm2 hs2)));refine zd (by simp only[results,Tryz.results92];go_simp<;>rfl) rfl gw ⟨_,rfl,?_⟩;exact hs2.wide (fun b hb hF=>by rcases hF with hF|hF;exact hF.elim;exact Or.inr (by first|omega|(simp at hF;omega)))
theorem zkn (f : Fn): za9 f=44↔∃ q,q<zb f∧zdp f q=true:=by
 unfold za9;by_cases h:(List.range (zb f)).any (zdp f)=true
 ·rw[if_pos h];obtain⟨q,hq,hf⟩:=List.any_eq_true.1 h;exact⟨fun _=>⟨q,List.mem_range.1 hq,hf⟩,fun _=>rfl⟩
 ·rw[if_neg h];exact⟨fun h=>(by cases h),fun ⟨q,hq,hf⟩=>absurd (List.any_eq_true.2 ⟨q,List.mem_range.2 hq,hf⟩) h⟩
theorem zfs (f : Fn): za9 f=44∨za9 f=0:=by unfold za9;split;exact Or.inl rfl;exact Or.inr rfl
noncomputable def zbp (f : Fn): Int:=if za9 f=44 then 0 else 6
theorem zr6 (f : Fn)(v1 v2 : Value)(w : World){F F' : Nat→Prop}(hf : f.wf)(h1 : Sl F w v1 f.locals)(h2 : Sl F' w v2 f.blocks)(hok : fnErr f=0):
  Calls Tryz.prog 58 #[f.v v1 v2] w (RetP w fun v w'=>∃ x y,v = .tuple #[x,y,.int .i64 (zbp f)]):=by
 obtain⟨a,n,cap,rfl,Hn,hm,hcap,hcm,h1⟩:=h1.open;obtain⟨a2,n2,cap2,rfl,Hn2,hm2,hcap2,hcm2,h2⟩:=h2.open;have Hok:=Lib.hid hok;have hN1:=zah hok;have hN6:=zp hok;clear hok;have Hpt:Hid (∀ q,q<zb f→∃ b i x,PtAt f q b i x):=Lib.hid fun q h=>PtAt.of h;have Hse:=Lib.hid fun (w':World) (k1:Sl F w' (.slice a n cap) f.locals) (k2:Sl F' w' (.slice a2 n2 cap2) f.blocks)=>zwq f _ _ w' hf k1 k2 Hok.out;have Hie:=Lib.hid (zkn f);have Hic:=Lib.hid (zfs f);generalize (zb f)=N at Hse Hpt Hie hN1 hN6;go_enter Tryz.func58,Tryz.ntmps58
 go_wp2_with (first|((go_at_call 92;((with_reducible refine armT (Hse.out _ h1.m h2.m) ?_);intro a3 n3 cap3 x3 Hn3 hm3 hcap3 hcm3 hs3));obtain rfl:N=n3:=by rw[Hn3.out,zgl]));obtain⟨g3,o3,rfl,hgl3⟩:=hs3.addr om;go_loopw [7] (fun ti wr=>∃ k:Nat,k≤N∧ti = .int .i64 k∧Hid (∀ q,q<k→zdp f q=false)∧Grow (ext (w.alloc (bxFn f (.slice a n cap) (.slice a2 n2 cap2))) x3) wr) (fun ti _=>N - (intOf ti).toNat)
 case atStart=>exact⟨0,Nat.zero_le _,rfl,Lib.hid (fun q h=>absurd h (Nat.not_lt_zero _)),gw⟩
 case round =>
  obtain⟨k,hk,rfl,HF,hgr⟩:=hrel;obtain⟨y,rfl⟩:=za hgr;by_cases hlt:k<N
  ·obtain⟨pb,pi,px,hp⟩:=Hpt.out k hlt;have hcm:=hs3.mkAt (zjb (setM f) hlt);have hcm' : (ext (w.alloc (bxFn f (.slice a n cap) (.slice a2 n2 cap2))) x3).cell? ⟨g3,o3+k,none⟩=some (.int .u32 (mk (setM f k))):=hcm;clear hcm;obtain⟨fa,Hfa⟩:∃ fa,Hid (zdp f k=fa):=⟨_,Lib.hid rfl⟩
   have Hfc:Hid (zh0 (coF f k) (setM f k)=fa):=Lib.hid Hfa.out;cases fa
   ·have HF2:Hid (∀ q,q<k+1→zdp f q=false):=Lib.hid fun q hq=>by
     by_cases e:q=k
     ·subst e;exact Hfa.out
     ·exact HF.out q om
    go_wp2_with fail
    ((refine zv 8 7 (by kernel_rfl) (by rfl) (by decide) ?_);(iterate 7 (all_goals (first|((first|refine Tq 0 ?_|refine Tq 1 ?_|refine Tq 2 ?_|refine Tq 3 ?_|refine Tq 4 ?_|refine Tq 5 ?_|refine Tq 6 ?_);(first|go_big_quiet_step (fail)|(refine wpQuiet_step (fun K hK=>?_);go_simp;split<;>(refine hK _ ?_;clear hK K)));refine wpQuiet_nil ?_)|((first|refine Tf 0 ?_|refine Tf 1 ?_|refine Tf 2 ?_|refine Tf 3 ?_|refine Tf 4 ?_|refine Tf 5 ?_|refine Tf 6 ?_);intro xg K hK;go_wp2_with ((go_at_call 93;((with_reducible refine(zoh f _ _ _ h1.m h2.m Hok.out hp (setM f k)).mono ?_);rintro e w5 ⟨v5,rfl,⟨bd,rfl,hbd⟩,hb5⟩;obtain⟨x5,rfl⟩:=za hb5;clear hb5;(have hd5:decide (0≤bd)=false:=by rw[Hfc.out] at hbd;simpa using hbd);clear hbd)));refine hK _ _ gw ?_;clear hK K))));all_goals (refine zap (by decide +kernel) ?_;intro xR K hK;simp only[List.drop_succ_cons,List.drop_zero];go_wp2_with (fail);refine hK _ _ ?_;clear hK K))
    go_wp2_with fail;go_roundw
    case rel=>exact⟨k+1,by omega,by go_num,HF2,gw⟩
    case measure=>exact me
   ·have H0:Hid (zbp f=0):=Lib.hid (by unfold zbp;rw[if_pos (Hie.out.2 ⟨k,hlt,Hfa.out⟩)]);go_wp2_with fail
    ((refine zv 8 7 (by kernel_rfl) (by rfl) (by decide) ?_);(iterate 7 (all_goals (first|((first|refine Tq 0 ?_|refine Tq 1 ?_|refine Tq 2 ?_|refine Tq 3 ?_|refine Tq 4 ?_|refine Tq 5 ?_|refine Tq 6 ?_);(first|go_big_quiet_step (fail)|(refine wpQuiet_step (fun K hK=>?_);go_simp;split<;>(refine hK _ ?_;clear hK K)));refine wpQuiet_nil ?_)|((first|refine Tf 0 ?_|refine Tf 1 ?_|refine Tf 2 ?_|refine Tf 3 ?_|refine Tf 4 ?_|refine Tf 5 ?_|refine Tf 6 ?_);intro xg K hK;go_wp2_with ((go_at_call 93;((with_reducible refine(zoh f _ _ _ h1.m h2.m Hok.out hp (setM f k)).mono ?_);rintro e w5 ⟨v5,rfl,⟨bd,rfl,hbd⟩,hb5⟩;obtain⟨x5,rfl⟩:=za hb5;clear hb5;(have hd5:decide (0≤bd)=true:=by rw[Hfc.out] at hbd;simpa using hbd);clear hbd)));refine hK _ _ gw ?_;clear hK K))));all_goals (refine zap (by decide +kernel) ?_;intro xR K hK;simp only[List.drop_succ_cons,List.drop_zero];go_wp2_with (fail);refine hK _ _ ?_;clear hK K))
    go_wp2_with fail;refine zd (by simp only[results,Tryz.results58];go_simp<;>rfl) rfl gw ?_;rw[H0.out];exact⟨_,_,rfl⟩
  ·have H0:Hid (zbp f=6):=Lib.hid (by
    unfold zbp;rw[if_neg];intro h44;obtain⟨q,hq,hfq⟩:=Hie.out.1 h44;rw[HF.out q om] at hfq;cases hfq)
   go_wp2_with fail;refine zd (by simp only[results,Tryz.results58];go_simp<;>rfl) rfl gw ?_;rw[H0.out];exact⟨_,_,rfl⟩
theorem zko (f : Fn)(v1 v2 : Value)(w : World){F F' : Nat→Prop}(hf : f.wf)(h1 : Sl F w v1 f.locals)(h2 : Sl F' w v2 f.blocks)(hok : fnErr f=0):
  Calls Tryz.prog 30 #[f.v v1 v2] w (Ret w (.int .i64 (za9 f))):=by
 obtain⟨a,n,cap,rfl,Hn,hm,hcap,hcm,h1⟩:=h1.open;obtain⟨a2,n2,cap2,rfl,Hn2,hm2,hcap2,hcm2,h2⟩:=h2.open;have Hok:=Lib.hid hok;clear hok;have Hfi:=Lib.hid fun (w':World) (k1:Sl F w' (.slice a n cap) f.locals) (k2:Sl F' w' (.slice a2 n2 cap2) f.blocks)=>zr6 f _ _ w' hf k1 k2 Hok.out;rcases zfs f with h|h
 ·have e:zbp f=0:=by unfold zbp;rw[if_pos h]
  rw[e] at Hfi;rw[h];clear h e;go_enter Tryz.func30,Tryz.ntmps30
  go_wp2_with (first|(go_at_call 58;((with_reducible refine(Hfi.out _ h1.m h2.m).mono ?_);rintro e w5 ⟨v5,rfl,⟨x,y,rfl⟩,hb5⟩;obtain⟨x5,rfl⟩:=za hb5;clear hb5)));go_ret
  exact Ret.mk rfl gw
 ·have e:zbp f=6:=by unfold zbp;rw[h,if_neg (by decide)]
  rw[e] at Hfi;rw[h];clear h e;go_enter Tryz.func30,Tryz.ntmps30
  go_wp2_with (first|(go_at_call 58;((with_reducible refine(Hfi.out _ h1.m h2.m).mono ?_);rintro e w5 ⟨v5,rfl,⟨x,y,rfl⟩,hb5⟩;obtain⟨x5,rfl⟩:=za hb5;clear hb5)));go_ret
  exact Ret.mk rfl gw
end Go.Proofs.YtacmoaeglbggjaaGreat
