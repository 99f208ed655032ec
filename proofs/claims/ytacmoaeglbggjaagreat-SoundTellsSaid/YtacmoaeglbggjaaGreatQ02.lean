/- A part of the proof. -/
import Derived.Test.YtacmoaeglbggjaaGreatQ01
namespace Go.Proofs.YtacmoaeglbggjaaGreat
open Go.RowKit
set_option linter.unusedSimpArgs false
set_option linter.unusedVariables false
set_option maxRecDepth 100000
set_option maxHeartbeats 16000000
abbrev TyOk (t : Ty): Prop:=((t.kind=1∨t.kind=2)∧t.to=0)∨((3≤t.kind∧t.kind≤5)∧(t.to=1∨t.to=2))
def tyErr (t : Ty): Int:=if TyOk t then 0 else 8
abbrev PlOk (p : Pl): Prop:=0≤p.loc∧p.loc<16∧p.field≤2
def plErr (p : Pl): Int:=if PlOk p then 0 else 8
def LocOk (ts : List Ty): Bool:=decide (1≤ts.length)&&decide (ts.length≤16)&&ts.all (fun t=>decide (TyOk t))
theorem zbs (t : Ty): tyErr t=0↔TyOk t:=by unfold tyErr;split<;>simp_all
theorem za8 (t : Pl): plErr t=0↔PlOk t:=by unfold plErr;split<;>simp_all [PlOk]
theorem zk3 (t : Ty): tyErr t=0∨tyErr t=8:=by unfold tyErr;split<;>simp
theorem zcr (t : Pl): plErr t=0∨plErr t=8:=by unfold plErr;split<;>simp
theorem zab {α : Type}{p : α→Bool}{xs : List α}{k : Nat}{x : α}(hg : Hid (xs[k]?=some x))(h : (xs.take k).all p=true)(hx : p x=true): (xs.take (k+1)).all p=true:=by
 rw[List.take_add_one,hg.out];simp only[Option.toList_some,List.all_append,h,List.all_cons,hx,List.all_nil,Bool.and_self]
theorem za3 {α : Type}{p : α→Bool}{xs : List α}{k : Nat}{x : α}(hg : Hid (xs[k]?=some x))(hx : p x=false): xs.all p=false:=by
 rw[List.all_eq_false];exact⟨x,List.mem_of_getElem? hg.out,by simp[hx]⟩
theorem zag {α : Type}{p : α→Bool}{xs : List α}{n k : Nat}(hn : Hid (n=xs.length))(hk : n≤k)(h : (xs.take k).all p=true): xs.all p=true:=by
 rw[List.take_of_length_le (by rw[←hn.out];exact hk)] at h;exact h
theorem zcs (t : Ty)(w : World):
  Calls Tryz.prog 38 #[t.v] w (Ret w (.int .i64 (tyErr t))):=by
 obtain⟨k,t⟩:=t;go_enter Tryz.func38,Tryz.ntmps38
 go_wp2
 all_goals (go_ret;refine Ret.int ?_ gw)
 all_goals (unfold tyErr TyOk;(try simp only[beq_iff_eq,beq_eq_false_iff_ne,ne_eq] at *);first|(rw[if_pos om];done)|(rw[if_neg om];done))
theorem zb4 (p : Pl)(w : World):
  Calls Tryz.prog 104 #[p.v] w (Ret w (.int .i64 (plErr p))):=by
 obtain⟨l,d,f⟩:=p;go_enter Tryz.func104,Tryz.ntmps104
 go_wp2
 all_goals (go_ret;refine Ret.int ?_ gw)
 all_goals (unfold plErr PlOk;(try simp only[beq_iff_eq,beq_eq_false_iff_ne,ne_eq] at *);first|(rw[if_pos om];done)|(rw[if_neg om];done))
def zd9 (t : Ty): Ty×Int:=if ¬TyOk t then (⟨0,0⟩,8) else if t.to=0 then (⟨0,0⟩,6) else (⟨t.to,0⟩,0)
theorem zgd (t : Ty)(w : World):
  Calls Tryz.prog 103 #[t.v] w (Ret w (.tuple #[(zd9 t).1.v,.int .i64 (zd9 t).2])):=by
 go_enter Tryz.func103,Tryz.ntmps103
 go_wp2_with (first|(go_at_call 38;((with_reducible refine armV (zcs t _) ?_);intro x1)));all_goals ((try simp only[Exit.inBlock,Exit.then]);refine zf (by simp only[results,Tryz.results103];go_simp;rfl) rfl gw ?_)
 all_goals (have h0:=zk3 t;have h1:=zbs t;grind [zd9])
def zbt (ts : List Ty)(p : Pl): Int:=if ¬LocOk ts∨¬PlOk p then 8 else if ts.length≤p.loc then 6 else 0
theorem zgz {ts : List Ty}{n : Nat}(h : Hid (n=ts.length))(hn : n<1∨16<n): LocOk ts=false:=by
 unfold LocOk;rw[←h.out];rcases hn with hn|hn<;>simp<;>omega
theorem znp {ts : List Ty}{n : Nat}(h : Hid (n=ts.length))(h1 : ¬n<1)(h2 : ¬16<n): LocOk ts=ts.all (fun t=>decide (TyOk t)):=by
 unfold LocOk;rw[←h.out];simp;omega
theorem zd6 (v : Value)(ts : List Ty)(p : Pl)(w : World){F : Nat→Prop}(hv : Sl F w v ts):
  Calls Tryz.prog 188 #[v,p.v] w (Ret w (.int .i64 (zbt ts p))):=by
 obtain⟨a,n,cap,rfl,Hn,hm,hcap,hcm,hv⟩:=hv.open;by_cases h1:n<1
 ·go_enter Tryz.func188,Tryz.ntmps188
  go_wp2
  go_ret
  exact Ret.int (by unfold zbt;rw[zgz Hn om];simp) gw
 by_cases h2:16<n
 ·go_enter Tryz.func188,Tryz.ntmps188
  go_wp2
  go_ret
  exact Ret.int (by unfold zbt;rw[zgz Hn om];simp) gw
 have hl:=znp Hn h1 h2;have Hl:=Lib.hid hl;clear hl;go_enter Tryz.func188,Tryz.ntmps188
 go_wp2
 go_loopw [19] (fun i wr=>∃ k:Nat,k≤n∧i = .int .i64 k∧Grow (w.alloc (Obj.cells #[Value.int IntKind.i64 p.loc,Value.bool p.deref,Value.int IntKind.u8 p.field] 43)) wr∧Hid ((ts.take k).all (fun t=>decide (TyOk t))=true)) (fun i _=>n - (intOf i).toNat)
 case atStart=>exact⟨0,Nat.zero_le _,rfl,gw,by rfl⟩
 case round =>
  obtain⟨k,hk,rfl,hb1,ht⟩:=hrel
  (obtain⟨x1,rfl⟩:=za hb1;clear hb1)
  by_cases hlt:k<n
  ·obtain⟨b_x,off_x,x,rfl,⟨Hg_x,hl_x,hw_x,c_x0,c_x1,r_x0⟩⟩:=hv.ty k hlt;go_wp2_with (first|(go_at_call 38;((with_reducible refine armV (zcs x _) ?_);intro x2)))
   ·go_ret
    refine Ret.int ?_ gw;have h0:=zk3 x;have h3:=zbs x;unfold zbt;rw[Hl.out,za3 Hg_x (by grind)];grind
   ·go_roundw
    case rel=>exact⟨k+1,by omega,by go_num,gw,zab Hg_x ht (by have h3:=zbs x;grind)⟩
    case measure=>exact me
  ·have Ha:Hid (LocOk ts=true):=by rw[Hid,Hl.out];exact zag Hn om ht
   go_wp2_with (first|(go_at_call 104;((with_reducible refine armV (zb4 p _) ?_);intro x2)));all_goals go_ret
   all_goals (refine Ret.int ?_ gw)
   all_goals (have h0:=zcr p;have h3:=za8 p;have h4:=Ha.out;have h5:=Hn.out;unfold zbt;rw[←h5];grind)
def zdv (n : Int): Ty:=if n<2 then ⟨n+1,0⟩ else ⟨n / 2+2,n % 2+1⟩
theorem zib (n : Int)(w : World)(h0 : 0≤n)(h1 : n<8):
  Calls Tryz.prog 172 #[.int .i64 n] w (Ret w (zdv n).v):=by
 go_enter Tryz.func172,Tryz.ntmps172
 go_wp2
 all_goals ((try simp only[Exit.inBlock,Exit.then]);refine zf (by simp only[results,Tryz.results172];go_simp;rfl) rfl gw ?_)
 all_goals grind [zdv]
def tyNum (t : Ty): Int:=if t=⟨1,0⟩ then 0 else if t=⟨2,0⟩ then 1 else if t=⟨3,1⟩ then 2 else if t=⟨3,2⟩ then 3 else if t=⟨4,1⟩ then 4 else if t=⟨4,2⟩ then 5 else if t=⟨5,1⟩ then 6 else if t=⟨5,2⟩ then 7 else -1
theorem zt4 {k : Nat}{t : Ty}(h : k<8)(e : zdv k=t): tyNum t=k:=by
 subst e;obtain rfl|rfl|rfl|rfl|rfl|rfl|rfl|rfl:k=0∨k=1∨k=2∨k=3∨k=4∨k=5∨k=6∨k=7:=om;all_goals rfl
theorem zt5 {t : Ty}(h : ∀ j : Nat,j<8→zdv j≠t): tyNum t = -1:=by
 have h0:=h 0 om;have h1:=h 1 om;have h2:=h 2 om;have h3:=h 3 om;have h4:=h 4 om;have h5:=h 5 om;have h6:=h 6 om;have h7:=h 7 om;simp only[tyNum];rw[if_neg (fun e=>h0 e.symm),if_neg (fun e=>h1 e.symm),if_neg (fun e=>h2 e.symm),if_neg (fun e=>h3 e.symm),if_neg (fun e=>h4 e.symm),if_neg (fun e=>h5 e.symm),if_neg (fun e=>h6 e.symm),if_neg (fun e=>h7 e.symm)]
theorem zvd (t : Ty): tyNum t<0↔¬TyOk t:=by
 obtain⟨a,b⟩:=t;simp only[tyNum,TyOk,Ty.mk.injEq];constructor
 ·intro h;(repeat' split at h)<;>omega
 ·intro h;rw[if_neg om,if_neg om,if_neg om,if_neg om,if_neg om,if_neg om,if_neg om,if_neg om];omega
theorem zpg (t : Ty)(w : World):
  Calls Tryz.prog 124 #[t.v] w (Ret w (.int .i64 (tyNum t))):=by
 go_enter Tryz.func124,Tryz.ntmps124
 go_wp2
 go_loopw [3] (fun i wr=>∃ k:Nat,k≤8∧i = .int .i64 k∧Grow (w.alloc (Obj.cells #[Value.int IntKind.u8 t.kind,Value.int IntKind.u8 t.to] 56)) wr∧Hid (∀ j:Nat,j<k→zdv j≠t)) (fun i _=>8 - (intOf i).toNat)
 case atStart=>exact⟨0,Nat.zero_le _,rfl,gw,fun j hj=>by omega⟩
 case round =>
  obtain⟨k,hk,rfl,hb1,ht⟩:=hrel
  (obtain⟨x1,rfl⟩:=za hb1;clear hb1)
  by_cases hlt:k<8
  ·by_cases he1:(zdv k).kind=t.kind
   ·by_cases he2:(zdv k).to=t.to
    ·have Hs:Hid (tyNum t=k):=zt4 hlt (by cases h:zdv k;cases t;simp_all);go_wp2_with fail
     (refine zg (by kernel_rfl) (by kernel_rfl) ?_;(repeat (any_goals (first|go_big_quiet_step (first|(go_at_call 172;refine zr (zib _ _ om om)))|(refine wpQuiet_step (fun K hK=>?_);go_simp;split<;>(refine hK _ ?_;clear hK K)))));all_goals (refine wpQuiet_nil ?_;intro w2 hb2;obtain⟨x2,rfl⟩:=za hb2;clear hb2))
     go_wp2_with fail;go_ret
     exact Ret.int (by rw[Hs.out]) gw
    ·have Hs:Hid (zdv k≠t):=fun e=>he2 (by rw[e]);go_wp2_with fail
     (refine zg (by kernel_rfl) (by kernel_rfl) ?_;(repeat (any_goals (first|go_big_quiet_step (first|(go_at_call 172;refine zr (zib _ _ om om)))|(refine wpQuiet_step (fun K hK=>?_);go_simp;split<;>(refine hK _ ?_;clear hK K)))));all_goals (refine wpQuiet_nil ?_;intro w2 hb2;obtain⟨x2,rfl⟩:=za hb2;clear hb2))
     go_wp2_with fail;go_roundw
     case rel=>exact⟨k+1,by omega,by go_num,gw,fun j hj=>by by_cases e:j=k;subst e;exact Hs;exact ht j om⟩
     case measure=>exact me
   ·have Hs:Hid (zdv k≠t):=fun e=>he1 (by rw[e]);go_wp2_with fail
    (refine zg (by kernel_rfl) (by kernel_rfl) ?_;(repeat (any_goals (first|go_big_quiet_step (first|(go_at_call 172;refine zr (zib _ _ om om)))|(refine wpQuiet_step (fun K hK=>?_);go_simp;split<;>(refine hK _ ?_;clear hK K)))));all_goals (refine wpQuiet_nil ?_;intro w2 hb2;obtain⟨x2,rfl⟩:=za hb2;clear hb2))
    go_wp2_with fail;go_roundw
    case rel=>exact⟨k+1,by omega,by go_num,gw,fun j hj=>by by_cases e:j=k;subst e;exact Hs;exact ht j om⟩
    case measure=>exact me
  ·obtain rfl:k=8:=om;go_wp2_with fail;go_ret
   exact Ret.int (by rw[zt5 ht.out]) gw
theorem zhd (t : Ty)(w : World):
  Calls Tryz.prog 82 #[t.v] w (Ret w (.int .i64 (tyErr t))):=by
 go_enter Tryz.func82,Tryz.ntmps82
 go_wp2_with (first|(go_at_call 124;((with_reducible refine armV (zpg t _) ?_);intro x1)));all_goals go_ret
 all_goals (refine Ret.int ?_ gw)
 all_goals (have h1:=zvd t;grind [tyErr])
theorem zd7 (t : Ty)(w : World):
  Calls Tryz.prog 83 #[t.v] w (Ret w (.bool (decide (3≤t.kind)))):=by
 go_enter Tryz.func83,Tryz.ntmps83
 go_wp2
 all_goals go_ret
 all_goals (refine Ret.bool ?_ gw)
 all_goals grind
theorem zct (p : Pl)(w : World):
  Calls Tryz.prog 173 #[p.v] w (Ret w (.int .i64 (plErr p))):=by
 go_enter Tryz.func173,Tryz.ntmps173
 go_wp2
 all_goals (go_ret;refine Ret.int ?_ gw)
 all_goals (unfold plErr PlOk;grind)
def zbh (ts : List Ty): Int:=if LocOk ts then 0 else 8
theorem zfa (v : Value)(ts : List Ty)(w : World){F : Nat→Prop}(hv : Sl F w v ts):
  Calls Tryz.prog 232 #[v] w (Ret w (.int .i64 (zbh ts))):=by
 obtain⟨a,n,cap,rfl,Hn,hm,hcap,hcm,hv⟩:=hv.open;by_cases h1:n<1
 ·obtain rfl:n=0:=om;go_enter Tryz.func232,Tryz.ntmps232
  go_wp2
  go_ret
  exact Ret.int (by unfold zbh;rw[zgz Hn om];rfl) gw
 have h1' : ((n:Int)==0)=false:=by simp;omega
 by_cases h2:16<n
 ·go_enter Tryz.func232,Tryz.ntmps232
  go_wp2
  go_ret
  exact Ret.int (by unfold zbh;rw[zgz Hn om];rfl) gw
 have hl:=znp Hn h1 h2;have Hl:=Lib.hid hl;clear hl;go_enter Tryz.func232,Tryz.ntmps232
 go_wp2
 go_loopw [3] (fun i wr=>∃ k:Nat,k≤n∧i = .int .i64 k∧Grow (w) wr∧Hid ((ts.take k).all (fun t=>decide (TyOk t))=true)) (fun i _=>n - (intOf i).toNat)
 case atStart=>exact⟨0,Nat.zero_le _,rfl,gw,by rfl⟩
 case round =>
  obtain⟨k,hk,rfl,hb1,ht⟩:=hrel
  (obtain⟨x1,rfl⟩:=za hb1;clear hb1)
  by_cases hlt:k<n
  ·obtain⟨b_x,off_x,x,rfl,⟨Hg_x,hl_x,hw_x,c_x0,c_x1,r_x0⟩⟩:=hv.ty k hlt;go_wp2_with (first|(go_at_call 82;((with_reducible refine armV (zhd x _) ?_);intro x2)))
   ·go_ret
    refine Ret.int ?_ gw;have h0:=zk3 x;have h3:=zbs x;unfold zbh;rw[Hl.out,za3 Hg_x (by grind)];rfl
   ·go_roundw
    case rel=>exact⟨k+1,by omega,by go_num,gw,zab Hg_x ht (by have h3:=zbs x;grind)⟩
    case measure=>exact me
  ·have Ha:Hid (LocOk ts=true):=by rw[Hid,Hl.out];exact zag Hn om ht
   go_wp2_with fail;go_ret
   exact Ret.int (by unfold zbh;rw[Ha.out];rfl) gw
abbrev PlZ (p : Pl): Prop:=p.loc=0∧p.deref=false∧p.field=0
abbrev OpdZ (o : Opd): Prop:=o.kind=0∧o.n=0∧PlZ o.pl
abbrev OpdOk (o : Opd): Prop:=(o.kind=1∧PlZ o.pl)∨((o.kind=2∨o.kind=3)∧o.n=0∧PlOk o.pl)
def zn (o : Opd): Int:=if OpdOk o then 0 else 8
theorem zck (t : Opd): zn t=0↔OpdOk t:=by unfold zn;split<;>simp_all
theorem zeb (t : Opd): zn t=0∨zn t=8:=by unfold zn;split<;>simp
theorem zcl (o : Opd)(w : World):
  Calls Tryz.prog 106 #[o.v] w (Ret w (.int .i64 (zn o))):=by
 go_enter Tryz.func106,Tryz.ntmps106
 go_wp2_with (first|(go_at_call 104;((with_reducible refine armV (zb4 o.pl _) ?_);intro x1)));all_goals go_ret
 all_goals (refine Ret.int ?_ gw)
 all_goals (have h0:=zcr o.pl;have h1:=za8 o.pl;unfold zn;grind)
theorem zaw (o : Opd)(w : World):
  Calls Tryz.prog 175 #[o.v] w (Ret w (.int .i64 (zn o))):=by
 go_enter Tryz.func175,Tryz.ntmps175
 go_wp2_with (first|(go_at_call 173;((with_reducible refine armV (zct o.pl _) ?_);intro x1)));all_goals go_ret
 all_goals (refine Ret.int ?_ gw)
 all_goals (have h0:=zcr o.pl;have h1:=za8 o.pl;unfold zn;grind)
def opdZ (o : Opd): Bool:=decide (OpdZ o)
theorem zli (o : Opd)(w : World):
  Calls Tryz.prog 230 #[o.v] w (Ret w (.bool (opdZ o))):=by
 go_enter Tryz.func230,Tryz.ntmps230
 go_wp2
 all_goals go_ret
 all_goals (refine Ret.bool ?_ gw)
 all_goals (unfold opdZ;grind)
def zph (a b : Opd): Bool:=decide (zn a=0)&&decide (zn b=0)
theorem zrd (a b : Opd)(w : World):
  Calls Tryz.prog 231 #[a.v,b.v] w (Ret w (.bool (zph a b))):=by
 go_enter Tryz.func231,Tryz.ntmps231
 go_wp2_with (first|(go_at_call 175;((with_reducible refine armV (zaw a _) ?_);intro x1))|(go_at_call 175;((with_reducible refine armV (zaw b _) ?_);intro x2)));all_goals go_ret
 all_goals (refine Ret.bool ?_ gw)
 all_goals (unfold zph;grind)
def plZ (p : Pl): Bool:=decide (PlZ p)
def rvOk (r : Rv): Bool :=
 if r.kind=1 then decide (zn r.a=0)&&opdZ r.b&&plZ r.pl&&decide (r.op=0)&&decide (r.bo=0)
 else if r.kind=2 then decide (zn r.a=0)&&decide (zn r.b=0)&&plZ r.pl&&decide (1≤r.op)&&decide (r.op≤6)&&decide (r.bo=0)
 else if r.kind=3 then decide (zn r.a=0)&&decide (zn r.b=0)&&plZ r.pl&&decide (r.op=0)&&decide (r.bo=0)
 else if r.kind=4 then opdZ r.a&&opdZ r.b&&decide (plErr r.pl=0)&&decide (r.op=0)&&decide (1≤r.bo)&&decide (r.bo≤3)
 else if r.kind=5 then opdZ r.a&&opdZ r.b&&decide (plErr r.pl=0)&&decide (r.op=0)&&decide (r.bo=0)
 else false
def rvErr (r : Rv): Int:=if rvOk r=true then 0 else 8
theorem zec (t : Rv): rvErr t=0↔rvOk t=true:=by unfold rvErr;split<;>simp_all
theorem zxn (t : Rv): rvErr t=0∨rvErr t=8:=by unfold rvErr;split<;>simp
theorem zre (r : Rv)(w : World):
  Calls Tryz.prog 202 #[r.v] w (Ret w (.bool (rvOk r))):=by
 go_enter Tryz.func202,Tryz.ntmps202
 go_wp2_with (first|(go_at_call 175;((with_reducible refine armV (zaw r.a _) ?_);intro x1))|(go_at_call 230;((with_reducible refine armV (zli r.b _) ?_);intro x2))|(go_at_call 230;((with_reducible refine armV (zli r.a _) ?_);intro x3))|(go_at_call 231;((with_reducible refine armV (zrd r.a r.b _) ?_);intro x4))|(go_at_call 173;((with_reducible refine armV (zct r.pl _) ?_);intro x5)));all_goals go_ret
 all_goals (refine Ret.bool ?_ gw)
 all_goals (unfold rvOk plZ PlZ;grind [zph])
theorem zrf (r : Rv)(w : World):
  Calls Tryz.prog 174 #[r.v] w (Ret w (.int .i64 (rvErr r))):=by
 go_enter Tryz.func174,Tryz.ntmps174
 go_wp2_with (first|(go_at_call 202;((with_reducible refine armV (zre r _) ?_);intro x1)));all_goals go_ret
 all_goals (refine Ret.int ?_ gw)
 all_goals (unfold rvErr;grind)
def ze (r : Rv): List Opd:=if r.kind=1 then [r.a] else if r.kind=2∨r.kind=3 then [r.a,r.b] else []
abbrev Fresh (w : World): Nat→Prop:=Fr (fun _=>False) w.heap.size
theorem zdb (r : Rv)(w : World)(hr : r.wf):
  Calls Tryz.prog 88 #[r.v] w (RetP w fun v w'=>Sl (Fresh w) w' v (ze r)):=by
 obtain⟨k,op,bo,a,b,pl⟩:=r;have ha:=hr.a;have hb:=hr.b;clear hr;go_enter Tryz.func88,Tryz.ntmps88
 go_wp2
 all_goals (refine zd (by simp only[results,Tryz.results88];go_simp;rfl) rfl gw ?_)
 ·rw[show ze ⟨k,op,bo,a,b,pl⟩ = [a] from by grind [ze]];exact Sl.one (by simp[Fr]) (by simp) om om ⟨rfl,ha⟩ cel
 ·rw[show ze ⟨2,op,bo,a,b,pl⟩ = [a,b] from by grind [ze]];exact Sl.two (by simp[Fr]) (by simp) om om ⟨rfl,ha⟩ cel ⟨rfl,hb⟩ cel
 ·rw[show ze ⟨k,op,bo,a,b,pl⟩ = [a,b] from by grind [ze]];exact Sl.two (by simp[Fr]) (by simp) om om ⟨rfl,ha⟩ cel ⟨rfl,hb⟩ cel
 ·rw[show ze ⟨k,op,bo,a,b,pl⟩ = [] from by grind [ze]];exact Sl.nil _ _
theorem zhe (r : Rv)(w : World)(hr : r.wf):
  Calls Tryz.prog 152 #[r.v] w (RetP w fun v w'=>Sl (Fresh w) w' v (ze r)):=by
 obtain⟨k,op,bo,a,b,pl⟩:=r;have ha:=hr.a;have hb:=hr.b;clear hr;go_enter Tryz.func152,Tryz.ntmps152
 go_wp2
 all_goals (refine zd (by simp only[results,Tryz.results152];go_simp;rfl) rfl gw ?_)
 ·rw[show ze ⟨k,op,bo,a,b,pl⟩ = [a] from by grind [ze]];exact Sl.one (by simp[Fr]) (by simp) om om ⟨rfl,ha⟩ cel
 ·rw[show ze ⟨k,op,bo,a,b,pl⟩ = [a,b] from by grind [ze]];exact Sl.two (by simp[Fr]) (by simp) om om ⟨rfl,ha⟩ cel ⟨rfl,hb⟩ cel
 ·rw[show ze ⟨k,op,bo,a,b,pl⟩ = [a,b] from by grind [ze]];exact Sl.two (by simp[Fr]) (by simp) om om ⟨rfl,ha⟩ cel ⟨rfl,hb⟩ cel
 ·rw[show ze ⟨k,op,bo,a,b,pl⟩ = [] from by grind [ze]];exact Sl.nil _ _
abbrev opd0 : Opd:=⟨0,0,⟨0,false,0⟩⟩
def ownA (l : List Opd)(j : Nat): Opd:=if 1≤j then l.getD 0 opd0 else opd0
def ownB (l : List Opd)(j : Nat): Opd:=if 2≤j then l.getD 1 opd0 else opd0
theorem zc2 (r : Rv): (ze r).length≤2:=by unfold ze;split;simp;split<;>simp
theorem znq {l : List Opd}{x : Opd}(h : Hid (l[0]?=some x)): x=ownA l 1∧ownB l 0=ownB l 1:=by
 unfold ownA ownB;simp[List.getD_eq_getElem?_getD,h.out]
theorem znr {l : List Opd}{x : Opd}{j : Nat}(hj : j=1)(h : Hid (l[j]?=some x)): ownA l j=ownA l (j+1)∧x=ownB l (j+1):=by
 subst hj;unfold ownA ownB;simp[List.getD_eq_getElem?_getD,h.out]
theorem z1o {r : Rv}{y : Opd}(h : y∈ze r)(hy : zn y≠0): rvErr r=8:=by
 unfold ze at h;unfold rvErr rvOk;grind
theorem zhf (r : Rv)(w : World)(hr : r.wf):
  Calls Tryz.prog 105 #[r.v] w (Ret w (.int .i64 (rvErr r))):=by
 obtain⟨l,Hl⟩:∃ l,Hid (l=ze r):=⟨_,rfl⟩
 have hl2:l.length≤2:=by rw[Hl.out];exact zc2 r
 go_enter Tryz.func105,Tryz.ntmps105
 go_wp2_with (first|(go_at_call 152;((with_reducible refine(zhe r _ hr).mono ?_);rintro e w1 ⟨v1,rfl,hs1,hb1⟩;obtain⟨x1,rfl⟩:=za hb1;clear hb1;rw[←Hl.out] at hs1;obtain⟨a1,n1,cap1,rfl,Hn1,hm1,hcap1,hcm1,hs1⟩:=hs1.open)));have hn2:n1≤2:=by rw[Hn1.out];exact hl2
 simp only[Fresh,zav] at hs1;go_loopw [16] (fun i wr=>∃ (j:Nat) (oa ob:Opd),j≤n1∧i = .int .i64 j ∧
   (∃ x,wr=ext ((w.alloc (.cells #[.int .u8 r.kind,.int .u8 r.op,.int .u8 r.bo,.int .u8 r.a.kind,.int .i64 r.a.n,.int .i64 r.a.pl.loc,.bool r.a.pl.deref,.int .u8 r.a.pl.field,.int .u8 r.b.kind,.int .i64 r.b.n,.int .i64 r.b.pl.loc,.bool r.b.pl.deref,.int .u8 r.b.pl.field,.int .i64 r.pl.loc,.bool r.pl.deref,.int .u8 r.pl.field] 93)).alloc
    (.cells #[.int .u8 r.kind,.int .u8 0,.int .u8 0,.int .u8 oa.kind,.int .i64 oa.n,.int .i64 oa.pl.loc,.bool oa.pl.deref,.int .u8 oa.pl.field,.int .u8 ob.kind,.int .i64 ob.n,.int .i64 ob.pl.loc,.bool ob.pl.deref,.int .u8 ob.pl.field,.int .i64 0,.bool false,.int .u8 0] 93)) x) ∧
   Sl (Fr (fun _=>False) (w.heap.size+1+1)) wr (.slice a1 n1 cap1) l∧Hid (oa=ownA l j∧ob=ownB l j)∧Hid ((l.take j).all (fun o=>decide (zn o=0))=true)) (fun i _=>n1 - (intOf i).toNat)
 case atStart=>exact⟨0,opd0,opd0,Nat.zero_le _,rfl,⟨x1,rfl⟩,hs1,⟨rfl,rfl⟩,by rfl⟩
 case round =>
  obtain⟨j,oa,ob,hj,rfl,⟨x,rfl⟩,hs,Ho,Ha⟩:=hrel;by_cases hlt:j<n1
  ·obtain⟨b_y,off_y,y,rfl,⟨Hg_y,hl_y,hw_y,c_y0,c_y1,c_y2,c_y3,c_y4,r_y0,r_y1⟩⟩:=hs.opd j hlt;go_wp2_with (first|(go_at_call 106;((with_reducible refine armV (zcl y _) ?_);intro x2)))
   ·go_ret
    refine Ret.int ?_ gw;clear c_y0 c_y1 c_y2 c_y3 c_y4 r_y0 r_y1;have hy:y∈ze r:=by rw[←Hl.out];exact List.mem_of_getElem? Hg_y.out
    go_light;rw[z1o hy (by grind)];have:=zeb y;grind
   ·have hj0:j=0:=by go_light;grind
    subst hj0;go_roundw
    case rel =>
     exact⟨1,y,ob,by omega,by go_num,za gw,hs.keep (((AgrS.ext (AgrS.alloc (AgrS.refl _ _) (by simp[Fr]) _ _) x).agr).grow gw),⟨(znq Hg_y).1,Ho.out.2.trans (znq Hg_y).2⟩,zab Hg_y Ha (by clear c_y0 c_y1 c_y2 c_y3 c_y4 r_y0 r_y1;go_light;grind)⟩
    case measure=>exact me
   ·have hj1:j=1:=by go_light;grind
    go_roundw
    case rel =>
     exact⟨j+1,oa,y,by omega,by go_num,za gw,hs.keep (((AgrS.ext (AgrS.alloc (AgrS.refl _ _) (by simp[Fr]) _ _) x).agr).grow gw),⟨Ho.out.1.trans (znr hj1 Hg_y).1,(znr hj1 Hg_y).2⟩,zab Hg_y Ha (by clear c_y0 c_y1 c_y2 c_y3 c_y4 r_y0 r_y1;go_light;grind)⟩
    case measure=>exact me
  ·have Hall:Hid ((ze r).all (fun o=>decide (zn o=0))=true):=by rw[←Hl.out];exact zag Hn1 om Ha
   have hjn:j=n1:=om;have Hoa:Hid (oa=ownA (ze r) (ze r).length∧ob=ownB (ze r) (ze r).length):=by
    have e1:=Hn1.out;have e2:=Hl.out;have e3:=Ho.out;rw[←e2,←e1,←hjn];exact e3
   clear Ho Ha hs hs1 Hl Hn1 hl2 hn2;obtain⟨k,op,bo,a,b,pl⟩:=r;by_cases h5:k=1∨k=2∨k=3∨k=4∨k=5
   ·rcases h5 with rfl|rfl|rfl|rfl|rfl;all_goals
     have Hoa':=Hoa.out;simp[ze,ownA,ownB] at Hoa';obtain⟨rfl,rfl⟩:=Hoa';go_wp2_with (first|(go_at_call 104;((with_reducible refine armV (zb4 pl _) ?_);intro x3)))
    all_goals go_ret
    all_goals (refine Ret.int ?_ gw)
    all_goals (go_light;have h6:=Hall.out;have h7:=zcr pl;clear hr Hoa Hall;simp[ze] at h6;unfold rvErr rvOk plZ PlZ opdZ OpdZ PlZ;grind)
   ·have h1:(k==1)=false:=by simp;omega
    have h2:(k==2)=false:=by simp;omega
    have h3:(k==3)=false:=by simp;omega
    have h4:(k==4)=false:=by simp;omega
    have h6:(k==5)=false:=by simp;omega
    go_wp2_with fail;all_goals go_ret
    all_goals (refine Ret.int ?_ gw)
    all_goals (go_light;unfold rvErr rvOk;grind)
def rvZ (r : Rv): Bool:=decide (r.kind=0∧r.op=0∧r.bo=0∧OpdZ r.a∧OpdZ r.b∧PlZ r.pl)
def stOk (s : St): Bool :=
 if s.kind=1 then decide (plErr s.pl=0)&&rvOk s.r&&opdZ s.a&&decide (s.loc=0)
 else if s.kind=2∨s.kind=4 then plZ s.pl&&rvZ s.r&&decide (zn s.a=0)&&decide (s.loc=0)
 else if s.kind=3 then plZ s.pl&&rvZ s.r&&opdZ s.a&&decide (0≤s.loc)&&decide (s.loc<16)
 else false
theorem zhg (s : St)(w : World):
  Calls Tryz.prog 125 #[s.v] w (Ret w (.bool (stOk s))):=by
 go_enter Tryz.func125,Tryz.ntmps125
 go_wp2_with fail
 (refine zg (by kernel_rfl) (by kernel_rfl) ?_;(repeat (any_goals (first|go_big_quiet_step (first|fail)|(refine wpQuiet_step (fun K hK=>?_);go_simp;split<;>(refine hK _ ?_;clear hK K)))));all_goals (refine wpQuiet_nil ?_;intro w1 hb1;obtain⟨x1,rfl⟩:=za hb1;clear hb1))
 go_wp2_with (first|(go_at_call 173;((with_reducible refine armV (zct s.pl _) ?_);intro x2))|(go_at_call 174;((with_reducible refine armV (zrf s.r _) ?_);intro x3))|(go_at_call 175;((with_reducible refine armV (zaw s.a _) ?_);intro x4)));all_goals go_ret
 all_goals (refine Ret.bool ?_ gw)
 all_goals (go_light;have h1:=zec s.r;unfold stOk plZ rvZ opdZ PlZ OpdZ PlZ;grind)
def stErr (s : St): Int:=if stOk s=true then 0 else 8
theorem zax (t : St): stErr t=0↔stOk t=true:=by unfold stErr;split<;>simp_all
def drf (t : Ty)(d : Bool): Option Ty:=if d=true then (if 3≤t.kind then some ⟨t.to,0⟩ else none) else some t
def zd4 (t : Ty)(p : Pl): Option Ty:=match drf t p.deref with|none=>none|some u=>if 0<p.field then (if u.kind=2 then some ⟨1,0⟩ else none) else some u
def typed (t : Ty)(p : Pl): Option Ty:=match drf t p.deref with|none=>none|some u=>if p.field=0 then some u else (if u.kind=2 then some ⟨1,0⟩ else none)
theorem zoj (t : Ty)(p : Pl)(h : 0≤p.field): zd4 t p=typed t p:=by
 unfold zd4 typed;cases drf t p.deref<;>grind
abbrev optTy (o : Option Ty): Ty:=o.getD ⟨0,0⟩
def locAt (ts : List Ty)(p : Pl): Ty:=ts.getD p.loc.toNat ⟨0,0⟩
theorem zip {ts : List Ty}{k : Nat}{d : Bool}{f : Int}{t : Ty}(h : Hid (ts[k]?=some t)): locAt ts ⟨k,d,f⟩=t:=by
 unfold locAt;simp[List.getD_eq_getElem?_getD,h.out]
theorem zws (t : List Ty): zbh t=0∨zbh t=8:=by unfold zbh;split<;>simp
theorem zus (t : List Ty): zbh t=0↔LocOk t=true:=by unfold zbh;split<;>simp_all
theorem zqp {ts : List Ty}{t : Ty}{k : Nat}(h : LocOk ts=true)(ht : ts[k]?=some t): TyOk t:=by
 unfold LocOk at h;simp only[Bool.and_eq_true,List.all_eq_true] at h;exact of_decide_eq_true (h.2 _ (List.mem_of_getElem? ht))
theorem zkq (v : Value)(ts : List Ty)(p : Pl)(w : World){F : Nat→Prop}(hv : Sl F w v ts)(h0 : 0≤p.loc)(hp : p.loc<ts.length):
  Calls Tryz.prog 204 #[v,p.v] w (Ret w (.tuple #[(optTy (zd4 (locAt ts p) p)).v,.bool (zd4 (locAt ts p) p).isSome])):=by
 obtain⟨a,n,cap,rfl,Hn,hm,hcap,hcm,hv⟩:=hv.open;obtain⟨l,d,f⟩:=p;obtain⟨k,rfl⟩:=Int.eq_ofNat_of_zero_le h0;have hlt:k<n:=by rw[Hn.out];simpa using hp
 obtain⟨b_t,off_t,t,rfl,⟨Hg_t,hl_t,hw_t,c_t0,c_t1,r_t0⟩⟩:=hv.ty k hlt;rw[zip Hg_t];clear hp h0;cases d;all_goals
  go_enter Tryz.func204,Tryz.ntmps204
  go_wp2_with (first|(go_at_call 83;((with_reducible refine armV (zd7 t _) ?_);intro x1)))
 all_goals ((try simp only[Exit.inBlock,Exit.then]);refine zf (by simp only[results,Tryz.results204];go_simp;rfl) rfl gw ?_)
 all_goals (grind [zd4,drf])
def zbl (ts : List Ty)(p : Pl): Int:=if LocOk ts=false∨¬PlOk p then 8 else if ts.length≤p.loc then 6 else if (zd4 (locAt ts p) p).isNone then 42 else 0
theorem zfg (v : Value)(ts : List Ty)(p : Pl)(w : World){F : Nat→Prop}(hv : Sl F w v ts):
  Calls Tryz.prog 203 #[v,p.v] w (Ret w (.int .i64 (zbl ts p))):=by
 obtain⟨a,n,cap,rfl,Hn,hm,hcap,hcm,hv⟩:=hv.open;have Hl:=Lib.hid (zus ts);have Hp:=Lib.hid (za8 p);rcases zws ts with hl|hl
 ·rcases zcr p with hp|hp
  ·have hq:=Hp.out.1 hp;obtain⟨hq1,hq2,hq3⟩:=hq;by_cases hr:p.loc<n
   ·go_enter Tryz.func203,Tryz.ntmps203
    go_wp2_with (first|(go_at_call 232;((with_reducible refine armV (zfa _ ts _ hv.m) ?_);intro x1))|(go_at_call 173;((with_reducible refine armV (zct p _) ?_);intro x2))|(go_at_call 204;((with_reducible refine armV (zkq _ ts p _ hv.m hq1 (by rw[←Hn.out];exact hr)) ?_);intro x3)));all_goals go_ret
    all_goals (refine Ret.int ?_ gw)
    all_goals (have h1:=Hl.out;have h2:=Hn.out;unfold zbl;rw[←h2];grind)
   ·go_enter Tryz.func203,Tryz.ntmps203
    go_wp2_with (first|(go_at_call 232;((with_reducible refine armV (zfa _ ts _ hv.m) ?_);intro x1))|(go_at_call 173;((with_reducible refine armV (zct p _) ?_);intro x2)));all_goals go_ret
    all_goals (refine Ret.int ?_ gw)
    all_goals (have h1:=Hl.out;have h2:=Hn.out;unfold zbl;rw[←h2];grind)
  ·go_enter Tryz.func203,Tryz.ntmps203
   go_wp2_with (first|(go_at_call 232;((with_reducible refine armV (zfa _ ts _ hv.m) ?_);intro x1))|(go_at_call 173;((with_reducible refine armV (zct p _) ?_);intro x2)));all_goals go_ret
   all_goals (refine Ret.int ?_ gw)
   all_goals (have h1:=Hp.out;unfold zbl;grind)
 ·go_enter Tryz.func203,Tryz.ntmps203
  go_wp2_with (first|(go_at_call 232;((with_reducible refine armV (zfa _ ts _ hv.m) ?_);intro x1)));all_goals go_ret
  all_goals (refine Ret.int ?_ gw)
  all_goals (have h1:=Hl.out;unfold zbl;grind)
theorem zqq {ts : List Ty}{p : Pl}(h : zbl ts p=0): LocOk ts=true∧PlOk p∧p.loc<ts.length∧(zd4 (locAt ts p) p).isSome=true:=by
 unfold zbl at h;by_cases h1:LocOk ts=false∨¬PlOk p
 ·rw[if_pos h1] at h;omega
 rw[if_neg h1] at h;by_cases h2:(ts.length:Int)≤p.loc
 ·rw[if_pos h2] at h;omega
 rw[if_neg h2] at h;cases h3:zd4 (locAt ts p) p with
 |none=>rw[h3] at h;simp at h
 |some u=>exact⟨by cases e:LocOk ts<;>simp_all,by by_cases e:PlOk p;exact e;exact absurd (Or.inr e) h1,by omega,rfl⟩
def tyR (ts : List Ty)(p : Pl): Ty×Int:=if zbl ts p≠0 then (⟨0,0⟩,zbl ts p) else (optTy (zd4 (locAt ts p) p),0)
theorem zf1 (v : Value)(ts : List Ty)(p : Pl)(w : World){F : Nat→Prop}(hv : Sl F w v ts):
  Calls Tryz.prog 177 #[v,p.v] w (Ret w (.tuple #[(tyR ts p).1.v,.int .i64 (tyR ts p).2])):=by
 by_cases h:zbl ts p=0
 ·have hh:=zqq h;obtain⟨hh1,⟨hh2,_⟩,hh4,_⟩:=hh;have Hh:=Lib.hid hh4;clear hh4;have hs:tyR ts p=(optTy (zd4 (locAt ts p) p),0):=by unfold tyR;rw[if_neg (by simpa using h)]
  rw[hs];clear hs;go_enter Tryz.func177,Tryz.ntmps177
  go_wp2_with (first|(go_at_call 203;((with_reducible refine armV (zfg _ ts p _ hv.m) ?_);intro x1))|(go_at_call 204;((with_reducible refine armV (zkq _ ts p _ hv.m hh2 Hh.out) ?_);intro x3)));all_goals ((try simp only[Exit.inBlock,Exit.then]);refine zf (by simp only[results,Tryz.results177];go_simp;rfl) rfl gw ?_)
  all_goals rfl
 ·have hs:tyR ts p=(⟨0,0⟩,zbl ts p):=by unfold tyR;rw[if_pos h]
  rw[hs];clear hs;have h' : (zbl ts p != 0)=true:=by simpa using h
  clear h;go_enter Tryz.func177,Tryz.ntmps177
  go_wp2_with (first|(go_at_call 203;((with_reducible refine armV (zfg _ ts p _ hv.m) ?_);intro x1)));all_goals ((try simp only[Exit.inBlock,Exit.then]);refine zf (by simp only[results,Tryz.results177];go_simp;rfl) rfl gw ?_)
  all_goals rfl
def zfo (ts : List Ty)(p : Pl): Int:=if zbl ts p≠0 then zbl ts p else if p.deref=true∧(locAt ts p).kind=3 then 42 else 0
theorem zhm (v : Value)(ts : List Ty)(p : Pl)(w : World){F : Nat→Prop}(hv : Sl F w v ts):
  Calls Tryz.prog 178 #[v,p.v] w (Ret w (.int .i64 (zfo ts p))):=by
 by_cases h:zbl ts p=0
 ·have hh:=zqq h;obtain⟨hh1,⟨hh2,_⟩,hh4,_⟩:=hh;obtain⟨a,n,cap,rfl,Hn,hm,hcap,hcm,hv⟩:=hv.open;rw[←Hn.out] at hh4;obtain⟨l,d,f⟩:=p;obtain⟨k,rfl⟩:=Int.eq_ofNat_of_zero_le hh2;have hlt:k<n:=by simpa using hh4
  obtain⟨b_t,off_t,t,rfl,⟨Hg_t,hl_t,hw_t,c_t0,c_t1,r_t0⟩⟩:=hv.ty k hlt;have Ht:=Lib.hid (zip (d:=d) (f:=f) Hg_t);have He:Hid (zfo ts ⟨k,d,f⟩=if d=true∧t.kind=3 then 42 else 0):=by
   show zfo _ _=_;unfold zfo;rw[if_neg (by simpa using h),Ht.out]
  cases d;all_goals
   go_enter Tryz.func178,Tryz.ntmps178
   go_wp2_with (first|(go_at_call 203;((with_reducible refine armV (zfg _ ts ⟨k,_,f⟩ _ hv.m) ?_);intro x1)))
  all_goals go_ret
  all_goals (refine Ret.int ?_ gw)
  all_goals (rw[He.out];grind)
 ·have hs:zfo ts p=zbl ts p:=by unfold zfo;rw[if_pos h]
  rw[hs];clear hs;have h' : (zbl ts p != 0)=true:=by simpa using h
  clear h;go_enter Tryz.func178,Tryz.ntmps178
  go_wp2_with (first|(go_at_call 203;((with_reducible refine armV (zfg _ ts p _ hv.m) ?_);intro x1)));all_goals go_ret
  all_goals (exact Ret.int rfl gw)
def tyOut (o : Option Ty): Ty×Int:=match o with|none=>(⟨0,0⟩,42)|some u=>(u,0)
def plaTy (ts : List Ty)(p : Pl): Ty×Int:=if zbt ts p≠0 then (⟨0,0⟩,zbt ts p) else tyOut (typed (locAt ts p) p)
def plaWr (ts : List Ty)(p : Pl): Int:=if (plaTy ts p).2≠0 then (plaTy ts p).2 else if p.deref=true∧(locAt ts p).kind=3 then 42 else 0
theorem zjl {ts : List Ty}{p : Pl}(h : zbt ts p=0): LocOk ts=true∧PlOk p∧p.loc<ts.length:=by
 unfold zbt at h;by_cases h1:¬LocOk ts=true∨¬PlOk p
 ·rw[if_pos h1] at h;omega
 rw[if_neg h1] at h;by_cases h2:(ts.length:Int)≤p.loc
 ·rw[if_pos h2] at h;omega
 exact⟨by cases e:LocOk ts<;>simp_all,by by_cases e:PlOk p;exact e;exact absurd (Or.inr e) h1,by omega⟩
theorem zme (ts : List Ty)(p : Pl)(h : 0≤p.field): zbl ts p=(plaTy ts p).2:=by
 unfold zbl plaTy zbt;rw[zoj _ _ h];by_cases h1:LocOk ts=true
 ·by_cases h2:PlOk p
  ·rw[if_neg (by rintro(q|q);rw[h1] at q;cases q;exact q h2),if_neg (c:=¬LocOk ts=true∨¬PlOk p) (by rintro(q|q);exact q h1;exact q h2)];by_cases h3:(ts.length:Int)≤p.loc
   ·rw[if_pos h3,if_pos h3,if_pos (by decide)]
   ·rw[if_neg h3,if_neg h3];cases typed (locAt ts p) p<;>simp[tyOut]
  ·rw[if_pos (Or.inr h2),if_pos (c:=¬LocOk ts=true∨¬PlOk p) (Or.inr h2),if_pos (by decide)]
 ·have h1' : LocOk ts=false:=by simpa using h1
  rw[if_pos (Or.inl h1'),if_pos (c:=¬LocOk ts=true∨¬PlOk p) (Or.inl h1),if_pos (by decide)]
theorem zmf (ts : List Ty)(p : Pl)(h : 0≤p.field): tyR ts p=plaTy ts p:=by
 have e:=zme ts p h;unfold tyR;rw[e,zoj _ _ h];unfold plaTy;by_cases h1:zbt ts p=0
 ·simp only[h1];cases typed (locAt ts p) p<;>simp[tyOut]
 ·simp[h1]
theorem zjm (ts : List Ty)(p : Pl)(h : 0≤p.field): zfo ts p=plaWr ts p:=by
 unfold zfo plaWr;rw[zme ts p h]
theorem zc1 (v : Value)(ts : List Ty)(p : Pl)(w : World){F : Nat→Prop}(hv : Sl F w v ts):
  Calls Tryz.prog 154 #[v,p.v] w (Ret w (.tuple #[(plaTy ts p).1.v,.int .i64 (plaTy ts p).2])):=by
 by_cases h:zbt ts p=0
 ·obtain⟨h1,h2,h3⟩:=zjl h;obtain⟨a,n,cap,rfl,Hn,hm,hcap,hcm,hv⟩:=hv.open;rw[←Hn.out] at h3;obtain⟨l,d,f⟩:=p;obtain⟨k,rfl⟩:=Int.eq_ofNat_of_zero_le h2.1;have hlt:k<n:=by simpa using h3
  obtain⟨b_t,off_t,t,rfl,⟨Hg_t,hl_t,hw_t,c_t0,c_t1,r_t0⟩⟩:=hv.ty k hlt;have Ht:=Lib.hid (zip (d:=d) (f:=f) Hg_t);have hto:=zqp h1 Hg_t.out;have hta:zd9 t=if t.to=0 then (⟨0,0⟩,6) else (⟨t.to,0⟩,0):=by unfold zd9;rw[if_neg (fun q=>q hto)]
  have Hto:=Lib.hid hto;have hs:plaTy ts ⟨k,d,f⟩=tyOut (typed t ⟨k,d,f⟩):=by
   unfold plaTy;rw[if_neg (by simpa using h),Ht.out]
  rw[hs];clear hs hto;cases d
  ·clear hta;go_enter Tryz.func154,Tryz.ntmps154
   go_wp2_with (first|(go_at_call 188;((with_reducible refine armV (zd6 _ ts ⟨k,_,f⟩ _ hv.m) ?_);intro x1)));all_goals ((try simp only[Exit.inBlock,Exit.then]);refine zf (by simp only[results,Tryz.results154];go_simp;rfl) rfl gw ?_)
   all_goals (grind [typed,drf,tyOut])
  ·by_cases hz:t.to=0
   ·rw[if_pos hz] at hta;have Hz:=Lib.hid hz;clear hz;go_enter Tryz.func154,Tryz.ntmps154
    go_wp2_with (first|(go_at_call 188;((with_reducible refine armV (zd6 _ ts ⟨k,_,f⟩ _ hv.m) ?_);intro x1))|(go_at_call 103;((with_reducible refine armV (zgd t _) ?_);intro x2)));all_goals ((try simp only[Exit.inBlock,Exit.then]);refine zf (by simp only[results,Tryz.results154];go_simp;rfl) rfl gw ?_)
    all_goals (have h5:=Hto.out;have h6:=Hz.out;clear c_t0 c_t1 r_t0;grind [typed,drf,tyOut])
   ·rw[if_neg hz] at hta;have Hz:=Lib.hid hz;clear hz;go_enter Tryz.func154,Tryz.ntmps154
    go_wp2_with (first|(go_at_call 188;((with_reducible refine armV (zd6 _ ts ⟨k,_,f⟩ _ hv.m) ?_);intro x1))|(go_at_call 103;((with_reducible refine armV (zgd t _) ?_);intro x2)));all_goals ((try simp only[Exit.inBlock,Exit.then]);refine zf (by simp only[results,Tryz.results154];go_simp;rfl) rfl gw ?_)
    all_goals (have h5:=Hto.out;have h6:=Hz.out;clear c_t0 c_t1 r_t0;have h7:3≤t.kind:=om;grind [typed,drf,tyOut])
 ·have hs:plaTy ts p=(⟨0,0⟩,zbt ts p):=by unfold plaTy;rw[if_pos h]
  rw[hs];clear hs;have h' : (zbt ts p != 0)=true:=by simpa using h
  clear h;go_enter Tryz.func154,Tryz.ntmps154
  go_wp2_with (first|(go_at_call 188;((with_reducible refine armV (zd6 _ ts p _ hv.m) ?_);intro x1)));all_goals ((try simp only[Exit.inBlock,Exit.then]);refine zf (by simp only[results,Tryz.results154];go_simp;rfl) rfl gw ?_)
  all_goals rfl
theorem zqr {ts : List Ty}{p : Pl}(h : (plaTy ts p).2=0): zbt ts p=0:=by
 unfold plaTy at h;by_cases h1:zbt ts p=0;exact h1;rw[if_pos h1] at h;exact h
theorem zix (v : Value)(ts : List Ty)(p : Pl)(w : World){F : Nat→Prop}(hv : Sl F w v ts):
  Calls Tryz.prog 159 #[v,p.v] w (Ret w (.int .i64 (plaWr ts p))):=by
 by_cases h:(plaTy ts p).2=0
 ·obtain⟨h1,h2,h3⟩:=zjl (zqr h);obtain⟨a,n,cap,rfl,Hn,hm,hcap,hcm,hv⟩:=hv.open;rw[←Hn.out] at h3;obtain⟨l,d,f⟩:=p;obtain⟨k,rfl⟩:=Int.eq_ofNat_of_zero_le h2.1;have hlt:k<n:=by simpa using h3
  obtain⟨b_t,off_t,t,rfl,⟨Hg_t,hl_t,hw_t,c_t0,c_t1,r_t0⟩⟩:=hv.ty k hlt;have Ht:=Lib.hid (zip (d:=d) (f:=f) Hg_t);have He:Hid (plaWr ts ⟨k,d,f⟩=if d=true∧t.kind=3 then 42 else 0):=by
   show plaWr _ _=_;unfold plaWr;rw[if_neg (by simpa using h),Ht.out]
  cases d;all_goals
   go_enter Tryz.func159,Tryz.ntmps159
   go_wp2_with (first|(go_at_call 154;((with_reducible refine armV (zc1 _ ts ⟨k,_,f⟩ _ hv.m) ?_);intro x1)))
  all_goals go_ret
  all_goals (refine Ret.int ?_ gw)
  all_goals (rw[He.out];grind)
 ·have hs:plaWr ts p=(plaTy ts p).2:=by unfold plaWr;rw[if_pos h]
  rw[hs];clear hs;have h' : ((plaTy ts p).2 != 0)=true:=by simpa using h
  clear h;go_enter Tryz.func159,Tryz.ntmps159
  go_wp2_with (first|(go_at_call 154;((with_reducible refine armV (zc1 _ ts p _ hv.m) ?_);intro x1)));all_goals go_ret
  all_goals (exact Ret.int rfl gw)
end Go.Proofs.YtacmoaeglbggjaaGreat
