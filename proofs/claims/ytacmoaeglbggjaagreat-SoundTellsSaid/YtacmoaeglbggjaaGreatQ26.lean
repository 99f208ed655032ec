/- A part of the proof. -/
import Derived.Maps.RangeWalk
import Derived.Test.YtacmoaeglbggjaaGreatQ14
namespace Go.Proofs.YtacmoaeglbggjaaGreat
open Go.RowKit
set_option linter.unusedSimpArgs false
set_option linter.unusedVariables false
set_option maxRecDepth 100000
set_option maxHeartbeats 16000000
theorem hAo26 (w : World) (o : Obj) {i : Nat} (h : i < w.heap.size) : (w.alloc o).heap[i]? = w.heap[i]? := by first | exact heap_alloc_old w o h | exact heap_alloc_old w o _ h
open Go.RowKit Go.Maps Go.ChangeMaps
set_option linter.unusedVariables false
def SetO (mp : Obj)(n : Nat)(S : Nat→Bool): Prop :=
 ∀ (w:World) (B:Nat),w.heap[B]?=some mp→∃ D:DataW Unit,w.ownsMap Tryz.prog 3 (plainElem Tryz.prog 4) B n D∧(∀ c:Nat,Maps.has D (.int .i64 (c:Int))=S c)∧∀ kl,Maps.has D kl=true→∃ c:Nat,c<100000∧kl = .int .i64 (c:Int)
theorem SetO.of {w : World}{B n : Nat}{D : DataW Unit}{S : Nat→Bool}(h : w.ownsMap Tryz.prog 3 (plainElem Tryz.prog 4) B n D)(h1 : ∀ c : Nat,Maps.has D (.int .i64 (c : Int))=S c)(h2 : ∀ kl,Maps.has D kl=true→∃ c : Nat,c<100000∧kl = .int .i64 (c : Int)):
  ∃ mp,w.heap[B]?=some mp∧SetO mp n S:=by
 obtain⟨es,clock,hb,r⟩:=id h;exact⟨_,hb,fun w' B' hb'=>⟨D,⟨es,clock,hb',r⟩,h1,h2⟩⟩
theorem SetO.made (w : World): SetO (.map #[] 0) 0 (fun _=>false):=by
 have h:=World.ownsMap_made (H:=Unit) w Tryz.prog 3 (plainElem Tryz.prog 4);obtain⟨mp,hb,hs⟩:=SetO.of (S:=fun _=>false) h (fun c=>rfl) (fun kl hk=>by simp[Maps.has] at hk);have hb2:(w.alloc (.map #[] 0)).heap[w.heap.size]?=some (.map #[] 0):=heap_alloc_new w _;rw[hb2] at hb;injection hb with hb;rw[hb];exact hs
theorem SetO.congr {mp : Obj}{n : Nat}{S T : Nat→Bool}(h : SetO mp n S)(e : ∀ c,S c=T c): SetO mp n T:=fun w B hb=>by
 obtain⟨D,h1,h2,h3⟩:=h w B hb;exact⟨D,h1,fun c=>by rw[h2,e],h3⟩
theorem z1a {es : List (Lit×DataW Unit)}{p : Lit×DataW Unit}(hp : p∈es)(hk : WideAt.IsKeyLit p.1): Maps.has (.map es) p.1=true:=List.any_eq_true.2 ⟨p,hp,WideAt.sameKey_self hk⟩
theorem zw4 {w : World}{B n : Nat}{D : DataW Unit}{S : Nat→Bool}(h : w.ownsMap Tryz.prog 3 (plainElem Tryz.prog 4) B n D)(h1 : ∀ c : Nat,Maps.has D (.int .i64 (c : Int))=S c)(h2 : ∀ kl,Maps.has D kl=true→∃ c : Nat,c<100000∧kl = .int .i64 (c : Int)):
  (Maps.size D=0→∀ c,S c=false)∧(0<Maps.size D→∃ c,S c=true):=by
 obtain⟨es,rfl,hp,hk⟩:=h.entries zgi;constructor
 ·intro h0 c;obtain rfl:es = []:=List.eq_nil_of_length_eq_zero h0;rw[←h1];rfl
 ·intro h0;cases es with
  |nil=>cases h0
  |cons p es =>
   have hh:=z1a (List.mem_cons_self (a:=p) (l:=es)) (hk p (List.mem_cons_self ..));obtain⟨c,_,hc⟩:=h2 p.1 hh;exact⟨c,by rw[←h1,←hc];exact hh⟩
theorem zqz {a b : Nat}(h : a≠b): (Lit.int .i64 (a : Int))≠Lit.int .i64 (b : Int):=fun e=>by injection e with _ e;omega
theorem SetO.put {mp : Obj}{n : Nat}{S : Nat→Bool}(h : SetO mp n S){w : World}{B : Nat}(hb : w.heap[B]?=some mp)(hn : n<1000000){c : Nat}(hc : c<100000):
  ∃ w' mp',(Instr.mapUpdate 116 (.map (some B)) (.int .i64 (c:Int)) (.bool true)).run Tryz.prog w = .ok () w'∧w'=setBlock w B mp'∧SetO mp' (n+1) (up S c true):=by
 obtain⟨D,h1,h2,h3⟩:=h w B hb;have h64:I64 (c:Int):=⟨by omega,by omega⟩
 obtain⟨w',hr,h4,h5⟩:=h1.store zgi Tryz.underlying116 (by unfold maxLen;omega) (keyOf_int_mk Tryz.underlying3 (lit64 h64)) (plainElem_bool Tryz.underlying4 true);obtain⟨mp',k1,k2⟩:=SetO.of (S:=up S c true) h4 (fun d=>by
   by_cases e:d=c
   ·subst e;rw[has_put_same h1.isMap (show WideAt.IsKeyLit (Lit.int .i64 (d:Int)) from trivial),zm]
   ·rw[has_put_other (zqz e),h2,up_ne _ _ e]) (fun kl hk=>by
   by_cases e:kl=Lit.int .i64 (c:Int)
   ·exact⟨c,hc,e⟩
   ·rw[has_put_other e] at hk;exact h3 kl hk)
 refine⟨w',mp',hr,?_,k2⟩;obtain⟨es,cl,es',cl',hb1,rfl⟩:=h5;rw[heap_setBlock_same hb1] at k1;exact congrArg (setBlock w B) (Option.some.inj k1)
theorem zkz {ops : Array Oper}{rest : List Oper}{o : Oper}{a : Act}{w : World}{Q : Exit→Act→World→Prop}{m x v : Operand}(hg : o.guard=none)(hop : o.op=Op.mapUpdate 116 m x v)
  {B n c:Nat} {mp:Obj} {S:Nat→Bool} (hm:a.eval m = .map (some B)) (hx:a.eval x = .int .i64 (c:Int)) (hv:a.eval v = .bool true) (h:SetO mp n S) (hb:w.heap[B]?=some mp) (hn:n<1000000) (hc:c<100000)
  (hK:∀ mp',SetO mp' (n+1) (up S c true)→wpList Tryz.prog ops Q rest (a.put o.dst undef) (setBlock w B mp')):wpList Tryz.prog ops Q (o::rest) a w:=by
 obtain⟨w',mp',hr,rfl,h2⟩:=h.put hb hn hc;refine wpList_plain hg fun K' hK'=>?_;unfold Oper.wp;simp[execOp,hop,hm,hx,hv,hr,Result.andThen];exact hK' _ _ (hK mp' h2)
theorem zsk {ops : Array Oper}{rest : List Oper}{o : Oper}{a : Act}{w : World}{Q : Exit→Act→World→Prop}{m : Operand}{t : TypeId}(hg : o.guard=none)
  (hop:o.op=Op.call { callee:=Callee.builtin Builtin.len,args:=#[m],argTypes:=#[t] }) (ht:Tryz.prog.underlying t=some (.map 3 4))
  {B n:Nat} {mp:Obj} {S:Nat→Bool} (hm:a.eval m = .map (some B)) (h:SetO mp n S) (hb:w.heap[B]?=some mp)
  (hK:∀ k:Nat,(k=0→∀ c,S c=false)→(0<k→∃ c,S c=true)→wpList Tryz.prog ops Q rest (a.put o.dst (.int .i64 (k:Int))) w):wpList Tryz.prog ops Q (o::rest) a w:=by
 obtain⟨D,h1,h2,h3⟩:=h w B hb;have hz:=zw4 h1 h2 h3;exact wpList_len_own w hg m t hop 3 4 ht _ B n D hm h1 (hK _ hz.1 hz.2)
theorem zq0 {W : World}{o m : Obj}{b : Nat}[h : LtW b W]: setBlock (W.alloc o) b m=(setBlock W b m).alloc o:=by
 have hlt:=h.lt;simp only[setBlock,World.alloc];congr 1
 apply Array.ext_getElem?;intro i;rw[Array.getElem?_setIfInBounds,Array.getElem?_push,Array.getElem?_push,Array.getElem?_setIfInBounds,Array.size_push,Array.size_setIfInBounds];by_cases e:b=i
 ·subst e;rw[if_pos rfl,if_pos om,if_neg om,if_pos rfl,if_pos hlt]
 ·rw[if_neg e,if_neg e]
theorem sb_at {W : World}{o m : Obj}{b : Nat}[h : EqW b W]: setBlock (W.alloc o) b m=W.alloc m:=by
 have e:=h.eq;subst e;simp only[setBlock,World.alloc];congr 1
 apply Array.ext_getElem?;intro i;rw[Array.getElem?_setIfInBounds,Array.getElem?_push,Array.getElem?_push,Array.size_push];by_cases e:W.heap.size=i
 ·subst e;rw[if_pos rfl,if_pos om,if_pos rfl]
 ·rw[if_neg e];split
  ·omega
  ·rfl
theorem zq1 {W : World}{x : Ext}{m : Obj}{b : Nat}[h : LtW b W]: setBlock (ext W x) b m=ext (setBlock W b m) x:=by
 have hlt:=h.lt;simp only[setBlock,ext];congr 1
 apply Array.ext_getElem?;intro i;rw[Array.getElem?_setIfInBounds,Array.getElem?_append,Array.getElem?_append,Array.getElem?_setIfInBounds,Array.size_setIfInBounds,Array.size_append];by_cases e:b=i
 ·subst e;rw[if_pos rfl,if_pos om,if_pos hlt,if_pos rfl,if_pos hlt]
 ·rw[if_neg e,if_neg e]
open Go.RowKit Go.Maps
theorem zjs {P : Program}{e : TypeId}(he : P.underlying e=some .bool){v : Value}{z : DataW Unit×List MemPlace}(h : plainElem P e v=some z): ∃ a,v = .bool a:=by
 unfold plainElem at h;rw[he] at h;cases v<;>simp at h;exact⟨_,rfl⟩
def TakI (S : Nat→Bool)(left : Lit→Bool)(c : Int): Prop :=
 (c = -1∨∃ k:Nat,c=(k:Int)∧k<100000∧S k=true)∧∀ d:Nat,S d=true→left (.int .i64 (d:Int))=true∨(d:Int)≤c
theorem TakI.step {S : Nat→Bool}{left : Lit→Bool}{c : Int}(h : TakI S left c){k : Nat}(hk : k<100000)(hS : S k=true): TakI S (fun z=>left z&&!z.sameKey (.int .i64 (k : Int))) (if c<(k : Int) then (k : Int) else c):=by
 constructor
 ·by_cases e:c<(k:Int)
  ·rw[if_pos e];exact Or.inr ⟨k,rfl,hk,hS⟩
  ·rw[if_neg e];exact h.1
 ·intro d hd;by_cases e:d=k
  ·subst e;right;split<;>omega
  ·rcases h.2 d hd with h2|h2
   ·left;show (left _&&!Lit.sameKey _ _)=true;rw[h2,sameKey_ne (zqz e)];rfl
   ·right;split<;>omega
theorem zq2 (w : World){B n : Nat}{mp : Obj}{S : Nat→Bool}(h : SetO mp n S)(hb : w.heap[B]?=some mp)(hne : ∃ c,S c=true):
  Calls Tryz.prog 277 #[.map (some B)] w (fun e w'=>∃ (c:Nat) (mp' : Obj),e = .returned (.int .i64 (c:Int))∧S c=true∧c<100000∧w'.heap[B]?=some mp'∧SetO mp' n (up S c false)∧w.grownBy w' (some B)):=by
 obtain⟨D,hown,hS,hkeys⟩:=h w B hb;have hBlt:B<w.heap.size:=(Array.getElem?_eq_some_iff.1 hb).1;have HS:=Lib.hid hS;have Hkeys:=Lib.hid hkeys;clear hb h hS hkeys;have Hend:Hid (∀ left c,TakI S left c→(∀ kl,left kl=false)→∃ k:Nat,c=(k:Int)∧k<100000∧S k=true):=Lib.hid fun left c hT h0=>by
  rcases hT.1 with h1|h1
  ·obtain⟨d,hd⟩:=hne;rcases hT.2 d hd with h2|h2
   ·rw[h0] at h2;cases h2
   ·omega
  ·exact h1
 clear hne;go_enter Tryz.func277,Tryz.ntmps277
 go_wp2_with (first|(at_range;refine wpList_range_own _ rfl _ _ rfl 3 4 zgi Tryz.underlying116 (plainElem Tryz.prog 4) B n D rfl hown ?_;intro w0 hrg0 hg0 hs0));go_frame
 go_loopw [3,4] (fun ov _ wr=>∃ (left:Lit→Bool) (cnt:Nat) (c:Int),ov = .int .i64 c∧-1≤c∧c<100000∧wr.ranges Tryz.prog 3 (plainElem Tryz.prog 4) B w.heap.size n D left cnt∧w.grownBy wr none∧Hid (TakI S left c)) (fun _ _ wr=>wr.rangeLeft B w.heap.size)
 case atStart=>exact⟨_,_,-1,rfl,by omega,by omega,hrg0,hg0,Lib.hid ⟨Or.inl rfl,fun d hd=>Or.inl (by rw[HS.out];exact hd)⟩⟩
 case round =>
  obtain⟨left,cnt,c,rfl,hc1,hc2,hrg,hgw,HT⟩:=hrel;go_wp2_with (first|(at_next;refine wpList_next_ranges _ rfl _ rfl 3 zgi (plainElem Tryz.prog 4) (Value.int .i64) Value.bool (fun key kl hkey=>by obtain⟨x,rfl,_⟩:=Maps.keyOf_int_inv Tryz.underlying3 hkey;exact⟨x,rfl⟩) (fun v y hv=>zjs Tryz.underlying4 hv) B w.heap.size n _ _ _ rfl hrg ?_ ?_;rotate_left;intro x b kl y w1 cnt1 hkx hlx hat hel hrg1 hlt hg1 hs1 hen;rotate_left;intro hc0 hl0;obtain⟨k,hck,hk,hSk⟩:=Hend.out left c HT.out hl0;subst hck)|(at_delete;refine wpList_delete_own _ rfl _ _ 116 3 rfl 4 zgi Tryz.underlying116 (plainElem Tryz.prog 4) B n D rfl hrg.owns _ _ rfl (keyOf_int_mk Tryz.underlying3 (lit64 ⟨by omega,by omega⟩)) ?_;intro wd hown2 hturn))
  ·obtain⟨mp',k1,k2⟩:=SetO.of (S:=up S k false) hown2 (fun d=>by
    by_cases e:d=k
    ·subst e;rw[has_del_same,zm]
    ·rw[has_del_other (zqz e),HS.out,up_ne _ _ e]) (fun kl hk=>by
    by_cases e:kl=Lit.int .i64 (k:Int)
    ·subst e;rw[has_del_same] at hk;cases hk
    ·rw[has_del_other e] at hk;exact Hkeys.out kl hk)
   exact bodyPost_ret (by simp only[results,Tryz.results277];go_simp<;>rfl) rfl ⟨k,mp',rfl,hSk,hk,k1,k2,(hgw.but _).andThen hturn.grown (fun j hj=>by cases hj;exact Or.inr rfl)⟩
  ·have hxk:kl=Lit.int .i64 x:=by
    obtain⟨z,e1,e2,_⟩:=Maps.keyOf_int_inv Tryz.underlying3 hkx;injection e1 with _ e1;subst e1;exact e2
   subst hxk;have hhas:=has_true_of_atKey hel;obtain⟨k,hk,e2⟩:=Hkeys.out _ hhas;obtain rfl:x=(k:Int):=by injection e2
   have hSk:S k=true:=by rw[←HS.out];exact hhas
   have Hnx:=Lib.hid (HT.out.step hk hSk);have hgw1:=hgw.andThen hg1 (fun j hj=>by cases hj;exact Or.inl (Nat.le_refl _));clear e2 hhas;go_roundw
   case rel=>exact⟨_,cnt1,(if c<(k:Int) then (k:Int) else c),(by first|rfl|(congr 1;rw[Int.max_def];split<;>split<;>omega)),by split<;>omega,by split<;>omega,hrg1,hgw1,Hnx⟩
   case measure=>rw[hrg1.left_eq,hrg.left_eq];exact hlt
open Go.RowKit Go.Maps Go.ChangeMaps
set_option linter.unusedVariables false
theorem zf2 {A : World}{o1 o2 o3 o1' o2' o3' : Obj}{z : Ext}{b : Nat}(hb : A.heap.size+3≤b): (ext (((A.alloc o1').alloc o2').alloc o3') z).heap[b]?=(ext (((A.alloc o1).alloc o2).alloc o3) z).heap[b]?:=by
 simp only[ext,World.alloc,Array.getElem?_append,Array.getElem?_push,Array.size_push];rw[if_neg om,if_neg om]
theorem zu4 {A : World}{o1 o2 o3 o1' o2' o3' o4' : Obj}{y z : Ext}{b : Nat}(hb : A.heap.size+3≤b)(hb2 : b<A.heap.size+3+y.k): (ext ((ext (((A.alloc o1').alloc o2').alloc o3') y).alloc o4') z).heap[b]?=(ext (((A.alloc o1).alloc o2).alloc o3) y).heap[b]?:=by
 have hlt:b<(ext (((A.alloc o1').alloc o2').alloc o3') y).heap.size:=by simp;omega
 rw[(zw ((ext (((A.alloc o1').alloc o2').alloc o3') y).alloc o4') z).block b (by simp;omega),hAo26 _ _ hlt];exact zf2 hb
theorem Sl.turn3g {α : Type}[Rp α]{A : World}{o1 o2 o3 o1' o2' o3' : Obj}{z : Ext}{v : Value}{xs : List α}{s0 s1 : Nat}(h : Sl (fun k=>s0≤k∧k<s1) (ext (((A.alloc o1).alloc o2).alloc o3) z) v xs)(hs : A.heap.size+3≤s0):
  Sl (fun k=>s0≤k∧k<s1) (ext (((A.alloc o1').alloc o2').alloc o3') z) v xs :=
 h.keep fun b hF _=>zf2 (by have:=hF.1;omega)
theorem Sl.turn4 {α : Type}[Rp α]{A : World}{o1 o2 o3 o1' o2' o3' o4' : Obj}{y z : Ext}{v : Value}{xs : List α}{s : Nat}(h : Sl (fun k=>s≤k) (ext (((A.alloc o1).alloc o2).alloc o3) y) v xs)(hs : A.heap.size+3≤s):
  Sl (fun k=>s≤k) (ext ((ext (((A.alloc o1').alloc o2').alloc o3') y).alloc o4') z) v xs :=
 h.keep fun b hF hlt=>zu4 om (by simpa using hlt)
theorem Bu.turn3g {base : Nat}{A : World}{o1 o2 o3 o1' o2' o3' : Obj}{z : Ext}{e : TypeId}{R : Nat}{vs : Nat→Value}{B : Nat→List Int}(h : Bu base (ext (((A.alloc o1).alloc o2).alloc o3) z) e R vs B)(hb : A.heap.size+3≤base):
  Bu base (ext (((A.alloc o1').alloc o2').alloc o3') z) e R vs B:=h.keep fun b hb' _=>zf2 om
theorem zw6 {A : World}{o1 o2 o3 m : Obj}{y : Ext}{b : Nat}[h : EqW b ((A.alloc o1).alloc o2)]: setBlock (ext (((A.alloc o1).alloc o2).alloc o3) y) b m=ext (((A.alloc o1).alloc o2).alloc m) y:=by
 have e:=h.eq;haveI:LtW b (((A.alloc o1).alloc o2).alloc o3):=⟨by rw[e];simp⟩
 rw[zq1,sb_at]
theorem zb3 {A : World}{o o' : Obj}{z : Ext}{b : Nat}(hb : b≠A.heap.size): (ext (A.alloc o') z).heap[b]?=(ext (A.alloc o) z).heap[b]?:=by
 simp only[ext,World.alloc,Array.getElem?_append,Array.getElem?_push,Array.size_push];rw[if_neg hb,if_neg hb]
theorem zw7 {U w1 w' : World}{B : Nat}{mp mp' o4 : Obj}{y : Ext}[h : EqW B U](hgr : Grow ((ext (U.alloc mp) y).alloc o4) w1)(hg : w1.grownBy w' (some B))(hb : w'.heap[B]?=some mp'): Grow ((ext (U.alloc mp') y).alloc o4) w':=by
 have e:=h.eq;subst e;refine⟨hg.os.trans hgr.os,hg.tape.trans hgr.tape,hg.output.trans hgr.output,?_,fun k hk=>?_⟩
 ·have:=hgr.size;have:=hg.size;simp at *;omega
 ·have hk2:k<((ext (U.alloc mp) y).alloc o4).heap.size:=by simpa using hk
  by_cases e:k=U.heap.size
  ·subst e;rw[hb,hAo26 _ _ (by simp;omega),zcf]
  ·rw[hg.block k (Nat.lt_of_lt_of_le hk2 hgr.size) (by simpa using e),hgr.block k hk2];by_cases e2:k<(ext (U.alloc mp) y).heap.size
   ·rw[hAo26 _ _ e2,hAo26 _ _ (by simpa using e2)];exact(zb3 om).symm
   ·obtain rfl:k=(ext (U.alloc mp) y).heap.size:=by simp at hk2 e2 ⊢;omega
    rw[heap_alloc_new];rw[show (ext (U.alloc mp) y).heap.size=(ext (U.alloc mp') y).heap.size from by simp];exact(heap_alloc_new _ _).symm
theorem zom {w : World}{base n k : Nat}{e : TypeId}{v : Value}{xs : List Value}(h : w.ownsRow base e k v (n+1) xs): ∃ g cap,v = .slice (some ⟨g,0,none⟩) (n+1) cap:=by
 rcases h.2 with ⟨_,h0⟩|⟨g,cap,cur,hv,_⟩
 ·omega
 ·exact⟨g,cap,hv⟩
end Go.Proofs.YtacmoaeglbggjaaGreat
