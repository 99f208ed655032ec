/- A part of the proof. -/
import Derived.Test.YtacmoaeglbggjaaGreatQ09
namespace Go.Proofs.YtacmoaeglbggjaaGreat
open Go.RowKit
set_option linter.unusedSimpArgs false
set_option linter.unusedVariables false
set_option maxRecDepth 100000
set_option maxHeartbeats 16000000
def usesO (l : List Opd)(i : Nat): Bool:=l.any fun o=>decide (o.kind≠1)&&decide (o.pl.loc=(i : Int))
def usesC (c : Co)(i : Nat): Bool:=usesO (opsC c) i||(rdsC c).any fun x=>decide (x=(i : Int))
def setC (c : Co): Int:=match c with
 |.st s=>if s.kind=1∧whole s.pl=true then s.pl.loc else if s.kind=3 then s.loc else -1
 |.ju j=>if j.kind=4∧whole j.dest=true then j.dest.loc else -1
theorem zp4 {n : Nat}{c : Co}(hn : 1≤n)(h : CoOk n c): ∀ x∈rdsC c,0≤x∧x<(n : Int):=by
 intro x hx;cases c with
 |st s =>
  change x∈(if s.kind=1 then (if s.r.kind=4∨s.r.kind=5 then [s.r.pl.loc] else [])++(if whole s.pl then [] else [s.pl.loc]) else []) at hx;by_cases h1:s.kind=1
  ·rw[if_pos h1] at hx;rcases List.mem_append.1 hx with hx|hx
   ·split at hx
    ·rename_i h45;rw[List.mem_singleton] at hx;subst hx;exact h.ref s rfl h1 h45
    ·cases hx
   ·split at hx
    ·cases hx
    ·rw[List.mem_singleton] at hx;subst hx;exact h.tgt s.pl (by show (if s.kind=1 then some s.pl else none)=_;rw[if_pos h1])
  ·rw[if_neg h1] at hx;cases hx
 |ju j =>
  change x∈(if j.kind=4 then (if whole j.dest then [] else [j.dest.loc]) else if j.kind=3 then [0] else []) at hx;by_cases h4:j.kind=4
  ·rw[if_pos h4] at hx;split at hx
   ·cases hx
   ·rw[List.mem_singleton] at hx;subst hx;exact h.tgt j.dest (by show (if j.kind=4 then some j.dest else none)=_;rw[if_pos h4])
  ·rw[if_neg h4] at hx;split at hx
   ·rw[List.mem_singleton] at hx;subst hx;omega
   ·cases hx
theorem z0i {n : Nat}{c : Co}(hn : 1≤n)(h : CoOk n c){i : Nat}(hi : usesC c i=true): i<n:=by
 unfold usesC at hi;simp only[Bool.or_eq_true] at hi;rcases hi with hi|hi
 ·unfold usesO at hi;obtain⟨o,ho,hi⟩:=List.any_eq_true.1 hi;simp only[Bool.and_eq_true,decide_eq_true_eq] at hi;have:=h.ops o ho;omega
 ·obtain⟨x,hx,hi⟩:=List.any_eq_true.1 hi;simp only[decide_eq_true_eq] at hi;have:=zp4 hn h x hx;omega
theorem z2l {n : Nat}{c : Co}(hn : 1≤n)(h : CoOk n c): -1≤setC c∧setC c<(n : Int):=by
 cases c with
 |st s =>
  show -1≤(if s.kind=1∧whole s.pl=true then s.pl.loc else if s.kind=3 then s.loc else -1)∧(if s.kind=1∧whole s.pl=true then s.pl.loc else if s.kind=3 then s.loc else -1)<(n:Int);split
  ·rename_i h1;have:=h.tgt s.pl (by show (if s.kind=1 then some s.pl else none)=_;rw[if_pos h1.1]);omega
  ·split
   ·rename_i h3;have:=h.fresh s rfl h3;omega
   ·omega
 |ju j =>
  show -1≤(if j.kind=4∧whole j.dest=true then j.dest.loc else -1)∧(if j.kind=4∧whole j.dest=true then j.dest.loc else -1)<(n:Int);split
  ·rename_i h1;have:=h.tgt j.dest (by show (if j.kind=4 then some j.dest else none)=_;rw[if_pos h1.1]);omega
  ·omega
inductive Lv (f : Fn) (i : Nat) : Nat→Prop
 |use {q:Nat}:q<zb f→usesC (coF f q) i=true→Lv f i q
 |step {q r:Nat}:r∈nexts f q→setC (coF f q)≠(i:Int)→Lv f i r→Lv f i q
open Classical in
noncomputable def lvB (f : Fn)(i q : Nat): Bool:=decide (Lv f i q)
theorem zj1 (f : Fn)(i q : Nat): lvB f i q=true↔Lv f i q:=by unfold lvB;simp
theorem Lv.local {f : Fn}(h : fnErr f=0){i q : Nat}(hl : Lv f i q): i<f.locals.length:=by
 induction hl with
 |use hq hu=>exact z0i (zcc h).2.1 (za5 h hq) hu
 |step _ _ _ ih=>exact ih
noncomputable def liveM (f : Fn)(q : Nat): Nat→Bool:=fun i=>lvB f i q
def outL (f : Fn)(B : Nat→Nat→Bool)(q : Nat): Nat→Bool:=fun i=>(B q i&&!decide (setC (coF f q)=(i : Int)))||usesC (coF f q) i
structure LI (f : Fn)(O B : Nat→Nat→Bool)(W : Nat→Bool): Prop where
 sound:∀ q i,B q i=true→∃ r∈nexts f q,Lv f i r
 wlt:∀ q,W q=true→q<zb f
 outs:∀ q,q<zb f→W q=true∨(O q=outL f B q∧∀ p,q∈nexts f p→∀ i,O q i=true→B p i=true)
structure LJ (f : Fn)(c : Nat)(T : Nat→Bool)(L : List Nat)(O B : Nat→Nat→Bool)(W : Nat→Bool): Prop where
 sound:∀ q i,B q i=true→∃ r∈nexts f q,Lv f i r
 wlt:∀ q,W q=true→q<zb f
 cw:c<zb f
 here:O c=T
 mask:∀ i,T i=true→Lv f i c
 outs:∀ q,q<zb f→W q=true∨(O q=outL f B q∧∀ p,q∈nexts f p→∀ i,O q i=true→B p i=true)∨(q=c∧O q=outL f B q∧∀ p∈L,∀ i,T i=true→B p i=true)
theorem LI.pop {f : Fn}(h : fnErr f=0){O B : Nat→Nat→Bool}{W : Nat→Bool}{c : Nat}(s : LI f O B W)(hc : W c=true): LJ f c (outL f B c) [] (up O c (outL f B c)) B (up W c false) where
 sound:=s.sound
 wlt q hq:=by unfold up at hq;split at hq;cases hq;exact s.wlt q hq
 cw:=s.wlt c hc
 here:=zm ..
 mask i hi:=by
  unfold outL at hi;simp only[Bool.or_eq_true,Bool.and_eq_true,Bool.not_eq_true',decide_eq_false_iff_not] at hi;rcases hi with ⟨hb,hn⟩|hu
  ·obtain⟨r,hr,hl⟩:=s.sound c i hb;exact .step hr hn hl
  ·exact .use (s.wlt c hc) hu
 outs q hq:=by
  by_cases e:q=c
  ·subst e;exact Or.inr (Or.inr ⟨rfl,zm ..,fun p hp=>(List.not_mem_nil hp).elim⟩)
  ·rw[up_ne _ _ e,up_ne _ _ e];rcases s.outs q hq with hw|hw
   ·exact Or.inl hw
   ·exact Or.inr (Or.inl hw)
theorem LJ.keep {f : Fn}{c p : Nat}{T : Nat→Bool}{L : List Nat}{O B : Nat→Nat→Bool}{W : Nat→Bool}(s : LJ f c T L O B W)(hp : ∀ i,T i=true→B p i=true): LJ f c T (L++[p]) O B W:=by
 refine { s with outs:=fun q hq=>?_ };rcases s.outs q hq with hm|hm|⟨h3,h4,h5⟩
 ·exact Or.inl hm
 ·exact Or.inr (Or.inl hm)
 ·refine Or.inr (Or.inr ⟨h3,h4,fun r hr=>?_⟩);rcases List.mem_append.1 hr with hr|hr
  ·exact h5 r hr
  ·rw[List.mem_singleton] at hr;subst hr;exact hp
theorem LJ.put {f : Fn}(h : fnErr f=0){c p : Nat}{T : Nat→Bool}{L : List Nat}{O B : Nat→Nat→Bool}{W : Nat→Bool}(s : LJ f c T L O B W)(hp : c∈nexts f p): LJ f c T (L++[p]) O (up B p (fun i=>B p i||T i)) (up W p true):=by
 have hle:∀ r i,B r i=true→up B p (fun i=>B p i||T i) r i=true:=by
  intro r i hr;unfold up;split
  ·rename_i e;subst e;simp[hr]
  ·exact hr
 refine { sound:=?_,wlt:=?_,cw:=s.cw,here:=s.here,mask:=s.mask,outs:=?_ }
 ·intro q i hq;unfold up at hq;split at hq
  ·rename_i e;subst e;simp only[Bool.or_eq_true] at hq;rcases hq with hq|hq
   ·exact s.sound q i hq
   ·exact⟨c,hp,s.mask i hq⟩
  ·exact s.sound q i hq
 ·intro q hq;unfold up at hq;split at hq
  ·rename_i e;subst e;exact(zar h hp).1
  ·exact s.wlt q hq
 ·intro q hq;by_cases e:q=p
  ·subst e;exact Or.inl (zm ..)
  ·have e2:outL f (up B p (fun i=>B p i||T i)) q=outL f B q:=by unfold outL;rw[up_ne _ _ e]
   rw[up_ne _ _ e,e2];rcases s.outs q hq with hm|⟨h1,h2⟩|⟨h3,h4,h5⟩
   ·exact Or.inl hm
   ·exact Or.inr (Or.inl ⟨h1,fun r hr i hi=>hle r i (h2 r hr i hi)⟩)
   ·refine Or.inr (Or.inr ⟨h3,h4,fun r hr i hi=>?_⟩);rcases List.mem_append.1 hr with hr|hr
    ·exact hle r i (h5 r hr i hi)
    ·rw[List.mem_singleton] at hr;subst hr;rw[zm];simp[hi]
theorem LJ.done {f : Fn}{c : Nat}{T : Nat→Bool}{L : List Nat}{O B : Nat→Nat→Bool}{W : Nat→Bool}(s : LJ f c T L O B W)(hL : ∀ p,c∈nexts f p→p∈L): LI f O B W where
 sound:=s.sound
 wlt:=s.wlt
 outs q hq:=by
  rcases s.outs q hq with hm|hm|⟨h3,h4,h5⟩
  ·exact Or.inl hm
  ·exact Or.inr hm
  ·subst h3;exact Or.inr ⟨h4,fun p hp i hi=>h5 p (hL p hp) i (by rw[←s.here];exact hi)⟩
theorem LI.last {f : Fn}(h : fnErr f=0){O B : Nat→Nat→Bool}{W : Nat→Bool}(s : LI f O B W)(hW : ∀ q,W q=false){q : Nat}(hq : q<zb f): O q=liveM f q:=by
 have hout:∀ q,q<zb f→O q=outL f B q∧∀ p,q∈nexts f p→∀ i,O q i=true→B p i=true:=fun q hq=>by
  rcases s.outs q hq with hm|hm
  ·rw[hW q] at hm;cases hm
  ·exact hm
 have hlv:∀ i q,Lv f i q→O q i=true:=by
  intro i q hl;induction hl with
  |use hq hu=>rw[(hout _ hq).1];unfold outL;simp[hu]
  |step hr hn hl ih =>
   have hb:=(hout _ (zar h hr).2).2 _ hr i ih;rw[(hout _ (zar h hr).1).1];unfold outL;simp[hb,hn]
 funext i
 unfold liveM;cases e:O q i
 ·cases e2:lvB f i q
  ·rfl
  ·have:=hlv i q ((zj1 f i q).1 e2);rw[e] at this;cases this
 ·symm;rw[zj1]
  rw[(hout q hq).1] at e;unfold outL at e;simp only[Bool.or_eq_true,Bool.and_eq_true,Bool.not_eq_true',decide_eq_false_iff_not] at e;rcases e with ⟨hb,hn⟩|hu
  ·obtain⟨r,hr,hl⟩:=s.sound q i hb;exact .step hr hn hl
  ·exact .use hq hu
theorem LI.start (f : Fn)(O : Nat→Nat→Bool): LI f O (fun _ _=>false) (fun q=>decide (q<zb f)) where
 sound q i h:=by cases h
 wlt q h:=by simpa using h
 outs q hq:=Or.inl (by simpa using hq)
structure Rb (N : Nat)(act : Nat→Bool)(nx : Nat→List Nat)(P : Nat→Prop)(h0 : Nat→Bool)(c0 : Nat)(n : Nat)(h : Nat→Bool)(more : Bool): Prop where
 sound:∀ x,h x=true→P x
 old:∀ x,h0 x=true→h x=true
 clo:more=false→∀ m,n≤m→m<N→act m=true→∀ r∈nx m,h r=true→h m=true
 cnt:zj N h+more.toNat≤c0
theorem Rb.skip {N n : Nat}{act : Nat→Bool}{nx : Nat→List Nat}{P : Nat→Prop}{h0 h : Nat→Bool}{c0 : Nat}{more : Bool}(s : Rb N act nx P h0 c0 (n+1) h more)(hn : h n=true∨act n=false): Rb N act nx P h0 c0 n h more:=by
 refine { s with clo:=fun hm m hle hlt ha r hr hh=>?_ };by_cases e:m=n
 ·subst e;rcases hn with hn|hn
  ·exact hn
  ·rw[ha] at hn;cases hn
 ·exact s.clo hm m om hlt ha r hr hh
theorem Rb.put {N n : Nat}{act : Nat→Bool}{nx : Nat→List Nat}{P : Nat→Prop}{h0 h : Nat→Bool}{c0 : Nat}{more t : Bool}(s : Rb N act nx P h0 c0 (n+1) h more)(hlt : n<N)(hn : h n=false)(ht : t=(nx n).any h)(hP : ∀ r∈nx n,h r=true→P n):
  Rb N act nx P h0 c0 n (up h n t) (more||t):=by
 cases t
 ·have e:up h n false=h:=by funext x;unfold up;split;rename_i e;subst e;exact hn.symm;rfl
  rw[e,Bool.or_false];refine { s with clo:=fun hm m hle hlt ha r hr hh=>?_ };by_cases e:m=n
  ·subst e;have:=List.any_eq_false.1 ht.symm r hr;rw[hh] at this;exact absurd rfl this
  ·exact s.clo hm m om hlt ha r hr hh
 ·obtain⟨r,hr,hh⟩:=List.any_eq_true.1 ht.symm;refine { sound:=?_,old:=?_,clo:=fun hm=>by simp at hm,cnt:=?_ }
  ·intro x hx;unfold up at hx;split at hx
   ·rename_i e;subst e;exact hP r hr hh
   ·exact s.sound x hx
  ·intro x hx;unfold up;split;rfl;exact s.old x hx
  ·have:=zco (N:=N) hlt hn;have:=s.cnt;cases more<;>simp at *<;>omega
theorem Rb.again {N n : Nat}{act : Nat→Bool}{nx : Nat→List Nat}{P : Nat→Prop}{h0 h : Nat→Bool}{c0 : Nat}{more : Bool}(s : Rb N act nx P h0 c0 n h more): Rb N act nx P h0 (zj N h) N h false :=
 {sound:=s.sound,old:=s.old,clo:=fun _ m h1 h2=>by omega,cnt:=by simp }
theorem Rb.start {N : Nat}{act : Nat→Bool}{nx : Nat→List Nat}{P : Nat→Prop}{h0 : Nat→Bool}(hP : ∀ x,h0 x=true→P x): Rb N act nx P h0 (zj N h0+1) 0 h0 true :=
 {sound:=hP,old:=fun _ h=>h,clo:=fun h=>(Bool.noConfusion h),cnt:=by simp }
def lv0 (f : Fn)(i : Nat): Nat→Bool:=fun q=>decide (q<zb f)&&usesC (coF f q) i
theorem z2m {f : Fn}{i x : Nat}(h : lv0 f i x=true): Lv f i x:=by
 unfold lv0 at h;simp only[Bool.and_eq_true,decide_eq_true_eq] at h;exact .use h.1 h.2
def actV (f : Fn)(i : Nat)(n : Nat): Bool:=!decide (setC (coF f n)=(i : Int))
theorem zvx {f : Fn}(h : fnErr f=0){i : Nat}{hh : Nat→Bool}{c0 : Nat}(s : Rb (zb f) (actV f i) (nexts f) (Lv f i) (lv0 f i) c0 0 hh false)(q : Nat): hh q=lvB f i q:=by
 have hw:∀ q,Lv f i q→hh q=true:=by
  intro q hw;induction hw with
  |use hq hu=>exact s.old _ (by unfold lv0;simp[hq,hu])
  |step hr hn _ ih=>exact s.clo rfl _ (Nat.zero_le _) (zar h hr).1 (by unfold actV;simp[hn]) _ hr ih
 cases e:hh q
 ·cases e2:lvB f i q
  ·rfl
  ·have:=hw q ((zj1 f i q).1 e2);rw[e] at this;cases this
 ·exact((zj1 f i q).2 (s.sound q e)).symm
theorem zyc {N n i : Nat}{M : Nat→Nat→Bool}{T : Nat→Bool}(hn : n<N)(hi : i<16)(h1 : M n i=false)(h2 : T i=true): bitsM N (fun q i=>!up M n (fun i=>M n i||T i) q i)<bitsM N (fun q i=>!M q i):=by
 have e1:(n * 16+i) / 16=n:=om;have e2:(n * 16+i) % 16=i:=om;refine zdk (fun x _ hx=>?_) (a:=n * 16+i) (List.mem_range.2 om) ?_ ?_
 ·show (!M (x / 16) (x % 16))=true;replace hx:(!up M n (fun i=>M n i||T i) (x / 16) (x % 16))=true:=hx;unfold up at hx;split at hx
  ·rename_i e;rw[e];simp only[Bool.not_eq_true',Bool.or_eq_false_iff] at hx ⊢;exact hx.1
  ·exact hx
 ·show (!up M n (fun i=>M n i||T i) ((n * 16+i) / 16) ((n * 16+i) % 16))=false;rw[e1,e2,zm];simp[h1,h2]
 ·show (!M ((n * 16+i) / 16) ((n * 16+i) % 16))=true;rw[e1,e2];simp[h1]
def muL (N : Nat)(B : Nat→Nat→Bool)(W : Nat→Bool): Nat:=2 * bitsM N (fun q i=>!B q i)+(List.range N).countP W
theorem zyd {N n : Nat}{W : Nat→Bool}: (List.range N).countP (up W n true)≤(List.range N).countP W+1:=by
 have key:∀ l:List Nat,l.Nodup→l.countP (up W n true)≤l.countP W+1:=by
  intro l;induction l with
  |nil=>intro _;simp
  |cons a l ih =>
   intro hd;have hd2:=List.nodup_cons.1 hd;rw[List.countP_cons,List.countP_cons];by_cases e:a=n
   ·subst e;have:l.countP (up W a true)=l.countP W:=List.countP_congr fun x hx=>by
     have:x≠a:=fun e=>hd2.1 (by rw[←e];exact hx)
     rw[up_ne _ _ this]
    rw[this,zm];cases W a<;>simp
   ·rw[up_ne _ _ e];have:=ih hd2.2;omega
 exact key _ List.nodup_range
theorem z0j {N n : Nat}{B : Nat→Nat→Bool}{T W : Nat→Bool}(hn : n<N)(h : ∃ i,i<16∧B n i=false∧T i=true): muL N (up B n (fun i=>B n i||T i)) (up W n true)<muL N B W:=by
 obtain⟨i,hi,h1,h2⟩:=h;have:=zyc (N:=N) (M:=B) (T:=T) hn hi h1 h2
 have:=zyd (N:=N) (n:=n) (W:=W)
 unfold muL;omega
theorem z0k {N c : Nat}{B : Nat→Nat→Bool}{W : Nat→Bool}(hc : c<N)(h : W c=true): muL N B (up W c false)<muL N B W:=by
 unfold muL;have:(List.range N).countP (up W c false)<(List.range N).countP W:=zdk (fun x _ hx=>by
  unfold up at hx;split at hx;cases hx;exact hx) (a:=c) (List.mem_range.2 hc) (zm ..) h
 omega
def bL (n : Nat)(h : Nat→Bool): List Bool:=(List.range n).map h
theorem zdz (n : Nat)(h : Nat→Bool): (bL n h).length=n:=by simp[bL]
theorem zep {n i : Nat}(h : Nat→Bool)(hi : i<n): (bL n h)[i]?=some (h i):=by simp[bL,hi]
theorem zcv {n : Nat}{h k : Nat→Bool}(e : ∀ i,i<n→h i=k i): bL n h=bL n k:=List.map_congr_left fun i hi=>e i (List.mem_range.1 hi)
theorem zb1 {α : Type}(g : Nat→List α)(n : Nat): (List.range (n+1)).flatMap g=(List.range n).flatMap g++g n:=by rw[List.range_succ,List.flatMap_append];simp
def refB (f : Fn)(k : Int): Bool:=match f.locals[k.toNat]? with
 |some t=>decide (t.kind=3)||decide (t.kind=4)
 |none=>false
def loanC (q : Nat)(c : Co): List Lo:=match c with
 |.st s=>if s.kind=1∧s.r.kind=4 then [⟨q,s.r.pl,s.r.bo,if whole s.pl=true then s.pl.loc else -1⟩] else []
 |.ju _=>[]
def zy (f : Fn)(n : Nat): List Lo:=(List.range n).flatMap fun q=>loanC q (coF f q)
def zi (f : Fn): List Lo:=zy f (zb f)
theorem zbf (f : Fn)(n : Nat): zy f (n+1)=zy f n++loanC n (coF f n):=zb1 _ _
def lptC (q : Nat)(c : Co): List Int:=(loanC q c).map fun x=>x.at_
def lptP (f : Fn)(n : Nat): List Int:=(zy f n).map fun x=>x.at_
theorem zn1 (f : Fn)(n : Nat): lptP f (n+1)=lptP f n++lptC n (coF f n):=by unfold lptP lptC;rw[zbf,List.map_append]
theorem zye (q : Nat)(c : Co): (loanC q c).length≤1:=by
 cases c with
 |st s=>unfold loanC;simp only;split<;>simp
 |ju j=>simp[loanC]
theorem zas (f : Fn): ∀ n,(zy f n).length≤n
 |0=>by simp[zy]
 |n+1=>by rw[zbf,List.length_append];have:=zas f n;have:=zye n (coF f n);omega
theorem zn2 {f : Fn}{n : Nat}{x : Lo}(h : x∈zy f n): ∃ q,q<n∧x∈loanC q (coF f q):=by
 obtain⟨q,hq,hx⟩:=List.mem_flatMap.1 h;exact⟨q,List.mem_range.1 hq,hx⟩
def conC (f : Fn)(q k : Nat)(c : Co): List Cn:=match c with
 |.ju _=>[]
 |.st s =>
  if s.kind=1∧whole s.pl=true then
   if s.r.kind=4 then ⟨(f.locals.length:Int)+k,s.pl.loc,q,2⟩::(if s.r.pl.deref=true∧refB f s.r.pl.loc=true then [⟨s.r.pl.loc,s.pl.loc,q,3⟩] else [])
   else if s.r.kind=1∧s.r.a.kind≠1∧whole s.r.a.pl=true∧refB f s.r.a.pl.loc=true∧refB f s.pl.loc=true then [⟨s.r.a.pl.loc,s.pl.loc,q,1⟩] else []
  else []
def consP (f : Fn)(n : Nat): List Cn:=(List.range n).flatMap fun q=>conC f q (zy f q).length (coF f q)
def consL (f : Fn): List Cn:=consP f (zb f)
theorem zeq (f : Fn)(n : Nat): consP f (n+1)=consP f n++conC f n (zy f n).length (coF f n):=zb1 _ _
theorem zm9 (f : Fn)(q k : Nat)(c : Co): (conC f q k c).length≤2:=by
 cases c with
 |st s =>
  unfold conC;simp only;split
  ·split
   ·split<;>simp
   ·split<;>simp
  ·simp
 |ju j=>simp[conC]
theorem zg3 (f : Fn): ∀ n,(consP f n).length≤2 * n
 |0=>by simp[consP]
 |n+1=>by rw[zeq,List.length_append];have:=zg3 f n;have:=zm9 f n (zy f n).length (coF f n);omega
theorem zs7 {f : Fn}{q k : Nat}{c : Co}(h : CoOk f.locals.length c){x : Cn}(hx : x∈conC f q k c): 0≤x.to∧x.to<(f.locals.length : Int)∧0≤x.from_∧(x.from_<(f.locals.length : Int)∨(x.from_=(f.locals.length : Int)+k∧(loanC q c).length=1)):=by
 cases c with
 |ju j=>cases hx
 |st s =>
  unfold conC at hx;simp only at hx;by_cases h1:s.kind=1∧whole s.pl=true
  ·rw[if_pos h1] at hx;have ht:=h.tgt s.pl (by show (if s.kind=1 then some s.pl else none)=_;rw[if_pos h1.1]);by_cases h4:s.r.kind=4
   ·rw[if_pos h4] at hx;rcases List.mem_cons.1 hx with rfl|hx
    ·refine⟨ht.1,ht.2,by simp only;omega,Or.inr ⟨rfl,?_⟩⟩;unfold loanC;simp only;rw[if_pos ⟨h1.1,h4⟩];rfl
    ·split at hx
     ·rw[List.mem_singleton] at hx;subst hx;have hr:=h.ref s rfl h1.1 (Or.inl h4);exact⟨ht.1,ht.2,hr.1,Or.inl hr.2⟩
     ·cases hx
   ·rw[if_neg h4] at hx;split at hx
    ·rename_i h5;rw[List.mem_singleton] at hx;subst hx;have ho:=h.ops s.r.a (by show _∈(if s.kind=1 then ze s.r else if s.kind=3 then [] else [s.a]);rw[if_pos h1.1];unfold ze;rw[if_pos h5.1];simp);exact⟨ht.1,ht.2,ho.1,Or.inl ho.2.1⟩
    ·cases hx
  ·rw[if_neg h1] at hx;cases hx
theorem zrq (f : Fn){n m : Nat}(h : n≤m): (zy f n).length≤(zy f m).length:=by
 induction m with
 |zero =>
   obtain rfl:n=0:=om;exact Nat.le_refl _
 |succ m ih =>
  by_cases e:n=m+1
  ·subst e;exact Nat.le_refl _
  ·rw[zbf,List.length_append];have:=ih om;omega
theorem zyf {f : Fn}(h : fnErr f=0){x : Cn}(hx : x∈consL f): 0≤x.to∧x.to<(f.locals.length : Int)∧0≤x.from_∧x.from_<(f.locals.length : Int)+(zi f).length:=by
 obtain⟨q,hq,hx⟩:=List.mem_flatMap.1 hx;have hq:=List.mem_range.1 hq;obtain⟨h1,h2,h3,h4⟩:=zs7 (za5 h hq) hx;refine⟨h1,h2,h3,?_⟩;have hm:=zrq f (n:=q+1) (m:=zb f) hq;rw[zbf,List.length_append] at hm;unfold zi;rcases h4 with h4|⟨h4,h5⟩<;>omega
inductive Ld (l : List Cn) : Int→Int→Prop
 |refl (k:Int):Ld l k k
 |step {i:Int} {c:Cn}:c∈l→Ld l i c.to→Ld l i c.from_
def Sol (l : List Cn)(R : Nat)(base : Nat→Nat→Bool)(k q : Nat): Prop:=∃ i,i<R∧base i q=true∧Ld l i k
open Classical in
noncomputable def solB (l : List Cn)(R : Nat)(base : Nat→Nat→Bool)(k q : Nat): Bool:=decide (Sol l R base k q)
theorem zij (l : List Cn)(R : Nat)(base : Nat→Nat→Bool)(k q : Nat): solB l R base k q=true↔Sol l R base k q:=by unfold solB;simp
noncomputable def baseF (f : Fn)(k q : Nat): Bool:=decide (k<f.locals.length)&&(refB f k&&lvB f k q)
def regsN (f : Fn): Nat:=f.locals.length+(zi f).length
noncomputable def regB (f : Fn)(k q : Nat): Bool:=solB (consL f) (regsN f) (baseF f) k q
def killB (f : Fn)(x : Lo)(q : Nat): Bool:=x.pl.deref&&decide (setC (coF f q)=x.pl.loc)
def usesX (f : Fn)(x : Lo)(q : Nat): Bool:=decide (x.bo=3)&&(decide (0≤x.loc)&&usesC (coF f q) x.loc.toNat)
inductive Wy (f : Fn) (x : Lo) (reg : Nat→Bool) : Nat→Bool→Prop
 |first {r:Nat}:killB f x x.at_.toNat=false→r∈nexts f x.at_.toNat→reg r=true→Wy f x reg r false
 |step {q r:Nat} {u:Bool}:Wy f x reg q u→killB f x q=false→r∈nexts f q→reg r=true→Wy f x reg r (u||usesX f x q)
open Classical in
noncomputable def inB (f : Fn)(x : Lo)(reg : Nat→Bool)(q : Nat): Bool:=decide (∃ u,Wy f x reg q u)
open Classical in
noncomputable def usB (f : Fn)(x : Lo)(reg : Nat→Bool)(q : Nat): Bool:=decide (Wy f x reg q true)
theorem zs8 (f : Fn)(x : Lo)(reg : Nat→Bool)(q : Nat): inB f x reg q=true↔∃ u,Wy f x reg q u:=by unfold inB;simp
theorem zs9 (f : Fn)(x : Lo)(reg : Nat→Bool)(q : Nat): usB f x reg q=true↔Wy f x reg q true:=by unfold usB;simp
def cloW (f : Fn)(x : Lo)(reg In Us : Nat→Bool)(u : Bool)(q : Nat): Prop:=killB f x q=false→∀ r∈nexts f q,reg r=true→In r=true∧((u||usesX f x q)=true→Us r=true)
theorem cloW.le {f : Fn}{x : Lo}{reg In Us In' Us' : Nat→Bool}{u : Bool}{q : Nat}(h : cloW f x reg In Us u q)(h1 : ∀ r,In r=true→In' r=true)(h2 : ∀ r,Us r=true→Us' r=true): cloW f x reg In' Us' u q:=fun hk r hr hg=>⟨h1 r (h hk r hr hg).1,fun e=>h2 r ((h hk r hr hg).2 e)⟩
theorem cloW.low {f : Fn}{x : Lo}{reg In Us : Nat→Bool}{u : Bool}{q : Nat}(h : cloW f x reg In Us u q): cloW f x reg In Us false q:=fun hk r hr hg=>⟨(h hk r hr hg).1,fun e=>(h hk r hr hg).2 (by rw[Bool.or_eq_true];right;simpa using e)⟩
theorem up_le {h : Nat→Bool}{r : Nat}: ∀ q,h q=true→up h r true q=true:=fun q hq=>by unfold up;split;rfl;exact hq
structure WS (f : Fn)(x : Lo)(reg In Us : Nat→Bool)(P : List (Nat×Bool)): Prop where
 s1:∀ q,In q=true→∃ u,Wy f x reg q u
 s2:∀ q,Us q=true→Wy f x reg q true
 ui:∀ q,Us q=true→In q=true
 items:∀ p∈P,Wy f x reg p.1 p.2
 first:killB f x x.at_.toNat=false→∀ r∈nexts f x.at_.toNat,reg r=true→In r=true
 cI:∀ q,In q=true→(∃ u,(q,u)∈P)∨cloW f x reg In Us false q
 cU:∀ q,Us q=true→(q,true)∈P∨cloW f x reg In Us true q
structure WJ (f : Fn)(x : Lo)(reg : Nat→Bool)(c : Nat)(uu : Bool)(L : List Nat)(In Us : Nat→Bool)(P : List (Nat×Bool)): Prop where
 s1:∀ q,In q=true→∃ u,Wy f x reg q u
 s2:∀ q,Us q=true→Wy f x reg q true
 ui:∀ q,Us q=true→In q=true
 items:∀ p∈P,Wy f x reg p.1 p.2
 first:killB f x x.at_.toNat=false→∀ r∈nexts f x.at_.toNat,reg r=true→In r=true
 cw:∀ r∈nexts f c,reg r=true→Wy f x reg r uu
 hu:usesX f x c=true→uu=true
 cI:∀ q,In q=true→(∃ u,(q,u)∈P)∨cloW f x reg In Us false q∨q=c
 cU:∀ q,Us q=true→(q,true)∈P∨cloW f x reg In Us true q∨(q=c∧uu=true)
 part:∀ r∈L,reg r=true→In r=true∧(uu=true→Us r=true)
theorem WS.pop {f : Fn}{x : Lo}{reg In Us : Nat→Bool}{P : List (Nat×Bool)}{c : Nat}{u0 : Bool}(s : WS f x reg In Us ((c,u0)::P))(hk : killB f x c=false): WJ f x reg c (u0||usesX f x c) [] In Us P where
 s1:=s.s1
 s2:=s.s2
 ui:=s.ui
 items p hp:=s.items p (List.mem_cons_of_mem _ hp)
 first:=s.first
 cw r hr hg:=Wy.step (s.items (c,u0) (List.mem_cons_self ..)) hk hr hg
 hu h:=by simp[h]
 cI q hq:=by
  rcases s.cI q hq with ⟨u,h⟩|h
  ·rcases List.mem_cons.1 h with h|h
   ·injection h with h1 h2;exact Or.inr (Or.inr h1)
   ·exact Or.inl ⟨u,h⟩
  ·exact Or.inr (Or.inl h)
 cU q hq:=by
  rcases s.cU q hq with h|h
  ·rcases List.mem_cons.1 h with h|h
   ·injection h with h1 h2;exact Or.inr (Or.inr ⟨h1,by simp[←h2]⟩)
   ·exact Or.inl h
  ·exact Or.inr (Or.inl h)
 part r hr:=(List.not_mem_nil hr).elim
theorem WS.kill {f : Fn}{x : Lo}{reg In Us : Nat→Bool}{P : List (Nat×Bool)}{c : Nat}{u0 : Bool}(s : WS f x reg In Us ((c,u0)::P))(hk : killB f x c=true): WS f x reg In Us P where
 s1:=s.s1
 s2:=s.s2
 ui:=s.ui
 items p hp:=s.items p (List.mem_cons_of_mem _ hp)
 first:=s.first
 cI q hq:=by
  rcases s.cI q hq with ⟨u,h⟩|h
  ·rcases List.mem_cons.1 h with h|h
   ·injection h with h1 h2;subst h1;exact Or.inr fun e=>by rw[hk] at e;cases e
   ·exact Or.inl ⟨u,h⟩
  ·exact Or.inr h
 cU q hq:=by
  rcases s.cU q hq with h|h
  ·rcases List.mem_cons.1 h with h|h
   ·injection h with h1 h2;subst h1;exact Or.inr fun e=>by rw[hk] at e;cases e
   ·exact Or.inl h
  ·exact Or.inr h
theorem WJ.skip {f : Fn}{x : Lo}{reg In Us : Nat→Bool}{P : List (Nat×Bool)}{c r : Nat}{uu : Bool}{L : List Nat}(s : WJ f x reg c uu L In Us P)(h : reg r=false∨(uu=true∧Us r=true)∨(uu=false∧In r=true)): WJ f x reg c uu (L++[r]) In Us P:=by
 refine { s with part:=fun q hq hg=>?_ };rcases List.mem_append.1 hq with hq|hq
 ·exact s.part q hq hg
 ·rw[List.mem_singleton] at hq;subst hq;rcases h with h|⟨h1,h2⟩|⟨h1,h2⟩
  ·rw[hg] at h;cases h
  ·exact⟨s.ui q h2,fun _=>h2⟩
  ·exact⟨h2,fun e=>by rw[h1] at e;cases e⟩
theorem WJ.putU {f : Fn}{x : Lo}{reg In Us : Nat→Bool}{P : List (Nat×Bool)}{c r : Nat}{L : List Nat}(s : WJ f x reg c true L In Us P)(hr : r∈nexts f c)(hg : reg r=true): WJ f x reg c true (L++[r]) (up In r true) (up Us r true) (P++[(r,true)]) where
 s1 q hq:=by
  unfold up at hq;split at hq
  ·rename_i e;subst e;exact⟨true,s.cw _ hr hg⟩
  ·exact s.s1 q hq
 s2 q hq:=by
  unfold up at hq;split at hq
  ·rename_i e;subst e;exact s.cw _ hr hg
  ·exact s.s2 q hq
 ui q hq:=by
  unfold up at hq ⊢;split
  ·rfl
  ·rename_i e;rw[if_neg e] at hq;exact s.ui q hq
 items p hp:=by
  rcases List.mem_append.1 hp with hp|hp
  ·exact s.items p hp
  ·rw[List.mem_singleton] at hp;subst hp;exact s.cw _ hr hg
 first hk q hq hgq:=up_le q (s.first hk q hq hgq)
 cw:=s.cw
 hu:=s.hu
 cI q hq:=by
  by_cases e:q=r
  ·subst e;exact Or.inl ⟨true,by simp⟩
  ·rw[up_ne _ _ e] at hq;rcases s.cI q hq with ⟨u,h⟩|h|h
   ·exact Or.inl ⟨u,by simp[h]⟩
   ·exact Or.inr (Or.inl (h.le up_le up_le))
   ·exact Or.inr (Or.inr h)
 cU q hq:=by
  by_cases e:q=r
  ·subst e;exact Or.inl (by simp)
  ·rw[up_ne _ _ e] at hq;rcases s.cU q hq with h|h|h
   ·exact Or.inl (by simp[h])
   ·exact Or.inr (Or.inl (h.le up_le up_le))
   ·exact Or.inr (Or.inr h)
 part q hq hgq:=by
  rcases List.mem_append.1 hq with hq|hq
  ·have:=s.part q hq hgq;exact⟨up_le q this.1,fun e=>up_le q (this.2 e)⟩
  ·rw[List.mem_singleton] at hq;subst hq;exact⟨zm ..,fun _=>zm ..⟩
theorem WJ.putI {f : Fn}{x : Lo}{reg In Us : Nat→Bool}{P : List (Nat×Bool)}{c r : Nat}{L : List Nat}(s : WJ f x reg c false L In Us P)(hr : r∈nexts f c)(hg : reg r=true): WJ f x reg c false (L++[r]) (up In r true) Us (P++[(r,false)]) where
 s1 q hq:=by
  unfold up at hq;split at hq
  ·rename_i e;subst e;exact⟨false,s.cw _ hr hg⟩
  ·exact s.s1 q hq
 s2:=s.s2
 ui q hq:=up_le q (s.ui q hq)
 items p hp:=by
  rcases List.mem_append.1 hp with hp|hp
  ·exact s.items p hp
  ·rw[List.mem_singleton] at hp;subst hp;exact s.cw _ hr hg
 first hk q hq hgq:=up_le q (s.first hk q hq hgq)
 cw:=s.cw
 hu:=s.hu
 cI q hq:=by
  by_cases e:q=r
  ·subst e;exact Or.inl ⟨false,by simp⟩
  ·rw[up_ne _ _ e] at hq;rcases s.cI q hq with ⟨u,h⟩|h|h
   ·exact Or.inl ⟨u,by simp[h]⟩
   ·exact Or.inr (Or.inl (h.le up_le (fun _ h=>h)))
   ·exact Or.inr (Or.inr h)
 cU q hq:=by
  rcases s.cU q hq with h|h|h
  ·exact Or.inl (by simp[h])
  ·exact Or.inr (Or.inl (h.le up_le (fun _ h=>h)))
  ·exact Or.inr (Or.inr h)
 part q hq hgq:=by
  rcases List.mem_append.1 hq with hq|hq
  ·have:=s.part q hq hgq;exact⟨up_le q this.1,this.2⟩
  ·rw[List.mem_singleton] at hq;subst hq;exact⟨zm ..,fun e=>by cases e⟩
theorem WJ.done {f : Fn}{x : Lo}{reg In Us : Nat→Bool}{P : List (Nat×Bool)}{c : Nat}{uu : Bool}{L : List Nat}(s : WJ f x reg c uu L In Us P)(hL : ∀ r∈nexts f c,r∈L): WS f x reg In Us P where
 s1:=s.s1
 s2:=s.s2
 ui:=s.ui
 items:=s.items
 first:=s.first
 cI q hq:=by
  rcases s.cI q hq with h|h|h
  ·exact Or.inl h
  ·exact Or.inr h
  ·subst h;refine Or.inr fun hk r hr hg=>⟨(s.part r (hL r hr) hg).1,fun e=>(s.part r (hL r hr) hg).2 (s.hu (by simpa using e))⟩
 cU q hq:=by
  rcases s.cU q hq with h|h|⟨h,hu⟩
  ·exact Or.inl h
  ·exact Or.inr h
  ·subst h;exact Or.inr fun hk r hr hg=>⟨(s.part r (hL r hr) hg).1,fun e=>(s.part r (hL r hr) hg).2 hu⟩
structure WF (f : Fn)(x : Lo)(reg : Nat→Bool)(L : List Nat)(In : Nat→Bool)(P : List (Nat×Bool)): Prop where
 nk:killB f x x.at_.toNat=false
 s1:∀ q,In q=true→Wy f x reg q false
 items:∀ p∈P,Wy f x reg p.1 p.2
 cI:∀ q,In q=true→(q,false)∈P
 part:∀ r∈L,reg r=true→In r=true
theorem WF.start {f : Fn}{x : Lo}{reg : Nat→Bool}(nk : killB f x x.at_.toNat=false): WF f x reg [] (fun _=>false) [] :=
 ⟨nk,fun _ h=>(Bool.noConfusion h),fun _ h=>(List.not_mem_nil h).elim,fun _ h=>(Bool.noConfusion h),fun _ h=>(List.not_mem_nil h).elim⟩
theorem WF.skip {f : Fn}{x : Lo}{reg : Nat→Bool}{L : List Nat}{In : Nat→Bool}{P : List (Nat×Bool)}(s : WF f x reg L In P){r : Nat}(h : reg r=false∨In r=true): WF f x reg (L++[r]) In P:=by
 refine { s with part:=fun q hq hg=>?_ };rcases List.mem_append.1 hq with hq|hq
 ·exact s.part q hq hg
 ·rw[List.mem_singleton] at hq;subst hq;rcases h with h|h
  ·rw[hg] at h;cases h
  ·exact h
theorem WF.put {f : Fn}{x : Lo}{reg : Nat→Bool}{L : List Nat}{In : Nat→Bool}{P : List (Nat×Bool)}(s : WF f x reg L In P){r : Nat}(hr : r∈nexts f x.at_.toNat)(hg : reg r=true): WF f x reg (L++[r]) (up In r true) (P++[(r,false)]) where
 nk:=s.nk
 s1 q hq:=by
  unfold up at hq;split at hq
  ·rename_i e;subst e;exact .first s.nk hr hg
  ·exact s.s1 q hq
 items p hp:=by
  rcases List.mem_append.1 hp with hp|hp
  ·exact s.items p hp
  ·rw[List.mem_singleton] at hp;subst hp;exact .first s.nk hr hg
 cI q hq:=by
  by_cases e:q=r
  ·subst e;simp
  ·rw[up_ne _ _ e] at hq;simp[s.cI q hq]
 part q hq hgq:=by
  rcases List.mem_append.1 hq with hq|hq
  ·exact up_le q (s.part q hq hgq)
  ·rw[List.mem_singleton] at hq;subst hq;exact zm ..
theorem WF.done {f : Fn}{x : Lo}{reg : Nat→Bool}{L : List Nat}{In : Nat→Bool}{P : List (Nat×Bool)}(s : WF f x reg L In P)(hL : ∀ r∈nexts f x.at_.toNat,r∈L): WS f x reg In (fun _=>false) P where
 s1 q hq:=⟨false,s.s1 q hq⟩
 s2 q hq:=by cases hq
 ui q hq:=by cases hq
 items:=s.items
 first _ r hr hg:=s.part r (hL r hr) hg
 cI q hq:=Or.inl ⟨false,s.cI q hq⟩
 cU q hq:=by cases hq
theorem WS.none {f : Fn}{x : Lo}{reg : Nat→Bool}(hk : killB f x x.at_.toNat=true): WS f x reg (fun _=>false) (fun _=>false) [] where
 s1 q hq:=by cases hq
 s2 q hq:=by cases hq
 ui q hq:=by cases hq
 items p hp:=(List.not_mem_nil hp).elim
 first h:=by rw[hk] at h;cases h
 cI q hq:=by cases hq
 cU q hq:=by cases hq
theorem zvy {f : Fn}{x : Lo}{reg In Us : Nat→Bool}(first : killB f x x.at_.toNat=false→∀ r∈nexts f x.at_.toNat,reg r=true→In r=true)
  (cI:∀ q,In q=true→cloW f x reg In Us false q) (cU:∀ q,Us q=true→cloW f x reg In Us true q):∀ q u,Wy f x reg q u→In q=true∧(u=true→Us q=true):=by
 intro q u h;induction h with
 |first hk hr hg=>exact⟨first hk _ hr hg,fun e=>by cases e⟩
 |step hw hk hr hg ih =>
  rename_i q r u;refine⟨(cI q ih.1 hk r hr hg).1,fun e=>?_⟩;cases u
  ·exact(cI q ih.1 hk r hr hg).2 e
  ·exact(cU q (ih.2 rfl) hk r hr hg).2 e
theorem zvz {f : Fn}{x : Lo}{reg In Us : Nat→Bool}(s1 : ∀ q,In q=true→∃ u,Wy f x reg q u)(s2 : ∀ q,Us q=true→Wy f x reg q true)(all : ∀ q u,Wy f x reg q u→In q=true∧(u=true→Us q=true))(q : Nat): In q=inB f x reg q∧Us q=usB f x reg q:=by
 constructor
 ·cases e:In q
  ·cases e2:inB f x reg q
   ·rfl
   ·obtain⟨u,hu⟩:=(zs8 f x reg q).1 e2;have:=(all q u hu).1;rw[e] at this;cases this
  ·exact((zs8 f x reg q).2 (s1 q e)).symm
 ·cases e:Us q
  ·cases e2:usB f x reg q
   ·rfl
   ·have:=(all q true ((zs9 f x reg q).1 e2)).2 rfl;rw[e] at this;cases this
  ·exact((zs9 f x reg q).2 (s2 q e)).symm
theorem WS.last {f : Fn}{x : Lo}{reg In Us : Nat→Bool}(s : WS f x reg In Us [])(q : Nat): In q=inB f x reg q∧Us q=usB f x reg q :=
 zvz s.s1 s.s2 (zvy s.first (fun q hq=>(s.cI q hq).resolve_left (fun ⟨u,h⟩=>List.not_mem_nil h)) (fun q hq=>(s.cU q hq).resolve_left List.not_mem_nil)) q
def muW (N : Nat)(In Us : Nat→Bool)(P : List (Nat×Bool)): Nat:=2 * (zj N In+zj N Us)+P.length
theorem muW_U {N r : Nat}{In Us : Nat→Bool}{P : List (Nat×Bool)}(hr : r<N)(h : Us r=false): muW N (up In r true) (up Us r true) (P++[(r,true)])<muW N In Us P:=by
 unfold muW;have h1:=zco (N:=N) (h:=Us) hr h;have h2:=zii (N:=N) (n:=r) (h:=In);rw[List.length_append,List.length_singleton];omega
theorem muW_I {N r : Nat}{In Us : Nat→Bool}{P : List (Nat×Bool)}(hr : r<N)(h : In r=false): muW N (up In r true) Us (P++[(r,false)])<muW N In Us P:=by
 unfold muW;have h1:=zco (N:=N) (h:=In) hr h;rw[List.length_append,List.length_singleton];omega
structure Rx (f : Fn)(x : Lo)(reg : Nat→Bool)(N c0 n : Nat)(In Us : Nat→Bool)(more : Bool): Prop where
 s1:∀ q,In q=true→∃ u,Wy f x reg q u
 s2:∀ q,Us q=true→Wy f x reg q true
 ui:∀ q,Us q=true→In q=true
 first:more=false→x.at_.toNat<n→killB f x x.at_.toNat=false→∀ r∈nexts f x.at_.toNat,reg r=true→In r=true
 clo:more=false→∀ q,q<n→In q=true→cloW f x reg In Us (Us q) q
 cnt:zj N In+zj N Us+more.toNat≤c0
structure Ry (f : Fn)(x : Lo)(reg : Nat→Bool)(N c0 n : Nat)(was : Bool)(L : List Nat)(In Us : Nat→Bool)(more : Bool): Prop where
 base:Rx f x reg N c0 n In Us more
 c1:∀ r∈nexts f n,reg r=true→∃ u,Wy f x reg r u
 c2:was=true→∀ r∈nexts f n,reg r=true→Wy f x reg r true
 wasE:more=false→was=(Us n||(In n&&usesX f x n))
 here:more=false→∀ r∈L,reg r=true→In r=true∧(was=true→Us r=true)
def wasX (f : Fn)(x : Lo)(In Us : Nat→Bool)(n : Nat): Bool:=Us n||(In n&&usesX f x n)
theorem Rx.begin {f : Fn}{x : Lo}{reg : Nat→Bool}{N c0 n : Nat}{In Us : Nat→Bool}{more : Bool}(s : Rx f x reg N c0 n In Us more)(h : n=x.at_.toNat∨In n=true)(nk : killB f x n=false): Ry f x reg N c0 n (wasX f x In Us n) [] In Us more where
 base:=s
 c1 r hr hg:=by
  rcases h with h|h
  ·subst h;exact⟨false,.first nk hr hg⟩
  ·obtain⟨u,hu⟩:=s.s1 n h;exact⟨_,.step hu nk hr hg⟩
 c2 hw r hr hg:=by
  unfold wasX at hw;simp only[Bool.or_eq_true,Bool.and_eq_true] at hw;rcases hw with hw|⟨h1,h2⟩
  ·have:=Wy.step (s.s2 n hw) nk hr hg;simpa using this
  ·obtain⟨u,hu⟩:=s.s1 n h1;have:=Wy.step hu nk hr hg;rw[h2] at this;simpa using this
 wasE _:=rfl
 here _ r hr:=(List.not_mem_nil hr).elim
theorem Ry.skip {f : Fn}{x : Lo}{reg : Nat→Bool}{N c0 n : Nat}{was : Bool}{L : List Nat}{In Us : Nat→Bool}{more : Bool}(s : Ry f x reg N c0 n was L In Us more){r : Nat}(h : reg r=false): Ry f x reg N c0 n was (L++[r]) In Us more:=by
 refine { s with here:=fun hm q hq hg=>?_ };rcases List.mem_append.1 hq with hq|hq
 ·exact s.here hm q hq hg
 ·rw[List.mem_singleton] at hq;subst hq;rw[hg] at h;cases h
theorem Ry.step {f : Fn}{x : Lo}{reg : Nat→Bool}{N c0 n : Nat}{was : Bool}{L : List Nat}{In Us : Nat→Bool}{more : Bool}(s : Ry f x reg N c0 n was L In Us more){r : Nat}(hr : r∈nexts f n)(hg : reg r=true)(hN : r<N):
  Ry f x reg N c0 n was (L++[r]) (up In r true) (up Us r (Us r||was)) (more||(!In r||(was&&!Us r))):=by
 by_cases e:(!In r||(was&&!Us r))=false
 ·have h1:In r=true:=by cases h:In r<;>simp[h] at e ⊢
  have h2:was=true→Us r=true:=by intro hw;cases h:Us r<;>simp[h,hw] at e ⊢
  have e1:up In r true=In:=by funext q;unfold up;split;(rename_i e;subst e;exact h1.symm);rfl
  have e2:up Us r (Us r||was)=Us:=by
   funext q;unfold up;split
   ·rename_i e;subst e;cases hw:was
    ·simp
    ·rw[h2 hw];rfl
   ·rfl
  rw[e,e1,e2,Bool.or_false];refine { s with here:=fun hm q hq hg=>?_ };rcases List.mem_append.1 hq with hq|hq
  ·exact s.here hm q hq hg
  ·rw[List.mem_singleton] at hq;subst hq;exact⟨h1,h2⟩
 ·have e' : (!In r||(was&&!Us r))=true:=by cases h:(!In r||(was&&!Us r));exact absurd h e;rfl
  rw[e',Bool.or_true];refine { base:=?_,c1:=s.c1,c2:=s.c2,wasE:=fun h=>(Bool.noConfusion h),here:=fun h=>(Bool.noConfusion h) };refine { s1:=?_,s2:=?_,ui:=?_,first:=fun h=>(Bool.noConfusion h),clo:=fun h=>(Bool.noConfusion h),cnt:=?_ }
  ·intro q hq;unfold up at hq;split at hq
   ·rename_i e;subst e;exact s.c1 _ hr hg
   ·exact s.base.s1 q hq
  ·intro q hq;unfold up at hq;split at hq
   ·rename_i e;subst e;simp only[Bool.or_eq_true] at hq;rcases hq with hq|hq
    ·exact s.base.s2 _ hq
    ·exact s.c2 hq _ hr hg
   ·exact s.base.s2 q hq
  ·intro q hq;unfold up at hq ⊢;split
   ·rfl
   ·rename_i e;rw[if_neg e] at hq;exact s.base.ui q hq
  ·have hc:=s.base.cnt;have hI:=zii (N:=N) (n:=r) (h:=In);have hU:zj N (up Us r (Us r||was))≤zj N Us:=by
    refine zi8 fun q _ hq=>?_;unfold up at hq;split at hq
    ·rename_i e;subst e;simp only[Bool.not_eq_true',Bool.or_eq_false_iff] at hq ⊢;exact hq.1
    ·exact hq
   have key:zj N (up In r true)+zj N (up Us r (Us r||was))<zj N In+zj N Us:=by
    cases h:In r
    ·have:=zco (N:=N) (h:=In) hN h;omega
    ·rw[h] at e';simp at e';obtain⟨hw,hu⟩:=e';have:=zco (N:=N) (h:=Us) hN hu
     rw[hw,hu];simp only[Bool.or_true];omega
   cases more<;>simp at *<;>omega
theorem Ry.done {f : Fn}{x : Lo}{reg : Nat→Bool}{N c0 n : Nat}{was : Bool}{L : List Nat}{In Us : Nat→Bool}{more : Bool}(s : Ry f x reg N c0 n was L In Us more)(hL : ∀ r∈nexts f n,r∈L): Rx f x reg N c0 (n+1) In Us more:=by
 refine { s.base with first:=fun hm hlt hk r hr hg=>?_,clo:=fun hm q hq hi=>?_ }
 ·by_cases e:x.at_.toNat=n
  ·rw[e] at hr;exact(s.here hm r (hL r hr) hg).1
  ·exact s.base.first hm om hk r hr hg
 ·by_cases e:q=n
  ·subst e;intro hk r hr hg;refine⟨(s.here hm r (hL r hr) hg).1,fun hu=>(s.here hm r (hL r hr) hg).2 ?_⟩;rw[s.wasE hm,hi];simpa using hu
  ·exact s.base.clo hm q om hi
theorem Rx.skip {f : Fn}{x : Lo}{reg : Nat→Bool}{N c0 n : Nat}{In Us : Nat→Bool}{more : Bool}(s : Rx f x reg N c0 n In Us more)(h : (n≠x.at_.toNat∧In n=false)∨killB f x n=true): Rx f x reg N c0 (n+1) In Us more:=by
 refine { s with first:=fun hm hlt hk r hr hg=>?_,clo:=fun hm q hq hi=>?_ }
 ·by_cases e:x.at_.toNat=n
  ·rcases h with h|h
   ·exact absurd e.symm h.1
   ·rw[e,h] at hk;cases hk
  ·exact s.first hm om hk r hr hg
 ·by_cases e:q=n
  ·subst e;rcases h with h|h
   ·rw[hi] at h;cases h.2
   ·intro hk;rw[h] at hk;cases hk
  ·exact s.clo hm q om hi
theorem Rx.again {f : Fn}{x : Lo}{reg : Nat→Bool}{N c0 n : Nat}{In Us : Nat→Bool}{more : Bool}(s : Rx f x reg N c0 n In Us more): Rx f x reg N (zj N In+zj N Us) 0 In Us false :=
 { s with first:=fun _ h=>absurd h (Nat.not_lt_zero _),clo:=fun _ q h=>absurd h (Nat.not_lt_zero _),cnt:=by simp }
theorem Rx.start {f : Fn}{x : Lo}{reg : Nat→Bool}{N n : Nat}: Rx f x reg N (zj N (fun _=>false)+zj N (fun _=>false)+1) n (fun _=>false) (fun _=>false) true :=
 {s1:=fun q h=>(Bool.noConfusion h),s2:=fun q h=>(Bool.noConfusion h),ui:=fun q h=>(Bool.noConfusion h),first:=fun h=>(Bool.noConfusion h),clo:=fun h=>(Bool.noConfusion h),cnt:=by simp }
theorem Rx.last {f : Fn}(hok : fnErr f=0){x : Lo}{reg : Nat→Bool}{c0 : Nat}{In Us : Nat→Bool}(s : Rx f x reg (zb f) c0 (zb f) In Us false)(hat : x.at_.toNat<zb f)(q : Nat): In q=inB f x reg q∧Us q=usB f x reg q:=by
 have hlt:∀ q u,Wy f x reg q u→q<zb f:=fun q u h=>by
  cases h with
  |first _ hr _=>exact(zar hok hr).2
  |step _ _ hr _=>exact(zar hok hr).2
 have hin:∀ q,In q=true→q<zb f:=fun q hq=>by obtain⟨u,hu⟩:=s.s1 q hq;exact hlt q u hu
 exact zvz s.s1 s.s2 (zvy (fun hk=>s.first rfl hat hk) (fun q hq=>(s.clo rfl q (hin q hq) hq).low) (fun q hq=>by have:=s.clo rfl q (hin q (s.ui q hq)) (s.ui q hq);rw[hq] at this;exact this)) q
open Classical in
noncomputable def ldB (l : List Cn)(i x : Nat): Bool:=decide (Ld l (i : Int) (x : Int))
theorem zna (l : List Cn)(i x : Nat): ldB l i x=true↔Ld l (i : Int) (x : Int):=by unfold ldB;simp
structure Rc (l : List Cn)(N i0 c0 k : Nat)(h : Nat→Bool)(more : Bool): Prop where
 sound:∀ x,h x=true→Ld l (i0:Int) ((x:Nat):Int)
 old:h i0=true
 clo:more=false→∀ j,j<k→∀ c,l[j]?=some c→∀ t fr:Nat,c.to=(t:Int)→c.from_=(fr:Int)→h t=true→h fr=true
 cnt:zj N h+more.toNat≤c0
theorem Rc.skip {l : List Cn}{N i0 c0 k : Nat}{h : Nat→Bool}{more : Bool}(s : Rc l N i0 c0 k h more){c : Cn}{t fr : Nat}(hc : l[k]?=some c)(ht : c.to=(t : Int))(hf : c.from_=(fr : Int))(hn : h t=false∨h fr=true): Rc l N i0 c0 (k+1) h more:=by
 refine { s with clo:=fun hm j hj d hd t' fr' ht' hf' hh=>?_ };by_cases e:j=k
 ·subst e;rw[hc] at hd;injection hd with hd;subst hd;obtain rfl:t'=t:=om;obtain rfl:fr'=fr:=om;rcases hn with hn|hn
  ·rw[hh] at hn;cases hn
  ·exact hn
 ·exact s.clo hm j om d hd t' fr' ht' hf' hh
theorem Rc.put {l : List Cn}{N i0 c0 k : Nat}{h : Nat→Bool}{more : Bool}(s : Rc l N i0 c0 k h more){c : Cn}{t fr : Nat}(hc : l[k]?=some c)(ht : c.to=(t : Int))(hf : c.from_=(fr : Int))(h1 : h t=true)(h2 : h fr=false)(hN : fr<N): Rc l N i0 c0 (k+1) (up h fr true) true:=by
 refine { sound:=?_,old:=?_,clo:=fun hm=>(Bool.noConfusion hm),cnt:=?_ }
 ·intro x hx;unfold up at hx;split at hx
  ·rename_i e;subst e;rw[←hf];exact .step (List.mem_of_getElem? hc) (by rw[ht];exact s.sound t h1)
  ·exact s.sound x hx
 ·unfold up;split;rfl;exact s.old
 ·have:=zco (N:=N) (h:=h) hN h2;have:=s.cnt;cases more<;>simp at *<;>omega
theorem Rc.again {l : List Cn}{N i0 c0 k : Nat}{h : Nat→Bool}{more : Bool}(s : Rc l N i0 c0 k h more): Rc l N i0 (zj N h) 0 h false :=
 {sound:=s.sound,old:=s.old,clo:=fun _ j hj=>absurd hj (Nat.not_lt_zero _),cnt:=by simp }
theorem Rc.start {l : List Cn}{N i0 k : Nat}: Rc l N i0 (zj N (up (fun _=>false) i0 true)+1) k (up (fun _=>false) i0 true) true :=
 {sound:=(fun x hx=>by unfold up at hx;split at hx;(rename_i e;subst e;exact .refl _);cases hx),
  old:=zm ..,clo:=fun h=>(Bool.noConfusion h),cnt:=by simp }
theorem zv0 {l : List Cn}{N i0 c0 : Nat}{h : Nat→Bool}(hin : ∀ c∈l,∃ t fr : Nat,c.to=(t : Int)∧c.from_=(fr : Int))(s : Rc l N i0 c0 l.length h false)(x : Nat): h x=ldB l i0 x:=by
 have key:∀ y:Int,Ld l (i0:Int) y→∀ n:Nat,y=(n:Int)→h n=true:=by
  intro y hy;induction hy with
  |refl =>
    intro n hn;obtain rfl:i0=n:=om;exact s.old
  |@step c hc _ ih =>
   intro n hn;obtain⟨t,fr,h1,h2⟩:=hin c hc;obtain⟨j,hj,e⟩:=List.getElem_of_mem hc;exact s.clo rfl j hj c (by rw[←e];exact List.getElem?_eq_getElem hj) t n h1 hn (ih t h1)
 cases e:h x
 ·cases e2:ldB l i0 x
  ·rfl
  ·have:=key _ ((zna l i0 x).1 e2) x rfl;rw[e] at this;cases this
 ·exact((zna l i0 x).2 (s.sound x e)).symm
noncomputable def pSB (l : List Cn)(base : Nat→Nat→Bool): Nat→Nat→Nat→Bool
 |0,_,_=>false
 |i+1,k,q=>pSB l base i k q||(ldB l i k&&base i q)
theorem znb (l : List Cn)(base : Nat→Nat→Bool): ∀ i k q,pSB l base i k q=true↔∃ j,j<i∧base j q=true∧Ld l (j : Int) (k : Int)
 |0,k,q=>by simp[pSB]
 |i+1,k,q=>by
  unfold pSB;rw[Bool.or_eq_true,znb l base i k q,Bool.and_eq_true,zna];constructor
  ·rintro(⟨j,h1,h2⟩|⟨h1,h2⟩)
   ·exact⟨j,by omega,h2⟩
   ·exact⟨i,by omega,h2,h1⟩
  ·rintro⟨j,h1,h2,h3⟩;by_cases e:j=i
   ·subst e;exact Or.inr ⟨h3,h2⟩
   ·exact Or.inl ⟨j,by omega,h2,h3⟩
theorem z0l (l : List Cn)(R : Nat)(base : Nat→Nat→Bool)(k q : Nat): pSB l base R k q=solB l R base k q:=by
 cases e:pSB l base R k q
 ·cases e2:solB l R base k q
  ·rfl
  ·have:=(znb l base R k q).2 ((zij l R base k q).1 e2);rw[e] at this;cases this
 ·exact((zij l R base k q).2 ((znb l base R k q).1 e)).symm
def cloK (N : Nat)(M : Nat→Nat→Bool)(x : Cn): Prop:=∀ t fr : Nat,x.to=(t : Int)→x.from_=(fr : Int)→∀ q,q<N→M t q=true→M fr q=true
structure LS (l : List Cn)(R N : Nat)(base M : Nat→Nat→Bool)(P : List Int): Prop where
 sound:∀ k q,k<R→M k q=true→Sol l R base k q
 old:∀ k q,base k q=true→M k q=true
 plt:∀ x∈P,∃ k:Nat,x=(k:Int)∧k<R
 clo:∀ x∈l,x.to∈P∨cloK N M x
structure LT (l : List Cn)(R N : Nat)(base M : Nat→Nat→Bool)(P : List Int)(c : Nat)(L : List Int): Prop where
 sound:∀ k q,k<R→M k q=true→Sol l R base k q
 old:∀ k q,base k q=true→M k q=true
 plt:∀ x∈P,∃ k:Nat,x=(k:Int)∧k<R
 cR:c<R
 clo:∀ x∈l,x.to∈P∨((x.to=(c:Int)→x.from_∈L)→cloK N M x)
theorem LS.pop {l : List Cn}{R N : Nat}{base M : Nat→Nat→Bool}{P : List Int}{c : Nat}(s : LS l R N base M ((c : Int)::P)): LT l R N base M P c [] where
 sound:=s.sound
 old:=s.old
 plt x hx:=s.plt x (List.mem_cons_of_mem _ hx)
 cR:=by obtain⟨k,e,hk⟩:=s.plt c (List.mem_cons_self ..);omega
 clo x hx:=by
  rcases s.clo x hx with h|h
  ·rcases List.mem_cons.1 h with h|h
   ·exact Or.inr fun h2=>(List.not_mem_nil (h2 h)).elim
   ·exact Or.inl h
  ·exact Or.inr fun _=>h
theorem LT.keep {l : List Cn}{R N : Nat}{base M : Nat→Nat→Bool}{P : List Int}{c : Nat}{L : List Int}(s : LT l R N base M P c L){fr : Nat}(h : ∀ q,q<N→M c q=true→M fr q=true): LT l R N base M P c (L++[(fr : Int)]):=by
 refine { s with clo:=fun x hx=>?_ };rcases s.clo x hx with hm|hm
 ·exact Or.inl hm
 ·refine Or.inr fun h2=>?_;by_cases e:x.to=(c:Int)∧x.from_=(fr:Int)
  ·intro t f2 h3 h4;obtain rfl:t=c:=om;obtain rfl:f2=fr:=om;exact h
  ·refine hm fun h3=>?_;rcases List.mem_append.1 (h2 h3) with h4|h4
   ·exact h4
   ·rw[List.mem_singleton] at h4;exact absurd ⟨h3,h4⟩ e
def joinM (M : Nat→Nat→Bool)(fr c : Nat): Nat→Nat→Bool:=up M fr (fun q=>M fr q||M c q)
theorem LT.put {l : List Cn}{R N : Nat}{base M : Nat→Nat→Bool}{P : List Int}{c : Nat}{L : List Int}(s : LT l R N base M P c L){fr : Nat}(hfr : fr<R)(hne : fr≠c){y : Cn}(hy : y∈l)(h1 : y.to=(c : Int))(h2 : y.from_=(fr : Int)):
  LT l R N base (joinM M fr c) (P++[(fr:Int)]) c (L++[(fr:Int)]):=by
 have hle:∀ k q,M k q=true→joinM M fr c k q=true:=fun k q h=>by
  unfold joinM up;split
  ·rename_i e;subst e;simp[h]
  ·exact h
 refine { sound:=?_,old:=fun k q h=>hle k q (s.old k q h),plt:=?_,cR:=s.cR,clo:=?_ }
 ·intro k q hk h;unfold joinM up at h;split at h
  ·rename_i e;subst e;simp only[Bool.or_eq_true] at h;rcases h with h|h
   ·exact s.sound k q hk h
   ·obtain⟨i,hi,hb,hl⟩:=s.sound c q s.cR h;exact⟨i,hi,hb,by rw[←h2];exact .step hy (by rw[h1];exact hl)⟩
  ·exact s.sound k q hk h
 ·intro x hx;rcases List.mem_append.1 hx with hx|hx
  ·exact s.plt x hx
  ·rw[List.mem_singleton] at hx;exact⟨fr,hx,hfr⟩
 ·intro x hx;by_cases e:x.to=(fr:Int)
  ·exact Or.inl (by simp[e])
  ·rcases s.clo x hx with hm|hm
   ·exact Or.inl (by simp[hm])
   ·refine Or.inr fun h3 t f2 h4 h5 q hq h6=>?_;have ht:joinM M fr c t=M t:=by unfold joinM;rw[up_ne];omega
    rw[ht] at h6;by_cases e2:x.to=(c:Int)∧x.from_=(fr:Int)
    ·obtain rfl:t=c:=om;obtain rfl:f2=fr:=om;unfold joinM;rw[zm];simp[h6]
    ·refine hle f2 q (hm (fun h7=>?_) t f2 h4 h5 q hq h6);rcases List.mem_append.1 (h3 h7) with h8|h8
     ·exact h8
     ·rw[List.mem_singleton] at h8;exact absurd ⟨h7,h8⟩ e2
theorem LT.done {l : List Cn}{R N : Nat}{base M : Nat→Nat→Bool}{P : List Int}{c : Nat}{L : List Int}(s : LT l R N base M P c L)(hL : ∀ x∈l,x.to=(c : Int)→x.from_∈L): LS l R N base M P where
 sound:=s.sound
 old:=s.old
 plt:=s.plt
 clo x hx:=by
  rcases s.clo x hx with h|h
  ·exact Or.inl h
  ·exact Or.inr (h (hL x hx))
theorem LS.last {l : List Cn}{R N : Nat}{base M : Nat→Nat→Bool}(hin : ∀ c∈l,∃ t fr : Nat,c.to=(t : Int)∧c.from_=(fr : Int))(s : LS l R N base M []){k q : Nat}(hk : k<R)(hq : q<N): M k q=solB l R base k q:=by
 have hclo:∀ x∈l,cloK N M x:=fun x hx=>by
  rcases s.clo x hx with h|h
  ·cases h
  ·exact h
 have key:∀ (i:Nat) (y:Int),Ld l (i:Int) y→base i q=true→∀ n:Nat,y=(n:Int)→M n q=true:=by
  intro i y hy hb;induction hy with
  |refl =>
    intro n hn;obtain rfl:i=n:=om;exact s.old i q hb
  |@step c hc _ ih =>
   intro n hn;obtain⟨t,fr,h1,h2⟩:=hin c hc;exact hclo c hc t n h1 hn q hq (ih t h1)
 cases e:M k q
 ·cases e2:solB l R base k q
  ·rfl
  ·obtain⟨i,hi,hb,hl⟩:=(zij l R base k q).1 e2;have:=key i _ hl hb k rfl;rw[e] at this;cases this
 ·exact((zij l R base k q).2 (s.sound k q hk e)).symm
theorem LS.start {l : List Cn}{R N : Nat}{base : Nat→Nat→Bool}(hin : ∀ c∈l,∃ t : Nat,c.to=(t : Int)∧t<R): LS l R N base base ((List.range R).map fun i=>((i : Nat) : Int)) where
 sound k q hk h:=⟨k,hk,h,.refl _⟩
 old k q h:=h
 plt x hx:=by obtain⟨i,hi,rfl⟩:=List.mem_map.1 hx;exact⟨i,rfl,List.mem_range.1 hi⟩
 clo x hx:=by obtain⟨t,h1,h2⟩:=hin x hx;exact Or.inl (List.mem_map.2 ⟨t,List.mem_range.2 h2,h1.symm⟩)
def bitsR (R N : Nat)(M : Nat→Nat→Bool): Nat:=(List.range (R * N)).countP fun j=>!M (j / N) (j % N)
theorem zyg {R N k q : Nat}{M : Nat→Nat→Bool}{c : Nat}(hk : k<R)(hq : q<N)(h1 : M k q=false)(h2 : M c q=true): bitsR R N (joinM M k c)<bitsR R N M:=by
 have e1:(k * N+q) / N=k:=by rw[Nat.mul_comm,Nat.mul_add_div om,Nat.div_eq_of_lt hq,Nat.add_zero]
 have e2:(k * N+q) % N=q:=by rw[Nat.mul_comm,Nat.mul_add_mod,Nat.mod_eq_of_lt hq]
 refine zdk (fun x _ hx=>?_) (a:=k * N+q) (List.mem_range.2 ?_) ?_ ?_
 ·show (!M (x / N) (x % N))=true;replace hx:(!joinM M k c (x / N) (x % N))=true:=hx;unfold joinM up at hx;split at hx
  ·rename_i e;rw[e];simp only[Bool.not_eq_true',Bool.or_eq_false_iff] at hx ⊢;exact hx.1
  ·exact hx
 ·have:(k+1) * N≤R * N:=Nat.mul_le_mul_right N hk
  rw[Nat.add_mul] at this;omega
 ·show (!joinM M k c ((k * N+q) / N) ((k * N+q) % N))=false;rw[e1,e2];unfold joinM;rw[zm];simp[h2]
 ·show (!M ((k * N+q) / N) ((k * N+q) % N))=true;rw[e1,e2];simp[h1]
def byL (l : List Cn)(t : Nat): List Int:=(l.filter fun c=>decide (c.to=(t : Int))).map fun c=>c.from_
theorem zta (l : List Cn)(t : Nat)(x : Int): x∈byL l t↔∃ c∈l,c.to=(t : Int)∧c.from_=x:=by
 unfold byL;simp only[List.mem_map,List.mem_filter,decide_eq_true_eq];constructor
 ·rintro⟨c,⟨h1,h2⟩,h3⟩;exact⟨c,h1,h2,h3⟩
 ·rintro⟨c,h1,h2,h3⟩;exact⟨c,⟨h1,h2⟩,h3⟩
theorem zyh {l : List Cn}{k : Nat}{c : Cn}(h : l[k]?=some c){t : Nat}(ht : c.to=(t : Int)): byL (l.take (k+1))=up (byL (l.take k)) t (byL (l.take k) t++[c.from_]):=by
 funext i
 unfold byL;rw[List.take_add_one,h,Option.toList_some,List.filter_append,List.map_append];by_cases e:i=t
 ·subst e;rw[zm];congr 1;simp[List.filter,ht]
 ·rw[up_ne _ _ e];simp[List.filter,ht];rw[decide_eq_false om]
theorem ztb (l : List Cn)(t : Nat): (byL l t).length≤l.length:=by unfold byL;rw[List.length_map];exact List.length_filter_le ..
def ptrB (f : Fn)(k : Int): Bool:=match f.locals[k.toNat]? with
 |some t=>decide (3≤t.kind)
 |none=>false
def tchO1 (f : Fn)(o : Opd): List Th:=if o.kind=2 then [⟨o.pl,false,!(whole o.pl&&ptrB f o.pl.loc)⟩] else if o.kind=3 then [⟨o.pl,true,true⟩] else []
def tchO (f : Fn)(l : List Opd): List Th:=l.flatMap (tchO1 f)
theorem zn3 (f : Fn){l : List Opd}{k : Nat}{o : Opd}(h : Hid (l[k]?=some o)): tchO f (l.take (k+1))=tchO f (l.take k)++tchO1 f o:=by
 unfold tchO;rw[List.take_add_one,h.out];simp
theorem zdl (f : Fn)(l : List Opd): (tchO f l).length≤l.length:=by
 induction l with
 |nil=>simp[tchO]
 |cons o l ih =>
  have h1:(tchO1 f o).length≤1:=by unfold tchO1;split;simp;split<;>simp
  have h2:tchO f (o::l)=tchO1 f o++tchO f l:=rfl;rw[h2,List.length_append,List.length_cons];omega
def tchS (f : Fn)(s : St): List Th:=if s.kind=3 then [⟨⟨s.loc,false,0⟩,true,false⟩] else if s.kind=1 then tchO f (ze s.r)++(if s.r.kind=4∨s.r.kind=5 then [⟨s.r.pl,decide (s.r.kind=5)||decide (s.r.bo=2),true⟩] else [])++[⟨s.pl,true,false⟩] else tchO f [s.a]
def tchJ (f : Fn)(j : Ju): List Th:=if j.kind=2 then tchO f [j.a] else if j.kind=3 then [⟨⟨0,false,0⟩,false,true⟩] else if j.kind=4 then tchO f j.args++[⟨j.dest,true,false⟩] else []
def tchC (f : Fn): Co→List Th
 |.st s=>tchS f s
 |.ju j=>tchJ f j
def meetB (p q : Pl): Bool:=decide (p.loc=q.loc)&&(decide (p.deref=q.deref)&&(decide (p.field≠2)&&decide (q.field≠2)||decide (p.field≠1)&&decide (q.field≠1)))
def behB (p q : Pl): Bool:=whole p&&(q.deref&&decide (q.loc=p.loc))
def confB (t : Th)(x : Lo)(u : Bool): Bool :=
 ((meetB t.pl x.pl||(t.deep&&behB t.pl x.pl))&&(t.write||(decide (x.bo=2)||(decide (x.bo=3)&&u))))||(t.write&&(!t.deep&&(decide (x.bo=3)&&(!u&&behB t.pl x.pl))))
def agaL (l : List Lo)(In Us : Nat→Bool)(q : Nat)(t : Th)(but : Int)(k : Nat): List Cl:=(List.range k).flatMap fun (i : Nat)=>match l[i]? with
 |some x=>if decide ((i:Int)≠but)&&(In i&&confB t x (Us i)) then [(⟨((q:Nat):Int),((i:Nat):Int),t⟩:Cl)] else []
 |none=>[]
theorem zi9 (l : List Lo)(In Us : Nat→Bool)(q : Nat)(t : Th)(but : Int){k : Nat}{x : Lo}(h : l[k]?=some x): agaL l In Us q t but (k+1)=agaL l In Us q t but k++(if decide ((k : Int)≠but)&&(In k&&confB t x (Us k)) then [(⟨((q : Nat) : Int),((k : Nat) : Int),t⟩ : Cl)] else []):=by
 unfold agaL;rw[zb1,h]
theorem zgj (l : List Lo)(In Us : Nat→Bool)(q : Nat)(t : Th)(but : Int): ∀ k,(agaL l In Us q t but k).length≤k
 |0=>by simp[agaL]
 |k+1=>by
  have ih:=zgj l In Us q t but k;unfold agaL at ih ⊢;rw[zb1,List.length_append];have:(match l[k]? with|some x=>if decide ((k:Int)≠but)&&(In k&&confB t x (Us k)) then [(⟨((q:Nat):Int),((k:Nat):Int),t⟩:Cl)] else []|none=>[]).length≤1:=by
   cases l[k]? with
   |none=>simp
   |some x=>simp only;split<;>simp
  omega
def tch2 (x : Lo): Th:=⟨x.pl,true,true⟩
def twoL (f : Fn)(l : List Lo)(In Us : Nat→Bool)(q : Nat)(k : Nat): List Cl:=(List.range k).flatMap fun (i : Nat)=>match l[i]? with
 |some x=>if decide (x.bo=3)&&(In i&&usesC (coF f q) x.loc.toNat) then agaL l In Us q (tch2 x) i l.length else []
 |none=>[]
theorem zn4 (f : Fn)(l : List Lo)(In Us : Nat→Bool)(q : Nat){k : Nat}{x : Lo}(h : l[k]?=some x): twoL f l In Us q (k+1)=twoL f l In Us q k++(if decide (x.bo=3)&&(In k&&usesC (coF f q) x.loc.toNat) then agaL l In Us q (tch2 x) k l.length else []):=by
 unfold twoL;rw[zb1,h]
theorem zik (f : Fn)(l : List Lo)(In Us : Nat→Bool)(q : Nat): ∀ k,(twoL f l In Us q k).length≤k * l.length
 |0=>by simp[twoL]
 |k+1=>by
  have ih:=zik f l In Us q k;have:(match l[k]? with|some x=>if decide (x.bo=3)&&(In k&&usesC (coF f q) x.loc.toNat) then agaL l In Us q (tch2 x) k l.length else []|none=>[]).length≤l.length:=by
   cases l[k]? with
   |none=>simp
   |some x=>simp only;split;exact zgj ..;simp
  unfold twoL at ih ⊢;rw[zb1,List.length_append,Nat.add_mul];omega
def oneL (l : List Lo)(In Us : Nat→Bool)(q : Nat)(ts : List Th): List Cl:=ts.flatMap fun t=>agaL l In Us q t (-1) l.length
theorem zn5 (l : List Lo)(In Us : Nat→Bool)(q : Nat){ts : List Th}{k : Nat}{t : Th}(h : ts[k]?=some t): oneL l In Us q (ts.take (k+1))=oneL l In Us q (ts.take k)++agaL l In Us q t (-1) l.length:=by
 unfold oneL;rw[List.take_add_one,h];simp
theorem zk9 (l : List Lo)(In Us : Nat→Bool)(q : Nat)(ts : List Th): (oneL l In Us q ts).length≤ts.length * l.length:=by
 induction ts with
 |nil=>simp[oneL]
 |cons t ts ih =>
  have h2:oneL l In Us q (t::ts)=agaL l In Us q t (-1) l.length++oneL l In Us q ts:=rfl;have:=zgj l In Us q t (-1) l.length
  rw[h2,List.length_append,List.length_cons,Nat.add_mul];omega
noncomputable def inF (f : Fn)(k q : Nat): Bool:=match (zi f)[k]? with
 |some x=>inB f x (regB f (f.locals.length+k)) q
 |none=>false
noncomputable def usF (f : Fn)(k q : Nat): Bool:=match (zi f)[k]? with
 |some x=>usB f x (regB f (f.locals.length+k)) q
 |none=>false
noncomputable def ptC (f : Fn)(q : Nat): List Cl:=oneL (zi f) (fun k=>inF f k q) (fun k=>usF f k q) q (tchC f (coF f q))++twoL f (zi f) (fun k=>inF f k q) (fun k=>usF f k q) q (zi f).length
noncomputable def claP (f : Fn)(n : Nat): List Cl:=(List.range n).flatMap (ptC f)
noncomputable def claL (f : Fn): List Cl:=claP f (zb f)
theorem zja (f : Fn)(n : Nat): claP f (n+1)=claP f n++ptC f n:=zb1 _ _
set_option linter.unusedVariables false
structure BI (f : Fn)(i : Nat)(L : List Nat)(B : Nat→List Int): Prop where
 mem:∀ c x,x∈B c→∃ p:Nat,x=(p:Int)∧c∈nexts f p
 all:∀ c p,p<i→c∈nexts f p→(p:Int)∈B c
 part:∀ c∈L,(i:Int)∈B c
 len:∀ c,(B c).length≤2 * i+L.length
theorem BI.start (f : Fn): BI f 0 [] (fun _=>[]) where
 mem c x h:=(List.not_mem_nil h).elim
 all c p h:=absurd h (Nat.not_lt_zero _)
 part c h:=(List.not_mem_nil h).elim
 len c:=by simp
theorem BI.put {f : Fn}{i c : Nat}{L : List Nat}{B : Nat→List Int}(h : BI f i L B)(hc : c∈nexts f i): BI f i (L++[c]) (up B c (B c++[(i : Int)])) where
 mem d x hx:=by
  by_cases e:d=c
  ·subst e;rw[zm] at hx;rcases List.mem_append.1 hx with hx|hx
   ·exact h.mem d x hx
   ·rw[List.mem_singleton] at hx;exact⟨i,hx,hc⟩
  ·rw[up_ne _ _ e] at hx;exact h.mem d x hx
 all d p hp hd:=by
  have:=h.all d p hp hd
  by_cases e:d=c
  ·subst e;rw[zm];exact List.mem_append_left _ this
  ·rw[up_ne _ _ e];exact this
 part d hd:=by
  by_cases e:d=c
  ·subst e;rw[zm];simp
  ·rw[up_ne _ _ e];rcases List.mem_append.1 hd with hd|hd
   ·exact h.part d hd
   ·rw[List.mem_singleton] at hd;exact absurd hd e
 len d:=by
  have:=h.len d
  by_cases e:d=c
  ·subst e;rw[zm];simp;omega
  ·rw[up_ne _ _ e];simp;omega
theorem BI.next {f : Fn}{i : Nat}{L : List Nat}{B : Nat→List Int}(h : BI f i L B)(hL : ∀ c,c∈nexts f i→c∈L)(hl : L.length≤2): BI f (i+1) [] B where
 mem:=h.mem
 all c p hp hc:=by
  by_cases e:p=i
  ·subst e;exact h.part c (hL c hc)
  ·exact h.all c p om hc
 part c hc:=(List.not_mem_nil hc).elim
 len c:=by have:=h.len c;simp;omega
theorem z1b {f : Fn}{B : Nat→Nat→Bool}{q : Nat}{z : Int}(hz : setC (coF f q)=z): outL f B q=fun i=>(B q i&&!decide (z=(i : Int)))||usesC (coF f q) i:=by
 funext i;unfold outL;rw[hz]
theorem zw5 {N : Nat}{W : Nat→Bool}: muL N (fun _ _=>false) W≤33 * N:=by
 unfold muL bitsM;have h1:=List.countP_le_length (p:=fun j=>(fun q i=>!(fun _ _=>false:Nat→Nat→Bool) q i) (j / 16) (j % 16)) (l:=List.range (N * 16));have h2:=List.countP_le_length (p:=W) (l:=List.range N);simp only[List.length_range] at h1 h2;simp only at h1 ⊢;omega
end Go.Proofs.YtacmoaeglbggjaaGreat
