/- A part of the proof. -/
import Derived.Test.YtacmoaeglbggjaaGreatRows
import Derived.WalkKit
import Derived.WalkSpells
import Derived.WalkLawsBesides
import Derived.Deep.QuietTactic
import Derived.BigQuiet
import Derived.Lib.Hide
import Derived.Deep.MidRow
import Derived.Deep.Light
namespace Go.Proofs.YtacmoaeglbggjaaGreat
open Go.RowKit
set_option linter.unusedSimpArgs false
set_option linter.unusedVariables false
set_option maxRecDepth 100000
set_option maxHeartbeats 16000000
set_option linter.unusedVariables false
theorem om {p : Prop}(h : p:=by first|omega|(simp only[List.length_append,List.length_cons,List.length_nil];omega)): p:=h
theorem me {p : Prop}(h : p:=by simp[intOf];omega): p:=h
theorem cel {p : Prop}(h : p:=by (repeat (refine zad.cons (by go_simp) ?_));exact zad.nil _ _ _): p:=h
def Grow (w w' : World): Prop:=Below w.heap.size w w'
theorem Grow.refl (w : World): Grow w w:=Below.refl _ _
theorem Grow.trans {a b c : World}(h : Grow a b)(k : Grow b c): Grow a c:=Below.trans h (Below.mono k h.size)
theorem Grow.alloc {a b : World}(h : Grow a b)(o : Obj): Grow a (b.alloc o):=Below.alloc h h.size o
theorem Grow.drew {a b : World}(h : Grow a b): Grow a b.drew:=Below.drew h
theorem Grow.setCell {a b : World}(h : Grow a b){p : Addr}(hp : a.heap.size≤p.block)(u : Value): Grow a (b.setCell p u):=Below.setCell h hp u
theorem Grow.size {a b : World}(h : Grow a b): a.heap.size≤b.heap.size:=Below.size h
theorem zav (w : World)(o : Obj): (w.alloc o).heap.size=w.heap.size+1:=by simp
structure Ext where
 d:Nat
 x:Array Obj
instance : Inhabited Ext:=⟨⟨0,#[]⟩⟩
def ext (W : World)(x : Ext): World:={ W with heap:=W.heap++x.x,drawn:=x.d }
theorem zw (W : World)(x : Ext): Grow W (ext W x) :=
 ⟨rfl,rfl,rfl,by simp[ext],fun k hk=>by simp only[ext];rw[Array.getElem?_append_left hk]⟩
theorem za {W w : World}(h : Grow W w): ∃ x,w=ext W x:=by
 refine⟨⟨w.drawn,w.heap.extract W.heap.size w.heap.size⟩,?_⟩;have e:w.heap=W.heap++w.heap.extract W.heap.size w.heap.size:=by
  apply Array.ext_getElem?;intro i;by_cases hi:i<W.heap.size
  ·rw[Array.getElem?_append_left hi];exact h.block i hi
  ·rw[Array.getElem?_append_right om];by_cases hj:i<w.heap.size
   ·rw[Array.getElem?_extract,if_pos om];congr 1;omega
   ·rw[Array.getElem?_eq_none om,Array.getElem?_eq_none (by simp;omega)]
 have h1:=h.os;have h2:=h.tape;have h3:=h.output;cases w;cases W;simp only[ext] at *;subst h1 h2 h3;rw[←e]
theorem zrb (c : Prop)[Decidable c](x y : Bool)(w : World): (if c then Result.ok (Next.value (Value.bool x)) w else Result.ok (Next.value (Value.bool y)) w)=Result.ok (Next.value (Value.bool (if c then x else y))) w:=by split<;>rfl
def Ext.k (x : Ext): Nat:=x.x.size
theorem zdh (W : World)(x : Ext): (ext W x).heap.size=W.heap.size+x.k:=by simp[ext,Ext.k]
class EqW (b : Nat)(W : World): Prop where
 eq:b=W.heap.size
instance (W : World): EqW W.heap.size W:=⟨rfl⟩
instance {b : Nat}{W : World}{o : Obj}[h : EqW b W]: EqW (b+1) (W.alloc o):=⟨by rw[h.eq];simp⟩
instance {b : Nat}{W : World}{x : Ext}[h : EqW b W]: EqW (b+x.k) (ext W x):=⟨by rw[h.eq,zdh]⟩
instance {b : Nat}{W : World}[h : EqW b W]: EqW b W.drew:=⟨h.eq⟩
class LtW (b : Nat)(W : World): Prop where
 lt:b<W.heap.size
instance {b : Nat}{W : World}{o : Obj}[h : LtW b W]: LtW b (W.alloc o):=⟨by have:=h.lt;simp;omega⟩
instance {b : Nat}{W : World}{o : Obj}[h : EqW b W]: LtW b (W.alloc o):=⟨by have:=h.eq;simp;omega⟩
instance {b : Nat}{W : World}{x : Ext}[h : LtW b W]: LtW b (ext W x):=⟨Nat.lt_of_lt_of_le h.lt (Below.size (zw W x))⟩
instance {b : Nat}{W : World}[h : LtW b W]: LtW b W.drew:=⟨h.lt⟩
instance {b : Nat}{W : World}{a : Addr}{v : Value}[h : LtW b W]: LtW b (W.setCell a v):=⟨by have:=h.lt;simpa[World.setCell] using this⟩
theorem zxi {W : World}{x : Ext}{b o : Nat}[h : LtW b W]: (ext W x).cell? ⟨b,o,none⟩=W.cell? ⟨b,o,none⟩:=Below.cell (zw W x) (p:=⟨b,o,none⟩) h.lt
theorem zt1 {W : World}{x : Ext}{b o : Nat}[h : LtW b W]: (ext W x).frozen? ⟨b,o,none⟩=W.frozen? ⟨b,o,none⟩:=Below.frozen (zw W x) (p:=⟨b,o,none⟩) h.lt
theorem zj7 {W : World}{x : Ext}{b o : Nat}{v : Value}[h : LtW b W]: (ext W x).setCell ⟨b,o,none⟩ v=ext (W.setCell ⟨b,o,none⟩ v) x:=by
 have hlt:=h.lt;simp only[ext,World.setCell];congr 1
 apply Array.ext_getElem?;intro i;by_cases hi:i<W.heap.size
 ·rw[Array.getElem?_append_left (by simpa using hi),Array.getElem?_modify,Array.getElem?_modify,Array.getElem?_append_left hi]
 ·rw[Array.getElem?_append_right (by simpa using hi),Array.getElem?_modify,if_neg om,Array.getElem?_append_right om,Array.size_modify]
theorem zt2 {W : World}{b o : Nat}{c : Obj}[h : LtW b W]: (W.alloc c).cell? ⟨b,o,none⟩=W.cell? ⟨b,o,none⟩:=World.cell?_alloc_past _ _ _ h.lt
theorem zpc {W : World}{b o : Nat}{c : Obj}[h : LtW b W]: (W.alloc c).frozen? ⟨b,o,none⟩=W.frozen? ⟨b,o,none⟩:=World.frozen?_alloc_past _ _ _ h.lt
theorem zop {W : World}{b o : Nat}{c : Obj}{v : Value}[h : LtW b W]: (W.alloc c).setCell ⟨b,o,none⟩ v=(W.setCell ⟨b,o,none⟩ v).alloc c:=World.setCell_alloc_past _ _ _ _ h.lt
attribute [go_sem] zrb
theorem zoq {W : World}{b o : Nat}{c : Array Value}{t : TypeId}[h : EqW b W]: (W.alloc (.cells c t)).cell? ⟨b,o,none⟩=c[o]?:=World.cell?_alloc_at _ _ _ _ h.eq
theorem zlg {W : World}{b o : Nat}{c : Array Value}{t : TypeId}[h : EqW b W]: (W.alloc (.cells c t)).frozen? ⟨b,o,none⟩=false:=World.frozen?_alloc_at _ _ _ _ h.eq
theorem zk0 {W : World}{b o : Nat}{c : Array Value}{t : TypeId}{v : Value}[h : EqW b W]: (W.alloc (.cells c t)).setCell ⟨b,o,none⟩ v=W.alloc (.cells (c.setIfInBounds o v) t):=World.setCell_alloc_at _ _ _ _ _ h.eq
attribute [go_sem, simp] zdh
attribute [go_sem high] zoq zlg zk0 zxi zt1 zj7 zt2 zpc zop
theorem Grow.ext {a b : World}(h : Grow a b)(x : Ext): Grow a (ext b x):=h.trans (zw b x)
theorem gw {a b : World}(h : Grow a b:=by (repeat (first|(with_reducible exact Grow.refl _)|assumption|refine Grow.ext ?_ _|refine Grow.alloc ?_ _|refine Grow.drew ?_|refine Grow.setCell ?_ (by first|(simp;done)|(simp;omega)) _|refine Grow.trans ?_ (by assumption)))): Grow a b:=h
theorem zg {P : Program}{id : Nat}{Q : Exit→Act→World→Prop}{a : Act}{w : World}{l : List Oper}(hm : P.follows .mixedOrders=true)(hB : Region.lexB .any l.toArray=true)
  (h:wpQuiet P l.toArray (fun w'=>∃ x,w'=ext w x) (fun a'=>∀ w',Grow w w'→Q .normal a' w') l a):(Code.region id l.toArray true).wp P Q a w :=
 wp_region_quiet (C:=fun w'=>∃ x,w'=ext w x) hm hB (za (Grow.refl w).drew) (by
  have e:(fun a'=>∀ w',(∃ x,w'=ext w x)→Q .normal a' w')=(fun a'=>∀ w',Grow w w'→Q .normal a' w'):=by
   funext a';refine propext ⟨fun k w' g=>k w' (za g),fun k w' ⟨x,hx⟩=>k w' (hx ▸ zw w x)⟩
  rw[e];exact h)
def Ret (w : World)(v : Value)(e : Ending)(w' : World): Prop:=e = .returned v∧Grow w w'
theorem Ret.mk {w w' : World}{v v' : Value}(h : v'=v)(g : Grow w w'): Ret w v (.returned v') w':=⟨by rw[h],g⟩
theorem Ret.int {w w' : World}{k : IntKind}{a b : Int}(h : a=b)(g : Grow w w'): Ret w (.int k b) (.returned (.int k a)) w':=⟨by rw[h],g⟩
theorem Ret.bool {w w' : World}{a b : Bool}(h : a=b)(g : Grow w w'): Ret w (.bool b) (.returned (.bool a)) w':=⟨by rw[h],g⟩
theorem zr {P : Program}{f : FuncId}{args : Array Value}{W : World}{x : Ext}{v : Value}(h : Calls P f args (ext W x) (Ret (ext W x) v)):
  Calls P f args (ext W x) fun e w''=>e = .returned v∧∃ x,w''=ext W x :=
 h.mono fun _ _ ⟨he,hg⟩=>⟨he,za ((zw W x).trans hg)⟩
theorem zf {P : Program}{fn : Func}{a : Act}{w w0 : World}{v v' : Value}
  (hr:(results fn a.tmps).run P w = .ok v' w) (hd:a.defers = []) (g:Grow w0 w) (hv:v'=v):bodyPost P fn (Ret w0 v) .ret a w :=
 bodyPost_ret hr hd ⟨by rw[hv],g⟩
theorem zlh {w : World}{b o : Nat}{v : Value}(h : w.cell? ⟨b,o,none⟩=some v): b<w.heap.size:=by
 by_cases hb:b<w.heap.size
 ·exact hb
 ·simp only[World.cell?] at h;rw[Array.getElem?_eq_none om] at h;cases h
def Agr (F : Nat→Prop)(w w' : World): Prop:=∀ b,F b→b<w.heap.size→w'.heap[b]?=w.heap[b]?
theorem Agr.refl (F : Nat→Prop)(w : World): Agr F w w:=fun _ _ _=>rfl
theorem Agr.grow {F : Nat→Prop}{a b c : World}(h : Agr F a b)(g : Grow b c): Agr F a c:=fun k hF hk=>by
 have e:=h k hF hk;have:k<b.heap.size:=by
  by_cases q:k<b.heap.size
  ·exact q
  ·rw[Array.getElem?_eq_none om,Array.getElem?_eq_getElem hk] at e;cases e
 rw[g.block k this,e]
theorem Agr.of_grow {F : Nat→Prop}{b c : World}(g : Grow b c): Agr F b c:=(Agr.refl F b).grow g
def Fr (F : Nat→Prop)(B : Nat)(b : Nat): Prop:=F b∨B≤b
def Old (w : World)(b : Nat): Prop:=b<w.heap.size
class Rp (α : Type) where
 sz:Nat
 R:(Nat→Prop)→World→α→List Value→Prop
 len:∀ {F w a cs},R F w a cs→cs.length=sz
 keep:∀ {F w w' a cs},Agr F w w'→R F w a cs→R F w' a cs
 wide:∀ {F F' : Nat→Prop} {w a cs},(∀ b,b<w.heap.size→F b→F' b)→R F w a cs→R F' w a cs
def zad (w : World)(b o : Nat)(cs : List Value): Prop:=∀ j (hj : j<cs.length),w.cell? ⟨b,o+j,none⟩=some cs[j]
def Sl {α : Type}[Rp α](F : Nat→Prop)(w : World)(v : Value)(xs : List α): Prop :=
 ∃ (a:Option Addr) (cap:Nat),v = .slice a xs.length cap∧xs.length≤cap∧cap≤9223372036854775807∧(a=none→cap=0) ∧
  ∀ i (h:i<xs.length),∃ b off,a=some ⟨b,off,none⟩∧F b∧b<w.heap.size∧∃ cs:List Value,Rp.R F w xs[i] cs∧zad w b (off+i * Rp.sz α) cs
theorem Sl.keep {α : Type}[Rp α]{F : Nat→Prop}{w w' : World}{v : Value}{xs : List α}(g : Agr F w w')(h : Sl F w v xs): Sl F w' v xs:=by
 obtain⟨a,cap,hv,h1,h2,h3,h⟩:=h;refine⟨a,cap,hv,h1,h2,h3,fun i hi=>?_⟩;obtain⟨b,off,ha,hF,hlt,cs,hR,hc⟩:=h i hi;have e:=g b hF hlt;refine⟨b,off,ha,hF,?_,cs,Rp.keep g hR,fun j hj=>?_⟩
 ·by_cases q:b<w'.heap.size
  ·exact q
  ·rw[Array.getElem?_eq_none om,Array.getElem?_eq_getElem hlt] at e;cases e
 ·rw[←hc j hj];simp only[World.cell?];rw[e]
theorem Sl.mono {α : Type}[Rp α]{F : Nat→Prop}{w w' : World}{v : Value}{xs : List α}(h : Sl F w v xs)(g : Grow w w'): Sl F w' v xs:=h.keep (Agr.of_grow g)
theorem Sl.m {α : Type}[Rp α]{F : Nat→Prop}{w w' : World}{v : Value}{xs : List α}(h : Sl F w v xs)(g : Grow w w':=by exact gw): Sl F w' v xs:=h.mono g
theorem Sl.wide {α : Type}[Rp α]{F F' : Nat→Prop}{w : World}{v : Value}{xs : List α}(g : ∀ b,b<w.heap.size→F b→F' b)(h : Sl F w v xs): Sl F' w v xs:=by
 obtain⟨a,cap,hv,h1,h2,h3,h⟩:=h;refine⟨a,cap,hv,h1,h2,h3,fun i hi=>?_⟩;obtain⟨b,off,ha,hF,hlt,cs,hR,hc⟩:=h i hi;exact⟨b,off,ha,g b hlt hF,hlt,cs,Rp.wide g hR,hc⟩
theorem Sl.old {α : Type}[Rp α]{F : Nat→Prop}{w : World}{v : Value}{xs : List α}(h : Sl F w v xs): Sl (Old w) w v xs:=h.wide fun b hb _=>hb
theorem Sl.nil {α : Type}[Rp α](F : Nat→Prop)(w : World): Sl F w (.slice none 0 0) ([] : List α) :=
 ⟨none,0,rfl,Nat.le_refl _,by omega,fun _=>rfl,(fun i h=>by cases h)⟩
theorem Sl.open {α : Type}[Rp α]{F : Nat→Prop}{w : World}{v : Value}{xs : List α}(h : Sl F w v xs):
  ∃ (a:Option Addr) (n cap:Nat),v = .slice a n cap∧Hid (n=xs.length)∧n≤9223372036854775807∧n≤cap∧cap≤9223372036854775807∧Sl F w (.slice a n cap) xs:=by
 obtain⟨a,cap,rfl,h1,h2,h3⟩:=id h;exact⟨a,_,cap,rfl,rfl,Nat.le_trans h1 h2,h1,h2,h⟩
theorem Sl.len {α : Type}[Rp α]{F : Nat→Prop}{w : World}{a : Option Addr}{n cap : Nat}{xs : List α}(h : Sl F w (.slice a n cap) xs): n=xs.length:=by
 obtain⟨a',cap',hv,_⟩:=h;injection hv
theorem Sl.get {α : Type}[Rp α]{F : Nat→Prop}{w : World}{a : Option Addr}{n cap : Nat}{xs : List α}(h : Sl F w (.slice a n cap) xs)(i : Nat)(hi : i<n):
  ∃ b off x cs,a=some ⟨b,off,none⟩∧Hid (xs[i]?=some x)∧LtW b w∧Rp.R F w x cs∧zad w b (off+i * Rp.sz α) cs:=by
 obtain⟨a',cap',hv,_,_,_,h⟩:=h;injection hv with h1 h2 h3;subst h1 h2 h3;obtain⟨b,off,ha,hF,hlt,cs,hR,hc⟩:=h i hi;exact⟨b,off,_,cs,ha,List.getElem?_eq_getElem hi,⟨hlt⟩,hR,hc⟩
theorem zbm {α : Type}{xs : List α}{k : Nat}{x : α}(h : Hid (xs[k]?=some x)): xs.drop k=x::xs.drop (k+1):=by
 obtain⟨hk,rfl⟩:=List.getElem?_eq_some_iff.1 h.out;exact List.drop_eq_getElem_cons hk
theorem zbc {α : Type}{xs : List α}{k n : Nat}(h : Hid (n=xs.length))(hk : n≤k): xs.drop k = [] :=
 List.drop_eq_nil_of_le (by rw[←h.out];exact hk)
def U8 (n : Int): Prop:=0≤n∧n≤255
def I64 (n : Int): Prop:=-9223372036854775808≤n∧n≤9223372036854775807
def row? (w : World)(b off n : Nat): Option (List Value):=match w.heap[b]? with
 |some (.cells c _ _)=>if off+n≤c.size then some ((c.toList.drop off).take n) else none
 |_=>none
theorem zeh {W : World}{c : Array Value}{t : TypeId}{b off n : Nat}[h : EqW b W]: row? (W.alloc (.cells c t)) b off n=if off+n≤c.size then some ((c.toList.drop off).take n) else none:=by
 have e:=h.eq;subst e;have q:(W.alloc (.cells c t)).heap[W.heap.size]?=some (.cells c t):=by show (W.heap.push _)[_]?=_;simp
 unfold row?;rw[q]
theorem zu9 {W : World}{o : Obj}{b off n : Nat}[h : LtW b W]: row? (W.alloc o) b off n=row? W b off n:=by
 unfold row?;rw[Below.heap_alloc _ _ _ h.lt]
theorem zzn {W : World}{x : Ext}{b off n : Nat}[h : LtW b W]: row? (ext W x) b off n=row? W b off n:=by
 unfold row?;rw[(zw W x).block b h.lt]
theorem zxj {W : World}{b off n : Nat}: row? W.drew b off n=row? W b off n:=rfl
theorem zxk {w : World}{b off n : Nat}{cs : List Value}(h : row? w b off n=some cs): cs.length=n∧zad w b off cs:=by
 unfold row? at h;cases e:w.heap[b]? with
 |none=>rw[e] at h;cases h
 |some o =>
  rw[e] at h;cases o<;>simp only[] at h<;>try (cases h;done)
  rename_i c t f;by_cases q:off+n≤c.size
  ·rw[if_pos q] at h;injection h with h;subst h;have hl:(List.take n (List.drop off c.toList)).length=n:=by simp;omega
   refine⟨hl,fun j hj=>?_⟩;rw[hl] at hj;have hj' : off+j<c.toList.length:=by simp;omega
   simp only[World.cell?,e];have:c.toList[off+j]?=some ((List.take n (List.drop off c.toList))[j]'(by rw[hl];exact hj)):=by
    rw[List.getElem_take,List.getElem_drop,List.getElem?_eq_getElem hj']
   rw[←this];simp
  ·rw[if_neg q] at h;cases h
theorem zo {w : World}{b off : Nat}{cs : List Value}(h : zad w b off cs)(i n : Nat)(hi : i+n≤cs.length∧0<n): row? w b (off+i) n=some ((cs.drop i).take n):=by
 have h0:=h i om;unfold row?;cases e:w.heap[b]? with
 |none=>simp only[World.cell?,e] at h0;cases h0
 |some o =>
  cases o<;>(simp only[World.cell?,e] at h0)<;>try (cases h0;done)
  rename_i c t f;have hsz:off+i+n≤c.size:=by
   have hl:=h (i+n - 1) om;simp only[World.cell?,e] at hl;have:off+(i+n - 1)<c.size:=by
    by_cases q:off+(i+n - 1)<c.size
    ·exact q
    ·rw[Array.getElem?_eq_none om] at hl;simp at hl
   omega
  simp only[if_pos hsz];congr 1
  apply List.ext_getElem?;intro j;by_cases hj:j<n
  ·have hc:=h (i+j) om;simp only[World.cell?,e] at hc;rw[List.getElem?_take_of_lt hj,List.getElem?_take_of_lt hj,List.getElem?_drop,List.getElem?_drop,List.getElem?_eq_getElem (by omega:i+j<cs.length)];simpa[Nat.add_assoc] using hc
  ·rw[List.getElem?_take_eq_none om,List.getElem?_take_eq_none om]
def zss (a : Addr)(n : Nat): Sem (Array Value):=loadCellsFrom a 0 n #[]
theorem zzo (P : Program)(w : World)(b off n : Nat): Sem.run P (loadCellsFrom ⟨b,off,none⟩ 0 n #[]) w=match row? w b off n with
  |some cs=>.ok cs.toArray w
  |none=>Sem.run P (zss ⟨b,off,none⟩ n) w:=by
 cases h:row? w b off n with
 |none=>rfl
 |some cs =>
  obtain⟨hl,hc⟩:=zxk h;subst hl;exact run_loadCells_list (P:=P) w ⟨b,off,none⟩ cs (fun j v hv=>by
   obtain⟨hj,rfl⟩:=List.getElem?_eq_some_iff.1 hv;rw[Addr.add_lit];exact hc j hj)
def put? (w : World)(b off : Nat)(vs : List Value): Option World:=match w.heap[b]? with
 |some (.cells c _ f)=>if off+vs.length≤c.size∧f=(0,0)∧vs.all (·.oneCell')=true then some (w.setCells b off vs) else none
 |_=>none
def spl (c : Array Value): Nat→List Value→Array Value
 |_,[]=>c
 |o,v::r=>spl (c.setIfInBounds o v) (o+1) r
theorem zfv (W : World)(t : TypeId): ∀ (vs : List Value) (c : Array Value) (off : Nat),(W.alloc (.cells c t)).setCells W.heap.size off vs=W.alloc (.cells (spl c off vs) t)
 |[],c,off=>rfl
 |v::r,c,off=>by
  have e:(W.alloc (.cells c t)).setCell ⟨W.heap.size,off,none⟩ v=W.alloc (.cells (c.setIfInBounds off v) t):=World.setCell_alloc_at c t _ off v rfl;rw[World.setCells,e,zfv W t r _ (off+1)];rfl
theorem zpd : ∀ (vs : List Value) (c : Array Value) (off : Nat),off+vs.length≤c.size→spl c off vs=(c.toList.take off++(vs++c.toList.drop (off+vs.length))).toArray
 |[],c,off,h=>by simp[spl]
 |v::r,c,off,h=>by
  have hlt:off<c.size:=by simp at h;omega
  rw[spl,zpd r _ (off+1) (by simp at h ⊢;omega)];congr 1
  have e1:List.take (off+1) (c.setIfInBounds off v).toList=List.take off c.toList++[v]:=by
   rw[Array.toList_setIfInBounds,List.take_add_one,List.take_set_of_le (Nat.le_refl _)];simp[List.getElem?_set,hlt]
  have e2:List.drop (off+1+r.length) (c.setIfInBounds off v).toList=List.drop (off+(v::r).length) c.toList:=by
   rw[Array.toList_setIfInBounds,List.drop_set_of_lt om];congr 1;simp;omega
  rw[e1,e2];simp
theorem zei {W : World}{c : Array Value}{t : TypeId}{b off : Nat}{vs : List Value}[h : EqW b W]: put? (W.alloc (.cells c t)) b off vs =
  if off+vs.length≤c.size∧vs.all (·.oneCell')=true then some (W.alloc (.cells (c.toList.take off++(vs++c.toList.drop (off+vs.length))).toArray t)) else none:=by
 have e:=h.eq;subst e;have q:(W.alloc (.cells c t)).heap[W.heap.size]?=some (.cells c t):=by show (W.heap.push _)[_]?=_;simp
 unfold put?;rw[q];by_cases k:off+vs.length≤c.size∧vs.all (·.oneCell')=true
 ·rw[if_pos k];show (if off+vs.length≤c.size∧((0,0):Nat×Nat)=(0,0)∧vs.all (·.oneCell')=true then _ else _)=_;rw[if_pos ⟨k.1,rfl,k.2⟩,zfv,zpd _ _ _ k.1]
 ·rw[if_neg k];show (if off+vs.length≤c.size∧((0,0):Nat×Nat)=(0,0)∧vs.all (·.oneCell')=true then _ else _)=_;rw[if_neg (fun z=>k ⟨z.1,z.2.2⟩)]
theorem zhr {W : World}{o : Obj}{b : Nat}: ∀ (vs : List Value) (off : Nat) (W : World),b<W.heap.size→(W.alloc o).setCells b off vs=(W.setCells b off vs).alloc o
 |[],off,W,h=>rfl
 |v::r,off,W,h=>by
  rw[World.setCells,World.setCell_alloc_past _ _ _ _ h,zhr (W:=W) r (off+1) _ (by simpa[World.setCell] using h)];rfl
theorem zva {W : World}{o : Obj}{b off : Nat}{vs : List Value}[h : LtW b W]: put? (W.alloc o) b off vs=(put? W b off vs).map (fun w=>w.alloc o):=by
 unfold put?;rw[Below.heap_alloc _ _ _ h.lt];cases W.heap[b]? with
 |none=>rfl
 |some q =>
   cases q<;>try rfl
   rename_i c t f;by_cases k:off+vs.length≤c.size∧f=(0,0)∧vs.all (·.oneCell')=true
   ·simp only[if_pos k,Option.map_some];rw[zhr (W:=W) vs off W h.lt]
   ·simp only[if_neg k];rfl
theorem ziy {x : Ext}{b : Nat}: ∀ (vs : List Value) (off : Nat) (W : World),b<W.heap.size→(ext W x).setCells b off vs=ext (W.setCells b off vs) x
 |[],off,W,h=>rfl
 |v::r,off,W,h=>by
  have:LtW b W:=⟨h⟩
  rw[World.setCells,zj7,ziy r (off+1) _ (by simpa[World.setCell] using h)];rfl
theorem zzp {W : World}{x : Ext}{b off : Nat}{vs : List Value}[h : LtW b W]: put? (ext W x) b off vs=(put? W b off vs).map (fun w=>ext w x):=by
 unfold put?;rw[(zw W x).block b h.lt];cases W.heap[b]? with
 |none=>rfl
 |some q =>
   cases q<;>try rfl
   rename_i c t f;by_cases k:off+vs.length≤c.size∧f=(0,0)∧vs.all (·.oneCell')=true
   ·simp only[if_pos k,Option.map_some];rw[ziy vs off W h.lt]
   ·simp only[if_neg k];rfl
theorem zis {b : Nat}: ∀ (vs : List Value) (off : Nat) (W : World),W.drew.setCells b off vs=(W.setCells b off vs).drew
 |[],off,W=>rfl
 |v::r,off,W=>by rw[World.setCells,World.setCell_drew,zis r (off+1)];rfl
theorem zxl {W : World}{b off : Nat}{vs : List Value}: put? W.drew b off vs=(put? W b off vs).map World.drew:=by
 unfold put?;show (match W.heap[b]? with|some (.cells c _ f)=>if off+vs.length≤c.size∧f=(0,0)∧vs.all (·.oneCell')=true then some (W.drew.setCells b off vs) else none|_=>none)=_;cases W.heap[b]? with
 |none=>rfl
 |some q =>
   cases q<;>try rfl
   rename_i c t f;by_cases k:off+vs.length≤c.size∧f=(0,0)∧vs.all (·.oneCell')=true
   ·simp only[if_pos k,Option.map_some];rw[zis vs off W]
   ·simp only[if_neg k];rfl
def zvb (a : Addr)(vs : List Value): Sem Unit:=storeCells a vs 0
theorem z1j (P : Program)(w : World)(b off : Nat)(vs : List Value): Sem.run P (storeCells ⟨b,off,none⟩ vs 0) w=match put? w b off vs with
  |some w'=>.ok () w'
  |none=>Sem.run P (zvb ⟨b,off,none⟩ vs) w:=by
 cases h:put? w b off vs with
 |none=>rfl
 |some w' =>
  unfold put? at h;cases e:w.heap[b]? with
  |none=>rw[e] at h;cases h
  |some o =>
   rw[e] at h;cases o<;>simp only[] at h<;>try (cases h;done)
   rename_i c t f;by_cases q:off+vs.length≤c.size∧f=(0,0)∧vs.all (·.oneCell')=true
   ·rw[if_pos q] at h;injection h with h;subst h;obtain⟨q1,q2,q3⟩:=q;have:=run_storeCells_cells (P:=P) b off vs 0 w (fun j hj=>by
      simp only[World.cell?,e];rw[Array.getElem?_eq_getElem om];rfl)
     (fun j hj=>by simp only[World.frozen?,e,q2];simp) (fun v hv=>(List.all_eq_true.1 q3) v hv)
    simpa using this
   ·rw[if_neg q] at h;cases h
def zgb (a : Addr)(vs : List Value): Sem Unit:=storeCells a vs 0
theorem z1k (a : Addr)(u v : Value)(vs : List Value): storeCells a (u::v::vs) 0=zgb a (u::v::vs):=rfl
theorem zpe (P : Program)(w : World)(b off : Nat)(vs : List Value): Sem.run P (zgb ⟨b,off,none⟩ vs) w=match put? w b off vs with
  |some w'=>.ok () w'
  |none=>Sem.run P (zvb ⟨b,off,none⟩ vs) w:=z1j P w b off vs
def zst (a : Addr)(n : Nat): Sem (Array Value):=loadCellsFrom a 0 n #[]
theorem z1l (a : Addr)(n : Nat): loadCellsFrom a 0 n #[]=zst a n:=rfl
theorem zrc (P : Program)(w : World)(b off n : Nat): Sem.run P (zst ⟨b,off,none⟩ n) w=match row? w b off n with
  |some cs=>.ok cs.toArray w
  |none=>Sem.run P (zss ⟨b,off,none⟩ n) w:=zzo P w b off n
theorem z1m (k : IntKind)(n : Int): (Value.int k n).oneCell'=true:=rfl
theorem zzq (b : Bool): (Value.bool b).oneCell'=true:=rfl
theorem zxm (a : Option Addr)(n c : Nat): (Value.slice a n c).oneCell'=true:=rfl
theorem zvc (b : ByteArray): (Value.string b).oneCell'=true:=rfl
theorem zt3 (a : Option Addr): (Value.pointer a).oneCell'=true:=rfl
attribute [go_sem] z1m zzq zxm zvc zt3
attribute [go_sem high] z1k z1l zpe zrc
attribute [go_sem] zeh zu9 zzn zxj zei zva zzp zxl
theorem zad.nil (w : World)(b o : Nat): zad w b o []:=fun j hj=>by cases hj
theorem zad.cons {w : World}{b o : Nat}{c : Value}{cs : List Value}(h : w.cell? ⟨b,o,none⟩=some c)(t : zad w b (o+1) cs): zad w b o (c::cs):=fun j hj=>by
 cases j with
 |zero=>simpa using h
 |succ j=>have:=t j (by simpa using hj);simpa[Nat.add_assoc,Nat.add_comm 1 j] using this
theorem Sl.mk {α : Type}[Rp α]{F : Nat→Prop}{w : World}{b off cap n : Nat}{xs : List α}(hn : n=xs.length)(hF : F b)(hb : b<w.heap.size)(hcap : n≤cap)(hm : cap≤9223372036854775807)
  (h:∀ i (h:i<xs.length),∃ cs:List Value,Rp.R F w xs[i] cs∧zad w b (off+i * Rp.sz α) cs):Sl F w (.slice (some ⟨b,off,none⟩) n cap) xs:=by
 subst hn;exact⟨_,cap,rfl,hcap,hm,(fun e=>by cases e),fun i hi=>⟨b,off,rfl,hF,hb,h i hi⟩⟩
theorem Sl.one {α : Type}[Rp α]{F : Nat→Prop}{w : World}{b off cap : Nat}{x : α}{cs : List Value}(hF : F b)(hb : b<w.heap.size)(hcap : 1≤cap)(hm : cap≤9223372036854775807)
  (hR:Rp.R F w x cs) (hc:zad w b off cs):Sl F w (.slice (some ⟨b,off,none⟩) 1 cap) [x] :=
 Sl.mk rfl hF hb hcap hm fun i hi=>by
  obtain rfl:i=0:=by simp at hi;exact hi
  exact⟨cs,hR,by simpa using hc⟩
theorem Sl.two {α : Type}[Rp α]{F : Nat→Prop}{w : World}{b off cap : Nat}{x y : α}{cs ds : List Value}(hF : F b)(hb : b<w.heap.size)(hcap : 2≤cap)(hm : cap≤9223372036854775807)
  (hR:Rp.R F w x cs) (hc:zad w b off cs) (hR' : Rp.R F w y ds) (hc' : zad w b (off+Rp.sz α) ds):Sl F w (.slice (some ⟨b,off,none⟩) 2 cap) [x,y] :=
 Sl.mk rfl hF hb hcap hm fun i hi=>by
  obtain rfl|rfl:i=0∨i=1:=by simp at hi;omega
  ·exact⟨cs,hR,by simpa using hc⟩
  ·exact⟨ds,hR',by simpa using hc'⟩
structure AgrS (F : Nat→Prop)(w w' : World): Prop where
 size:w'.heap.size=w.heap.size
 agr:Agr F w w'
theorem AgrS.refl (F : Nat→Prop)(w : World): AgrS F w w:=⟨rfl,Agr.refl F w⟩
theorem AgrS.alloc {F : Nat→Prop}{w w' : World}(h : AgrS F w w')(hn : ¬F w.heap.size)(c c' : Obj): AgrS F (w.alloc c) (w'.alloc c') :=
 ⟨by simp[h.size],fun b hF hb=>by
  have hne:b≠w.heap.size:=fun e=>hn (e ▸ hF);have hlt:b<w.heap.size:=by simp at hb;omega
  rw[Below.heap_alloc _ _ _ hlt,Below.heap_alloc _ _ _ (by rw[h.size];exact hlt),h.agr b hF hlt]⟩
theorem AgrS.same {F : Nat→Prop}{w w' : World}(h : AgrS F w w')(c : Obj): AgrS F (w.alloc c) (w'.alloc c) :=
 ⟨by simp[h.size],fun b hF hb=>by
  by_cases hlt:b<w.heap.size
  ·rw[Below.heap_alloc _ _ _ hlt,Below.heap_alloc _ _ _ (by rw[h.size];exact hlt),h.agr b hF hlt]
  ·have e:b=w.heap.size:=by simp at hb;omega
   subst e;show (w'.heap.push c)[_]?=(w.heap.push c)[_]?;rw[Array.getElem?_push,Array.getElem?_push,h.size];simp⟩
theorem AgrS.ext {F : Nat→Prop}{w w' : World}(h : AgrS F w w')(x : Ext): AgrS F (ext w x) (ext w' x) :=
 ⟨by show (w'.heap++x.x).size=(w.heap++x.x).size;simp[h.size],fun b hF hb=>by
  show (w'.heap++x.x)[b]?=(w.heap++x.x)[b]?;by_cases hlt:b<w.heap.size
  ·rw[Array.getElem?_append_left hlt,Array.getElem?_append_left (by rw[h.size];exact hlt),h.agr b hF hlt]
  ·have hs:=h.size;rw[Array.getElem?_append_right om,Array.getElem?_append_right om,hs]⟩
def RetP (w : World)(Φ : Value→World→Prop)(e : Ending)(w' : World): Prop:=∃ v,e = .returned v∧Φ v w'∧Grow w w'
theorem RetP.mk {w w' : World}{Φ : Value→World→Prop}{v : Value}(h : Φ v w')(g : Grow w w'): RetP w Φ (.returned v) w':=⟨v,rfl,h,g⟩
theorem armV {P : Program}{k : FuncId}{args : Array Value}{w : World}{v : Value}{Q : Ending→World→Prop}(h : Calls P k args w (Ret w v))(K : ∀ x,Q (.returned v) (ext w x)): Calls P k args w Q :=
 h.mono fun e w' hr=>by obtain⟨rfl,g⟩:=hr;obtain⟨x,rfl⟩:=za g;exact K x
theorem armS {P : Program}{k : FuncId}{args : Array Value}{w : World}{α : Type}[Rp α]{F : Nat→Prop}{xs : List α}{Q : Ending→World→Prop}(h : Calls P k args w (RetP w fun v w'=>Sl F w' v xs))
  (K:∀ a n cap x,Hid (n=xs.length)→n≤9223372036854775807→n≤cap→cap≤9223372036854775807→Sl F (ext w x) (.slice a n cap) xs→Q (.returned (.slice a n cap)) (ext w x)):Calls P k args w Q :=
 h.mono fun e w' hr=>by obtain⟨v,rfl,hs,g⟩:=hr;obtain⟨x,rfl⟩:=za g;obtain⟨a,n,cap,rfl,h1,h2,h3,h4,h5⟩:=hs.open;exact K a n cap x h1 h2 h3 h4 h5
theorem armT {P : Program}{k : FuncId}{args : Array Value}{w : World}{α : Type}[Rp α]{F : Nat→Prop}{xs : List α}{Q : Ending→World→Prop}(h : Calls P k args w (RetP w fun v w'=>∃ u,v = .tuple #[u,.int .i64 0]∧Sl F w' u xs))
  (K:∀ a n cap x,Hid (n=xs.length)→n≤9223372036854775807→n≤cap→cap≤9223372036854775807→Sl F (ext w x) (.slice a n cap) xs→Q (.returned (.tuple #[.slice a n cap,.int .i64 0])) (ext w x)):Calls P k args w Q :=
 h.mono fun e w' hr=>by obtain⟨v,rfl,⟨u,rfl,hs⟩,g⟩:=hr;obtain⟨x,rfl⟩:=za g;obtain⟨a,n,cap,rfl,h1,h2,h3,h4,h5⟩:=hs.open;exact K a n cap x h1 h2 h3 h4 h5
theorem zd {P : Program}{fn : Func}{a : Act}{w w0 : World}{v : Value}{Φ : Value→World→Prop}
  (hr:(results fn a.tmps).run P w = .ok v w) (hd:a.defers = []) (g:Grow w0 w) (hv:Φ v w):bodyPost P fn (RetP w0 Φ) .ret a w :=
 bodyPost_ret hr hd ⟨v,rfl,hv,g⟩
structure Ty where
 kind:Int
 to:Int
deriving DecidableEq
structure Pl where
 loc:Int
 deref:Bool
 field:Int
deriving DecidableEq
structure Opd where
 kind:Int
 n:Int
 pl:Pl
deriving DecidableEq
structure Rv where
 kind:Int
 op:Int
 bo:Int
 a:Opd
 b:Opd
 pl:Pl
deriving DecidableEq
structure St where
 kind:Int
 pl:Pl
 r:Rv
 a:Opd
 loc:Int
deriving DecidableEq
structure Ju where
 kind:Int
 a:Opd
 fn:Int
 next:Int
 els:Int
 args:List Opd
 dest:Pl
deriving DecidableEq
structure Bk where
 stmts:List St
 jump:Ju
deriving DecidableEq
structure Fn where
 params:Int
 uns:Bool
 locals:List Ty
 blocks:List Bk
deriving DecidableEq
structure Pr where
 funcs:List Fn
deriving DecidableEq
structure Ty.wf (x : Ty): Prop where
 kind:U8 x.kind
 to:U8 x.to
structure Pl.wf (x : Pl): Prop where
 loc:I64 x.loc
 field:U8 x.field
structure Opd.wf (x : Opd): Prop where
 kind:U8 x.kind
 n:I64 x.n
 pl:x.pl.wf
structure Rv.wf (x : Rv): Prop where
 kind:U8 x.kind
 op:U8 x.op
 bo:U8 x.bo
 a:x.a.wf
 b:x.b.wf
 pl:x.pl.wf
structure St.wf (x : St): Prop where
 kind:U8 x.kind
 pl:x.pl.wf
 r:x.r.wf
 a:x.a.wf
 loc:I64 x.loc
structure Ju.wf (x : Ju): Prop where
 kind:U8 x.kind
 a:x.a.wf
 fn:I64 x.fn
 next:I64 x.next
 els:I64 x.els
 dest:x.dest.wf
structure Bk.wf (x : Bk): Prop where
 jump:x.jump.wf
structure Fn.wf (x : Fn): Prop where
 params:I64 x.params
structure Pr.wf (x : Pr): Prop where
abbrev Ty.c (x : Ty): List Value:=[.int .u8 x.kind,.int .u8 x.to]
abbrev Ty.v (x : Ty): Value:=.agg #[.int .u8 x.kind,.int .u8 x.to]
abbrev Pl.c (x : Pl): List Value:=[.int .i64 x.loc,.bool x.deref,.int .u8 x.field]
abbrev Pl.v (x : Pl): Value:=.agg #[.int .i64 x.loc,.bool x.deref,.int .u8 x.field]
abbrev Opd.c (x : Opd): List Value:=[.int .u8 x.kind,.int .i64 x.n,.int .i64 x.pl.loc,.bool x.pl.deref,.int .u8 x.pl.field]
abbrev Opd.v (x : Opd): Value:=.agg #[.int .u8 x.kind,.int .i64 x.n,.int .i64 x.pl.loc,.bool x.pl.deref,.int .u8 x.pl.field]
abbrev Rv.c (x : Rv): List Value:=[.int .u8 x.kind,.int .u8 x.op,.int .u8 x.bo,.int .u8 x.a.kind,.int .i64 x.a.n,.int .i64 x.a.pl.loc,.bool x.a.pl.deref,.int .u8 x.a.pl.field,.int .u8 x.b.kind,.int .i64 x.b.n,.int .i64 x.b.pl.loc,.bool x.b.pl.deref,.int .u8 x.b.pl.field,.int .i64 x.pl.loc,.bool x.pl.deref,.int .u8 x.pl.field]
abbrev Rv.v (x : Rv): Value:=.agg #[.int .u8 x.kind,.int .u8 x.op,.int .u8 x.bo,.int .u8 x.a.kind,.int .i64 x.a.n,.int .i64 x.a.pl.loc,.bool x.a.pl.deref,.int .u8 x.a.pl.field,.int .u8 x.b.kind,.int .i64 x.b.n,.int .i64 x.b.pl.loc,.bool x.b.pl.deref,.int .u8 x.b.pl.field,.int .i64 x.pl.loc,.bool x.pl.deref,.int .u8 x.pl.field]
abbrev St.c (x : St): List Value:=[.int .u8 x.kind,.int .i64 x.pl.loc,.bool x.pl.deref,.int .u8 x.pl.field,.int .u8 x.r.kind,.int .u8 x.r.op,.int .u8 x.r.bo,.int .u8 x.r.a.kind,.int .i64 x.r.a.n,.int .i64 x.r.a.pl.loc,.bool x.r.a.pl.deref,.int .u8 x.r.a.pl.field,.int .u8 x.r.b.kind,.int .i64 x.r.b.n,.int .i64 x.r.b.pl.loc,.bool x.r.b.pl.deref,.int .u8 x.r.b.pl.field,.int .i64 x.r.pl.loc,.bool x.r.pl.deref,.int .u8 x.r.pl.field,.int .u8 x.a.kind,.int .i64 x.a.n,.int .i64 x.a.pl.loc,.bool x.a.pl.deref,.int .u8 x.a.pl.field,.int .i64 x.loc]
abbrev St.v (x : St): Value:=.agg #[.int .u8 x.kind,.int .i64 x.pl.loc,.bool x.pl.deref,.int .u8 x.pl.field,.int .u8 x.r.kind,.int .u8 x.r.op,.int .u8 x.r.bo,.int .u8 x.r.a.kind,.int .i64 x.r.a.n,.int .i64 x.r.a.pl.loc,.bool x.r.a.pl.deref,.int .u8 x.r.a.pl.field,.int .u8 x.r.b.kind,.int .i64 x.r.b.n,.int .i64 x.r.b.pl.loc,.bool x.r.b.pl.deref,.int .u8 x.r.b.pl.field,.int .i64 x.r.pl.loc,.bool x.r.pl.deref,.int .u8 x.r.pl.field,.int .u8 x.a.kind,.int .i64 x.a.n,.int .i64 x.a.pl.loc,.bool x.a.pl.deref,.int .u8 x.a.pl.field,.int .i64 x.loc]
abbrev Ju.c (x : Ju)(args : Value): List Value:=[.int .u8 x.kind,.int .u8 x.a.kind,.int .i64 x.a.n,.int .i64 x.a.pl.loc,.bool x.a.pl.deref,.int .u8 x.a.pl.field,.int .i64 x.fn,.int .i64 x.next,.int .i64 x.els,args,.int .i64 x.dest.loc,.bool x.dest.deref,.int .u8 x.dest.field]
abbrev Ju.v (x : Ju)(args : Value): Value:=.agg #[.int .u8 x.kind,.int .u8 x.a.kind,.int .i64 x.a.n,.int .i64 x.a.pl.loc,.bool x.a.pl.deref,.int .u8 x.a.pl.field,.int .i64 x.fn,.int .i64 x.next,.int .i64 x.els,args,.int .i64 x.dest.loc,.bool x.dest.deref,.int .u8 x.dest.field]
abbrev Bk.c (x : Bk)(stmts : Value)(jump_args : Value): List Value:=[stmts,.int .u8 x.jump.kind,.int .u8 x.jump.a.kind,.int .i64 x.jump.a.n,.int .i64 x.jump.a.pl.loc,.bool x.jump.a.pl.deref,.int .u8 x.jump.a.pl.field,.int .i64 x.jump.fn,.int .i64 x.jump.next,.int .i64 x.jump.els,jump_args,.int .i64 x.jump.dest.loc,.bool x.jump.dest.deref,.int .u8 x.jump.dest.field]
abbrev Bk.v (x : Bk)(stmts : Value)(jump_args : Value): Value:=.agg #[stmts,.int .u8 x.jump.kind,.int .u8 x.jump.a.kind,.int .i64 x.jump.a.n,.int .i64 x.jump.a.pl.loc,.bool x.jump.a.pl.deref,.int .u8 x.jump.a.pl.field,.int .i64 x.jump.fn,.int .i64 x.jump.next,.int .i64 x.jump.els,jump_args,.int .i64 x.jump.dest.loc,.bool x.jump.dest.deref,.int .u8 x.jump.dest.field]
abbrev Fn.c (x : Fn)(locals : Value)(blocks : Value): List Value:=[.int .i64 x.params,.bool x.uns,locals,blocks]
abbrev Fn.v (x : Fn)(locals : Value)(blocks : Value): Value:=.agg #[.int .i64 x.params,.bool x.uns,locals,blocks]
abbrev Pr.c (x : Pr)(funcs : Value): List Value:=[funcs]
abbrev Pr.v (x : Pr)(funcs : Value): Value:=.agg #[funcs]
instance : Rp Ty where
 sz:=2
 R _ _ t cs:=cs=t.c∧t.wf
 len h:=by obtain⟨rfl,_⟩:=h;rfl
 keep _ h:=h
 wide _ h:=h
theorem sz_ty : Rp.sz Ty=2:=rfl
attribute [go_sem] sz_ty
instance : Rp Opd where
 sz:=5
 R _ _ t cs:=cs=t.c∧t.wf
 len h:=by obtain⟨rfl,_⟩:=h;rfl
 keep _ h:=h
 wide _ h:=h
theorem z1n : Rp.sz Opd=5:=rfl
attribute [go_sem] z1n
instance : Rp St where
 sz:=26
 R _ _ t cs:=cs=t.c∧t.wf
 len h:=by obtain⟨rfl,_⟩:=h;rfl
 keep _ h:=h
 wide _ h:=h
theorem sz_st : Rp.sz St=26:=rfl
attribute [go_sem] sz_st
instance : Rp Bk where
 sz:=14
 R F w x cs:=∃ stmts_a stmts_n stmts_c jump_args_a jump_args_n jump_args_c,cs=x.c (.slice stmts_a stmts_n stmts_c) (.slice jump_args_a jump_args_n jump_args_c)∧x.wf∧Sl F w (.slice stmts_a stmts_n stmts_c) x.stmts∧Sl F w (.slice jump_args_a jump_args_n jump_args_c) x.jump.args
 len h:=by obtain⟨_,_,_,_,_,_,rfl,_⟩:=h;rfl
 keep g h:=by obtain⟨stmts_a,stmts_n,stmts_c,jump_args_a,jump_args_n,jump_args_c,h1,h2,g0,g1⟩:=h;exact⟨stmts_a,stmts_n,stmts_c,jump_args_a,jump_args_n,jump_args_c,h1,h2,g0.keep g,g1.keep g⟩
 wide g h:=by obtain⟨stmts_a,stmts_n,stmts_c,jump_args_a,jump_args_n,jump_args_c,h1,h2,g0,g1⟩:=h;exact⟨stmts_a,stmts_n,stmts_c,jump_args_a,jump_args_n,jump_args_c,h1,h2,g0.wide g,g1.wide g⟩
theorem sz_bk : Rp.sz Bk=14:=rfl
attribute [go_sem] sz_bk
instance : Rp Fn where
 sz:=4
 R F w x cs:=∃ locals_a locals_n locals_c blocks_a blocks_n blocks_c,cs=x.c (.slice locals_a locals_n locals_c) (.slice blocks_a blocks_n blocks_c)∧x.wf∧Sl F w (.slice locals_a locals_n locals_c) x.locals∧Sl F w (.slice blocks_a blocks_n blocks_c) x.blocks
 len h:=by obtain⟨_,_,_,_,_,_,rfl,_⟩:=h;rfl
 keep g h:=by obtain⟨locals_a,locals_n,locals_c,blocks_a,blocks_n,blocks_c,h1,h2,g0,g1⟩:=h;exact⟨locals_a,locals_n,locals_c,blocks_a,blocks_n,blocks_c,h1,h2,g0.keep g,g1.keep g⟩
 wide g h:=by obtain⟨locals_a,locals_n,locals_c,blocks_a,blocks_n,blocks_c,h1,h2,g0,g1⟩:=h;exact⟨locals_a,locals_n,locals_c,blocks_a,blocks_n,blocks_c,h1,h2,g0.wide g,g1.wide g⟩
theorem sz_fn : Rp.sz Fn=4:=rfl
attribute [go_sem] sz_fn
structure AtTy (F : Nat→Prop)(w : World)(ts : List Ty)(i : Nat)(b off : Nat)(x : Ty): Prop where
 g:Hid (ts[i]?=some x)
 lt:LtW b w
 wf:x.wf
 c0:w.cell? ⟨b,off+i * 2,none⟩=some (.int .u8 x.kind)
 c1:w.cell? ⟨b,off+i * 2+1,none⟩=some (.int .u8 x.to)
 r0:row? w b (off+i * 2) 2=some [.int .u8 x.kind,.int .u8 x.to]
theorem Sl.ty {F : Nat→Prop}{w : World}{a : Option Addr}{n cap : Nat}{ts : List Ty}(h : Sl F w (.slice a n cap) ts)(i : Nat)(hi : i<n): ∃ b off x,a=some ⟨b,off,none⟩∧AtTy F w ts i b off x:=by
 obtain⟨b,off,x,cs,ha,hx,hlt,⟨rfl,hw⟩,hc⟩:=h.get i hi;exact⟨b,off,x,ha,⟨hx,hlt,hw,hc 0 (by simp),hc 1 (by simp),zo hc 0 2 (by simp)⟩⟩
structure AtOpd (F : Nat→Prop)(w : World)(ts : List Opd)(i : Nat)(b off : Nat)(x : Opd): Prop where
 g:Hid (ts[i]?=some x)
 lt:LtW b w
 wf:x.wf
 c0:w.cell? ⟨b,off+i * 5,none⟩=some (.int .u8 x.kind)
 c1:w.cell? ⟨b,off+i * 5+1,none⟩=some (.int .i64 x.n)
 c2:w.cell? ⟨b,off+i * 5+2,none⟩=some (.int .i64 x.pl.loc)
 c3:w.cell? ⟨b,off+i * 5+3,none⟩=some (.bool x.pl.deref)
 c4:w.cell? ⟨b,off+i * 5+4,none⟩=some (.int .u8 x.pl.field)
 r0:row? w b (off+i * 5) 5=some [.int .u8 x.kind,.int .i64 x.n,.int .i64 x.pl.loc,.bool x.pl.deref,.int .u8 x.pl.field]
 r1:row? w b (off+i * 5+2) 3=some [.int .i64 x.pl.loc,.bool x.pl.deref,.int .u8 x.pl.field]
theorem Sl.opd {F : Nat→Prop}{w : World}{a : Option Addr}{n cap : Nat}{ts : List Opd}(h : Sl F w (.slice a n cap) ts)(i : Nat)(hi : i<n): ∃ b off x,a=some ⟨b,off,none⟩∧AtOpd F w ts i b off x:=by
 obtain⟨b,off,x,cs,ha,hx,hlt,⟨rfl,hw⟩,hc⟩:=h.get i hi;exact⟨b,off,x,ha,⟨hx,hlt,hw,hc 0 (by simp),hc 1 (by simp),hc 2 (by simp),hc 3 (by simp),hc 4 (by simp),zo hc 0 5 (by simp),zo hc 2 3 (by simp)⟩⟩
structure AtSt (F : Nat→Prop)(w : World)(ts : List St)(i : Nat)(b off : Nat)(x : St): Prop where
 g:Hid (ts[i]?=some x)
 lt:LtW b w
 wf:x.wf
 c0:w.cell? ⟨b,off+i * 26,none⟩=some (.int .u8 x.kind)
 c1:w.cell? ⟨b,off+i * 26+1,none⟩=some (.int .i64 x.pl.loc)
 c2:w.cell? ⟨b,off+i * 26+2,none⟩=some (.bool x.pl.deref)
 c3:w.cell? ⟨b,off+i * 26+3,none⟩=some (.int .u8 x.pl.field)
 c4:w.cell? ⟨b,off+i * 26+4,none⟩=some (.int .u8 x.r.kind)
 c5:w.cell? ⟨b,off+i * 26+5,none⟩=some (.int .u8 x.r.op)
 c6:w.cell? ⟨b,off+i * 26+6,none⟩=some (.int .u8 x.r.bo)
 c7:w.cell? ⟨b,off+i * 26+7,none⟩=some (.int .u8 x.r.a.kind)
 c8:w.cell? ⟨b,off+i * 26+8,none⟩=some (.int .i64 x.r.a.n)
 c9:w.cell? ⟨b,off+i * 26+9,none⟩=some (.int .i64 x.r.a.pl.loc)
 c10:w.cell? ⟨b,off+i * 26+10,none⟩=some (.bool x.r.a.pl.deref)
 c11:w.cell? ⟨b,off+i * 26+11,none⟩=some (.int .u8 x.r.a.pl.field)
 c12:w.cell? ⟨b,off+i * 26+12,none⟩=some (.int .u8 x.r.b.kind)
 c13:w.cell? ⟨b,off+i * 26+13,none⟩=some (.int .i64 x.r.b.n)
 c14:w.cell? ⟨b,off+i * 26+14,none⟩=some (.int .i64 x.r.b.pl.loc)
 c15:w.cell? ⟨b,off+i * 26+15,none⟩=some (.bool x.r.b.pl.deref)
 c16:w.cell? ⟨b,off+i * 26+16,none⟩=some (.int .u8 x.r.b.pl.field)
 c17:w.cell? ⟨b,off+i * 26+17,none⟩=some (.int .i64 x.r.pl.loc)
 c18:w.cell? ⟨b,off+i * 26+18,none⟩=some (.bool x.r.pl.deref)
 c19:w.cell? ⟨b,off+i * 26+19,none⟩=some (.int .u8 x.r.pl.field)
 c20:w.cell? ⟨b,off+i * 26+20,none⟩=some (.int .u8 x.a.kind)
 c21:w.cell? ⟨b,off+i * 26+21,none⟩=some (.int .i64 x.a.n)
 c22:w.cell? ⟨b,off+i * 26+22,none⟩=some (.int .i64 x.a.pl.loc)
 c23:w.cell? ⟨b,off+i * 26+23,none⟩=some (.bool x.a.pl.deref)
 c24:w.cell? ⟨b,off+i * 26+24,none⟩=some (.int .u8 x.a.pl.field)
 c25:w.cell? ⟨b,off+i * 26+25,none⟩=some (.int .i64 x.loc)
 r0:row? w b (off+i * 26) 26=some [.int .u8 x.kind,.int .i64 x.pl.loc,.bool x.pl.deref,.int .u8 x.pl.field,.int .u8 x.r.kind,.int .u8 x.r.op,.int .u8 x.r.bo,.int .u8 x.r.a.kind,.int .i64 x.r.a.n,.int .i64 x.r.a.pl.loc,.bool x.r.a.pl.deref,.int .u8 x.r.a.pl.field,.int .u8 x.r.b.kind,.int .i64 x.r.b.n,.int .i64 x.r.b.pl.loc,.bool x.r.b.pl.deref,.int .u8 x.r.b.pl.field,.int .i64 x.r.pl.loc,.bool x.r.pl.deref,.int .u8 x.r.pl.field,.int .u8 x.a.kind,.int .i64 x.a.n,.int .i64 x.a.pl.loc,.bool x.a.pl.deref,.int .u8 x.a.pl.field,.int .i64 x.loc]
 r1:row? w b (off+i * 26+1) 3=some [.int .i64 x.pl.loc,.bool x.pl.deref,.int .u8 x.pl.field]
 r2:row? w b (off+i * 26+4) 16=some [.int .u8 x.r.kind,.int .u8 x.r.op,.int .u8 x.r.bo,.int .u8 x.r.a.kind,.int .i64 x.r.a.n,.int .i64 x.r.a.pl.loc,.bool x.r.a.pl.deref,.int .u8 x.r.a.pl.field,.int .u8 x.r.b.kind,.int .i64 x.r.b.n,.int .i64 x.r.b.pl.loc,.bool x.r.b.pl.deref,.int .u8 x.r.b.pl.field,.int .i64 x.r.pl.loc,.bool x.r.pl.deref,.int .u8 x.r.pl.field]
 r3:row? w b (off+i * 26+7) 5=some [.int .u8 x.r.a.kind,.int .i64 x.r.a.n,.int .i64 x.r.a.pl.loc,.bool x.r.a.pl.deref,.int .u8 x.r.a.pl.field]
 r4:row? w b (off+i * 26+9) 3=some [.int .i64 x.r.a.pl.loc,.bool x.r.a.pl.deref,.int .u8 x.r.a.pl.field]
 r5:row? w b (off+i * 26+12) 5=some [.int .u8 x.r.b.kind,.int .i64 x.r.b.n,.int .i64 x.r.b.pl.loc,.bool x.r.b.pl.deref,.int .u8 x.r.b.pl.field]
 r6:row? w b (off+i * 26+14) 3=some [.int .i64 x.r.b.pl.loc,.bool x.r.b.pl.deref,.int .u8 x.r.b.pl.field]
 r7:row? w b (off+i * 26+17) 3=some [.int .i64 x.r.pl.loc,.bool x.r.pl.deref,.int .u8 x.r.pl.field]
 r8:row? w b (off+i * 26+20) 5=some [.int .u8 x.a.kind,.int .i64 x.a.n,.int .i64 x.a.pl.loc,.bool x.a.pl.deref,.int .u8 x.a.pl.field]
 r9:row? w b (off+i * 26+22) 3=some [.int .i64 x.a.pl.loc,.bool x.a.pl.deref,.int .u8 x.a.pl.field]
theorem Sl.st {F : Nat→Prop}{w : World}{a : Option Addr}{n cap : Nat}{ts : List St}(h : Sl F w (.slice a n cap) ts)(i : Nat)(hi : i<n): ∃ b off x,a=some ⟨b,off,none⟩∧AtSt F w ts i b off x:=by
 obtain⟨b,off,x,cs,ha,hx,hlt,⟨rfl,hw⟩,hc⟩:=h.get i hi;exact⟨b,off,x,ha,⟨hx,hlt,hw,hc 0 (by simp),hc 1 (by simp),hc 2 (by simp),hc 3 (by simp),hc 4 (by simp),hc 5 (by simp),hc 6 (by simp),hc 7 (by simp),hc 8 (by simp),hc 9 (by simp),hc 10 (by simp),hc 11 (by simp),hc 12 (by simp),hc 13 (by simp),hc 14 (by simp),hc 15 (by simp),hc 16 (by simp),hc 17 (by simp),hc 18 (by simp),hc 19 (by simp),hc 20 (by simp),hc 21 (by simp),hc 22 (by simp),hc 23 (by simp),hc 24 (by simp),hc 25 (by simp),zo hc 0 26 (by simp),zo hc 1 3 (by simp),zo hc 4 16 (by simp),zo hc 7 5 (by simp),zo hc 9 3 (by simp),zo hc 12 5 (by simp),zo hc 14 3 (by simp),zo hc 17 3 (by simp),zo hc 20 5 (by simp),zo hc 22 3 (by simp)⟩⟩
structure AtBk (F : Nat→Prop)(w : World)(ts : List Bk)(i : Nat)(b off : Nat)(x : Bk)(stmts_a : Option Addr)(stmts_n stmts_c : Nat)(jump_args_a : Option Addr)(jump_args_n jump_args_c : Nat): Prop where
 g:Hid (ts[i]?=some x)
 lt:LtW b w
 wf:x.wf
 stmts:Sl F w (.slice stmts_a stmts_n stmts_c) x.stmts
 jump_args:Sl F w (.slice jump_args_a jump_args_n jump_args_c) x.jump.args
 c0:w.cell? ⟨b,off+i * 14,none⟩=some (.slice stmts_a stmts_n stmts_c)
 c1:w.cell? ⟨b,off+i * 14+1,none⟩=some (.int .u8 x.jump.kind)
 c2:w.cell? ⟨b,off+i * 14+2,none⟩=some (.int .u8 x.jump.a.kind)
 c3:w.cell? ⟨b,off+i * 14+3,none⟩=some (.int .i64 x.jump.a.n)
 c4:w.cell? ⟨b,off+i * 14+4,none⟩=some (.int .i64 x.jump.a.pl.loc)
 c5:w.cell? ⟨b,off+i * 14+5,none⟩=some (.bool x.jump.a.pl.deref)
 c6:w.cell? ⟨b,off+i * 14+6,none⟩=some (.int .u8 x.jump.a.pl.field)
 c7:w.cell? ⟨b,off+i * 14+7,none⟩=some (.int .i64 x.jump.fn)
 c8:w.cell? ⟨b,off+i * 14+8,none⟩=some (.int .i64 x.jump.next)
 c9:w.cell? ⟨b,off+i * 14+9,none⟩=some (.int .i64 x.jump.els)
 c10:w.cell? ⟨b,off+i * 14+10,none⟩=some (.slice jump_args_a jump_args_n jump_args_c)
 c11:w.cell? ⟨b,off+i * 14+11,none⟩=some (.int .i64 x.jump.dest.loc)
 c12:w.cell? ⟨b,off+i * 14+12,none⟩=some (.bool x.jump.dest.deref)
 c13:w.cell? ⟨b,off+i * 14+13,none⟩=some (.int .u8 x.jump.dest.field)
 r0:row? w b (off+i * 14) 14=some [.slice stmts_a stmts_n stmts_c,.int .u8 x.jump.kind,.int .u8 x.jump.a.kind,.int .i64 x.jump.a.n,.int .i64 x.jump.a.pl.loc,.bool x.jump.a.pl.deref,.int .u8 x.jump.a.pl.field,.int .i64 x.jump.fn,.int .i64 x.jump.next,.int .i64 x.jump.els,.slice jump_args_a jump_args_n jump_args_c,.int .i64 x.jump.dest.loc,.bool x.jump.dest.deref,.int .u8 x.jump.dest.field]
 r1:row? w b (off+i * 14+1) 13=some [.int .u8 x.jump.kind,.int .u8 x.jump.a.kind,.int .i64 x.jump.a.n,.int .i64 x.jump.a.pl.loc,.bool x.jump.a.pl.deref,.int .u8 x.jump.a.pl.field,.int .i64 x.jump.fn,.int .i64 x.jump.next,.int .i64 x.jump.els,.slice jump_args_a jump_args_n jump_args_c,.int .i64 x.jump.dest.loc,.bool x.jump.dest.deref,.int .u8 x.jump.dest.field]
 r2:row? w b (off+i * 14+2) 5=some [.int .u8 x.jump.a.kind,.int .i64 x.jump.a.n,.int .i64 x.jump.a.pl.loc,.bool x.jump.a.pl.deref,.int .u8 x.jump.a.pl.field]
 r3:row? w b (off+i * 14+4) 3=some [.int .i64 x.jump.a.pl.loc,.bool x.jump.a.pl.deref,.int .u8 x.jump.a.pl.field]
 r4:row? w b (off+i * 14+11) 3=some [.int .i64 x.jump.dest.loc,.bool x.jump.dest.deref,.int .u8 x.jump.dest.field]
theorem Sl.bk {F : Nat→Prop}{w : World}{a : Option Addr}{n cap : Nat}{ts : List Bk}(h : Sl F w (.slice a n cap) ts)(i : Nat)(hi : i<n): ∃ b off x stmts_a stmts_n stmts_c jump_args_a jump_args_n jump_args_c,a=some ⟨b,off,none⟩∧AtBk F w ts i b off x stmts_a stmts_n stmts_c jump_args_a jump_args_n jump_args_c:=by
 obtain⟨b,off,x,cs,ha,hx,hlt,⟨stmts_a,stmts_n,stmts_c,jump_args_a,jump_args_n,jump_args_c,rfl,hw,g0,g1⟩,hc⟩:=h.get i hi;exact⟨b,off,x,stmts_a,stmts_n,stmts_c,jump_args_a,jump_args_n,jump_args_c,ha,⟨hx,hlt,hw,g0,g1,hc 0 (by simp),hc 1 (by simp),hc 2 (by simp),hc 3 (by simp),hc 4 (by simp),hc 5 (by simp),hc 6 (by simp),hc 7 (by simp),hc 8 (by simp),hc 9 (by simp),hc 10 (by simp),hc 11 (by simp),hc 12 (by simp),hc 13 (by simp),zo hc 0 14 (by simp),zo hc 1 13 (by simp),zo hc 2 5 (by simp),zo hc 4 3 (by simp),zo hc 11 3 (by simp)⟩⟩
structure AtFn (F : Nat→Prop)(w : World)(ts : List Fn)(i : Nat)(b off : Nat)(x : Fn)(locals_a : Option Addr)(locals_n locals_c : Nat)(blocks_a : Option Addr)(blocks_n blocks_c : Nat): Prop where
 g:Hid (ts[i]?=some x)
 lt:LtW b w
 wf:x.wf
 locals:Sl F w (.slice locals_a locals_n locals_c) x.locals
 blocks:Sl F w (.slice blocks_a blocks_n blocks_c) x.blocks
 c0:w.cell? ⟨b,off+i * 4,none⟩=some (.int .i64 x.params)
 c1:w.cell? ⟨b,off+i * 4+1,none⟩=some (.bool x.uns)
 c2:w.cell? ⟨b,off+i * 4+2,none⟩=some (.slice locals_a locals_n locals_c)
 c3:w.cell? ⟨b,off+i * 4+3,none⟩=some (.slice blocks_a blocks_n blocks_c)
 r0:row? w b (off+i * 4) 4=some [.int .i64 x.params,.bool x.uns,.slice locals_a locals_n locals_c,.slice blocks_a blocks_n blocks_c]
theorem Sl.fn {F : Nat→Prop}{w : World}{a : Option Addr}{n cap : Nat}{ts : List Fn}(h : Sl F w (.slice a n cap) ts)(i : Nat)(hi : i<n): ∃ b off x locals_a locals_n locals_c blocks_a blocks_n blocks_c,a=some ⟨b,off,none⟩∧AtFn F w ts i b off x locals_a locals_n locals_c blocks_a blocks_n blocks_c:=by
 obtain⟨b,off,x,cs,ha,hx,hlt,⟨locals_a,locals_n,locals_c,blocks_a,blocks_n,blocks_c,rfl,hw,g0,g1⟩,hc⟩:=h.get i hi;exact⟨b,off,x,locals_a,locals_n,locals_c,blocks_a,blocks_n,blocks_c,ha,⟨hx,hlt,hw,g0,g1,hc 0 (by simp),hc 1 (by simp),hc 2 (by simp),hc 3 (by simp),zo hc 0 4 (by simp)⟩⟩
/- The boxes of structs. -/
abbrev bxPl (x : Pl): Obj:=.cells #[.int .i64 x.loc,.bool x.deref,.int .u8 x.field] 43
abbrev bxOpd (x : Opd): Obj:=.cells #[.int .u8 x.kind,.int .i64 x.n,.int .i64 x.pl.loc,.bool x.pl.deref,.int .u8 x.pl.field] 45
abbrev bxRv (x : Rv): Obj:=.cells #[.int .u8 x.kind,.int .u8 x.op,.int .u8 x.bo,.int .u8 x.a.kind,.int .i64 x.a.n,.int .i64 x.a.pl.loc,.bool x.a.pl.deref,.int .u8 x.a.pl.field,.int .u8 x.b.kind,.int .i64 x.b.n,.int .i64 x.b.pl.loc,.bool x.b.pl.deref,.int .u8 x.b.pl.field,.int .i64 x.pl.loc,.bool x.pl.deref,.int .u8 x.pl.field] 93
abbrev bxSt (x : St): Obj:=.cells #[.int .u8 x.kind,.int .i64 x.pl.loc,.bool x.pl.deref,.int .u8 x.pl.field,.int .u8 x.r.kind,.int .u8 x.r.op,.int .u8 x.r.bo,.int .u8 x.r.a.kind,.int .i64 x.r.a.n,.int .i64 x.r.a.pl.loc,.bool x.r.a.pl.deref,.int .u8 x.r.a.pl.field,.int .u8 x.r.b.kind,.int .i64 x.r.b.n,.int .i64 x.r.b.pl.loc,.bool x.r.b.pl.deref,.int .u8 x.r.b.pl.field,.int .i64 x.r.pl.loc,.bool x.r.pl.deref,.int .u8 x.r.pl.field,.int .u8 x.a.kind,.int .i64 x.a.n,.int .i64 x.a.pl.loc,.bool x.a.pl.deref,.int .u8 x.a.pl.field,.int .i64 x.loc] 95
abbrev bxJu (x : Ju)(s1 : Value): Obj:=.cells #[.int .u8 x.kind,.int .u8 x.a.kind,.int .i64 x.a.n,.int .i64 x.a.pl.loc,.bool x.a.pl.deref,.int .u8 x.a.pl.field,.int .i64 x.fn,.int .i64 x.next,.int .i64 x.els,s1,.int .i64 x.dest.loc,.bool x.dest.deref,.int .u8 x.dest.field] 48
abbrev bxBk (x : Bk)(s1 : Value)(s2 : Value): Obj:=.cells #[s1,.int .u8 x.jump.kind,.int .u8 x.jump.a.kind,.int .i64 x.jump.a.n,.int .i64 x.jump.a.pl.loc,.bool x.jump.a.pl.deref,.int .u8 x.jump.a.pl.field,.int .i64 x.jump.fn,.int .i64 x.jump.next,.int .i64 x.jump.els,s2,.int .i64 x.jump.dest.loc,.bool x.jump.dest.deref,.int .u8 x.jump.dest.field] 50
abbrev bxFn (x : Fn)(s1 : Value)(s2 : Value): Obj:=.cells #[.int .i64 x.params,.bool x.uns,s1,s2] 38
abbrev bxPr (x : Pr)(s1 : Value): Obj:=.cells #[s1] 24
set_option linter.unusedVariables false
def ptsR (k : Nat): List Nat→List (Nat×Nat)
 |[]=>[]
 |n::ls=>(List.range n).map (fun i=>(k,i))++ptsR (k+1) ls
def zq (ls : List Nat)(b : Nat): Nat:=(ls.take b).sum
theorem zpf (ls : List Nat): ∀ k,(ptsR k ls).length=ls.sum:=by
 induction ls with
 |nil=>intro k;rfl
 |cons n ls ih=>intro k;rw[ptsR,List.length_append,ih];simp
theorem zzr (ls : List Nat): ∀ (k b i n : Nat),ls[b]?=some n→i<n→(ptsR k ls)[zq ls b+i]?=some (k+b,i):=by
 induction ls with
 |nil=>intro k b i n h;simp at h
 |cons m ls ih =>
  intro k b i n h hi;cases b with
  |zero =>
   simp only[List.getElem?_cons_zero,Option.some.injEq] at h;subst h;rw[ptsR,zq,List.take_zero,List.sum_nil,Nat.zero_add,List.getElem?_append_left (by simpa using hi),List.getElem?_map,List.getElem?_range hi];rfl
  |succ b =>
   simp only[List.getElem?_cons_succ] at h;have:=ih (k+1) b i n h hi
   have e:zq (m::ls) (b+1)+i=m+(zq ls b+i):=by unfold zq;rw[List.take_succ_cons,List.sum_cons];omega
   rw[ptsR,e,List.getElem?_append_right (by simp),List.length_map,List.length_range,Nat.add_sub_cancel_left,this];congr 2;omega
theorem zk1 (ls : List Nat): ∀ (k q : Nat) (p : Nat×Nat),(ptsR k ls)[q]?=some p→∃ b n,p.1=k+b∧ls[b]?=some n∧p.2<n∧q=zq ls b+p.2:=by
 induction ls with
 |nil=>intro k q p h;simp[ptsR] at h
 |cons m ls ih =>
  intro k q p h;rw[ptsR] at h;by_cases hq:q<m
  ·rw[List.getElem?_append_left (by simpa using hq),List.getElem?_map,List.getElem?_range hq] at h;simp only[Option.map_some,Option.some.injEq] at h;subst h;exact⟨0,m,rfl,rfl,hq,by simp[zq]⟩
  ·rw[List.getElem?_append_right (by simpa using hq)] at h;obtain⟨b,n,h1,h2,h3,h4⟩:=ih _ _ _ h;refine⟨b+1,n,by omega,by simpa using h2,h3,?_⟩;simp only[List.length_map,List.length_range] at h4;unfold zq at h4 ⊢;rw[List.take_succ_cons,List.sum_cons];omega
def lensF (f : Fn): List Nat:=f.blocks.map (fun b=>b.stmts.length+1)
def ptsF (f : Fn): List (Nat×Nat):=ptsR 0 (lensF f)
def zb (f : Fn): Nat:=(lensF f).sum
def numF (f : Fn)(p : Nat×Nat): Nat:=zq (lensF f) p.1+p.2
theorem ze1 (f : Fn): (ptsF f).length=zb f:=zpf _ _
theorem zgc {f : Fn}{b i : Nat}{x : Bk}(hb : f.blocks[b]?=some x)(hi : i≤x.stmts.length): (ptsF f)[numF f (b,i)]?=some (b,i):=by
 have:=zzr (lensF f) 0 b i (x.stmts.length+1) (by unfold lensF;rw[List.getElem?_map,hb];rfl) om
 rw[Nat.zero_add] at this;exact this
theorem zk2 {f : Fn}{q : Nat}{p : Nat×Nat}(h : (ptsF f)[q]?=some p): numF f p=q∧∃ x,f.blocks[p.1]?=some x∧p.2≤x.stmts.length:=by
 obtain⟨b,n,h1,h2,h3,h4⟩:=zk1 _ _ _ _ h;rw[Nat.zero_add] at h1;subst h1;unfold lensF at h2;rw[List.getElem?_map] at h2;obtain⟨x,hx,rfl⟩:=Option.map_eq_some_iff.1 h2;exact⟨by unfold numF;exact h4.symm,x,hx,by omega⟩
structure Pt where
 block:Int
 index:Int
deriving DecidableEq
structure Dd where
 loc:Int
 read:Bool
 set:Bool
 unset:Bool
deriving DecidableEq
structure Lo where
 at_:Int
 pl:Pl
 bo:Int
 loc:Int
deriving DecidableEq
structure Cn where
 from_:Int
 to:Int
 at_:Int
 why:Int
deriving DecidableEq
structure Th where
 pl:Pl
 write:Bool
 deep:Bool
deriving DecidableEq
structure Cl where
 at_:Int
 loan:Int
 touch:Th
deriving DecidableEq
structure Pt.wf (x : Pt): Prop where
 block:I64 x.block
 index:I64 x.index
structure Dd.wf (x : Dd): Prop where
 loc:I64 x.loc
structure Lo.wf (x : Lo): Prop where
 at_:I64 x.at_
 pl:x.pl.wf
 bo:U8 x.bo
 loc:I64 x.loc
structure Cn.wf (x : Cn): Prop where
 from_:I64 x.from_
 to:I64 x.to
 at_:I64 x.at_
 why:U8 x.why
structure Th.wf (x : Th): Prop where
 pl:x.pl.wf
structure Cl.wf (x : Cl): Prop where
 at_:I64 x.at_
 loan:I64 x.loan
 touch:x.touch.wf
abbrev Pt.c (x : Pt): List Value:=[.int .i64 x.block,.int .i64 x.index]
abbrev Pt.v (x : Pt): Value:=.agg #[.int .i64 x.block,.int .i64 x.index]
abbrev Dd.c (x : Dd): List Value:=[.int .i64 x.loc,.bool x.read,.bool x.set,.bool x.unset]
abbrev Dd.v (x : Dd): Value:=.agg #[.int .i64 x.loc,.bool x.read,.bool x.set,.bool x.unset]
abbrev Lo.c (x : Lo): List Value:=[.int .i64 x.at_,.int .i64 x.pl.loc,.bool x.pl.deref,.int .u8 x.pl.field,.int .u8 x.bo,.int .i64 x.loc]
abbrev Lo.v (x : Lo): Value:=.agg #[.int .i64 x.at_,.int .i64 x.pl.loc,.bool x.pl.deref,.int .u8 x.pl.field,.int .u8 x.bo,.int .i64 x.loc]
abbrev Cn.c (x : Cn): List Value:=[.int .i64 x.from_,.int .i64 x.to,.int .i64 x.at_,.int .u8 x.why]
abbrev Cn.v (x : Cn): Value:=.agg #[.int .i64 x.from_,.int .i64 x.to,.int .i64 x.at_,.int .u8 x.why]
abbrev Th.c (x : Th): List Value:=[.int .i64 x.pl.loc,.bool x.pl.deref,.int .u8 x.pl.field,.bool x.write,.bool x.deep]
abbrev Th.v (x : Th): Value:=.agg #[.int .i64 x.pl.loc,.bool x.pl.deref,.int .u8 x.pl.field,.bool x.write,.bool x.deep]
abbrev Cl.c (x : Cl): List Value:=[.int .i64 x.at_,.int .i64 x.loan,.int .i64 x.touch.pl.loc,.bool x.touch.pl.deref,.int .u8 x.touch.pl.field,.bool x.touch.write,.bool x.touch.deep]
abbrev Cl.v (x : Cl): Value:=.agg #[.int .i64 x.at_,.int .i64 x.loan,.int .i64 x.touch.pl.loc,.bool x.touch.pl.deref,.int .u8 x.touch.pl.field,.bool x.touch.write,.bool x.touch.deep]
instance : Rp Pt where
 sz:=2
 R _ _ t cs:=cs=t.c∧t.wf
 len h:=by obtain⟨rfl,_⟩:=h;rfl
 keep _ h:=h
 wide _ h:=h
theorem sz_pt : Rp.sz Pt=2:=rfl
attribute [go_sem] sz_pt
instance : Rp Dd where
 sz:=4
 R _ _ t cs:=cs=t.c∧t.wf
 len h:=by obtain⟨rfl,_⟩:=h;rfl
 keep _ h:=h
 wide _ h:=h
theorem sz_dd : Rp.sz Dd=4:=rfl
attribute [go_sem] sz_dd
instance : Rp Lo where
 sz:=6
 R _ _ t cs:=cs=t.c∧t.wf
 len h:=by obtain⟨rfl,_⟩:=h;rfl
 keep _ h:=h
 wide _ h:=h
theorem sz_lo : Rp.sz Lo=6:=rfl
attribute [go_sem] sz_lo
instance : Rp Cn where
 sz:=4
 R _ _ t cs:=cs=t.c∧t.wf
 len h:=by obtain⟨rfl,_⟩:=h;rfl
 keep _ h:=h
 wide _ h:=h
theorem sz_cn : Rp.sz Cn=4:=rfl
attribute [go_sem] sz_cn
instance : Rp Th where
 sz:=5
 R _ _ t cs:=cs=t.c∧t.wf
 len h:=by obtain⟨rfl,_⟩:=h;rfl
 keep _ h:=h
 wide _ h:=h
theorem sz_th : Rp.sz Th=5:=rfl
attribute [go_sem] sz_th
instance : Rp Cl where
 sz:=7
 R _ _ t cs:=cs=t.c∧t.wf
 len h:=by obtain⟨rfl,_⟩:=h;rfl
 keep _ h:=h
 wide _ h:=h
theorem sz_cl : Rp.sz Cl=7:=rfl
attribute [go_sem] sz_cl
structure AtPt (F : Nat→Prop)(w : World)(ts : List Pt)(i : Nat)(b off : Nat)(x : Pt): Prop where
 g:Hid (ts[i]?=some x)
 lt:LtW b w
 wf:x.wf
 c0:w.cell? ⟨b,off+i * 2,none⟩=some (.int .i64 x.block)
 c1:w.cell? ⟨b,off+i * 2+1,none⟩=some (.int .i64 x.index)
 r0:row? w b (off+i * 2) 2=some [.int .i64 x.block,.int .i64 x.index]
theorem Sl.pt {F : Nat→Prop}{w : World}{a : Option Addr}{n cap : Nat}{ts : List Pt}(h : Sl F w (.slice a n cap) ts)(i : Nat)(hi : i<n): ∃ b off x,a=some ⟨b,off,none⟩∧AtPt F w ts i b off x:=by
 obtain⟨b,off,x,cs,ha,hx,hlt,⟨rfl,hw⟩,hc⟩:=h.get i hi;exact⟨b,off,x,ha,⟨hx,hlt,hw,hc 0 (by simp),hc 1 (by simp),zo hc 0 2 (by simp)⟩⟩
structure AtDd (F : Nat→Prop)(w : World)(ts : List Dd)(i : Nat)(b off : Nat)(x : Dd): Prop where
 g:Hid (ts[i]?=some x)
 lt:LtW b w
 wf:x.wf
 c0:w.cell? ⟨b,off+i * 4,none⟩=some (.int .i64 x.loc)
 c1:w.cell? ⟨b,off+i * 4+1,none⟩=some (.bool x.read)
 c2:w.cell? ⟨b,off+i * 4+2,none⟩=some (.bool x.set)
 c3:w.cell? ⟨b,off+i * 4+3,none⟩=some (.bool x.unset)
 r0:row? w b (off+i * 4) 4=some [.int .i64 x.loc,.bool x.read,.bool x.set,.bool x.unset]
theorem Sl.dd {F : Nat→Prop}{w : World}{a : Option Addr}{n cap : Nat}{ts : List Dd}(h : Sl F w (.slice a n cap) ts)(i : Nat)(hi : i<n): ∃ b off x,a=some ⟨b,off,none⟩∧AtDd F w ts i b off x:=by
 obtain⟨b,off,x,cs,ha,hx,hlt,⟨rfl,hw⟩,hc⟩:=h.get i hi;exact⟨b,off,x,ha,⟨hx,hlt,hw,hc 0 (by simp),hc 1 (by simp),hc 2 (by simp),hc 3 (by simp),zo hc 0 4 (by simp)⟩⟩
structure AtLo (F : Nat→Prop)(w : World)(ts : List Lo)(i : Nat)(b off : Nat)(x : Lo): Prop where
 g:Hid (ts[i]?=some x)
 lt:LtW b w
 wf:x.wf
 c0:w.cell? ⟨b,off+i * 6,none⟩=some (.int .i64 x.at_)
 c1:w.cell? ⟨b,off+i * 6+1,none⟩=some (.int .i64 x.pl.loc)
 c2:w.cell? ⟨b,off+i * 6+2,none⟩=some (.bool x.pl.deref)
 c3:w.cell? ⟨b,off+i * 6+3,none⟩=some (.int .u8 x.pl.field)
 c4:w.cell? ⟨b,off+i * 6+4,none⟩=some (.int .u8 x.bo)
 c5:w.cell? ⟨b,off+i * 6+5,none⟩=some (.int .i64 x.loc)
 r0:row? w b (off+i * 6) 6=some [.int .i64 x.at_,.int .i64 x.pl.loc,.bool x.pl.deref,.int .u8 x.pl.field,.int .u8 x.bo,.int .i64 x.loc]
 r1:row? w b (off+i * 6+1) 3=some [.int .i64 x.pl.loc,.bool x.pl.deref,.int .u8 x.pl.field]
theorem Sl.lo {F : Nat→Prop}{w : World}{a : Option Addr}{n cap : Nat}{ts : List Lo}(h : Sl F w (.slice a n cap) ts)(i : Nat)(hi : i<n): ∃ b off x,a=some ⟨b,off,none⟩∧AtLo F w ts i b off x:=by
 obtain⟨b,off,x,cs,ha,hx,hlt,⟨rfl,hw⟩,hc⟩:=h.get i hi;exact⟨b,off,x,ha,⟨hx,hlt,hw,hc 0 (by simp),hc 1 (by simp),hc 2 (by simp),hc 3 (by simp),hc 4 (by simp),hc 5 (by simp),zo hc 0 6 (by simp),zo hc 1 3 (by simp)⟩⟩
structure AtCn (F : Nat→Prop)(w : World)(ts : List Cn)(i : Nat)(b off : Nat)(x : Cn): Prop where
 g:Hid (ts[i]?=some x)
 lt:LtW b w
 wf:x.wf
 c0:w.cell? ⟨b,off+i * 4,none⟩=some (.int .i64 x.from_)
 c1:w.cell? ⟨b,off+i * 4+1,none⟩=some (.int .i64 x.to)
 c2:w.cell? ⟨b,off+i * 4+2,none⟩=some (.int .i64 x.at_)
 c3:w.cell? ⟨b,off+i * 4+3,none⟩=some (.int .u8 x.why)
 r0:row? w b (off+i * 4) 4=some [.int .i64 x.from_,.int .i64 x.to,.int .i64 x.at_,.int .u8 x.why]
theorem Sl.cn {F : Nat→Prop}{w : World}{a : Option Addr}{n cap : Nat}{ts : List Cn}(h : Sl F w (.slice a n cap) ts)(i : Nat)(hi : i<n): ∃ b off x,a=some ⟨b,off,none⟩∧AtCn F w ts i b off x:=by
 obtain⟨b,off,x,cs,ha,hx,hlt,⟨rfl,hw⟩,hc⟩:=h.get i hi;exact⟨b,off,x,ha,⟨hx,hlt,hw,hc 0 (by simp),hc 1 (by simp),hc 2 (by simp),hc 3 (by simp),zo hc 0 4 (by simp)⟩⟩
structure AtTh (F : Nat→Prop)(w : World)(ts : List Th)(i : Nat)(b off : Nat)(x : Th): Prop where
 g:Hid (ts[i]?=some x)
 lt:LtW b w
 wf:x.wf
 c0:w.cell? ⟨b,off+i * 5,none⟩=some (.int .i64 x.pl.loc)
 c1:w.cell? ⟨b,off+i * 5+1,none⟩=some (.bool x.pl.deref)
 c2:w.cell? ⟨b,off+i * 5+2,none⟩=some (.int .u8 x.pl.field)
 c3:w.cell? ⟨b,off+i * 5+3,none⟩=some (.bool x.write)
 c4:w.cell? ⟨b,off+i * 5+4,none⟩=some (.bool x.deep)
 r0:row? w b (off+i * 5) 5=some [.int .i64 x.pl.loc,.bool x.pl.deref,.int .u8 x.pl.field,.bool x.write,.bool x.deep]
 r1:row? w b (off+i * 5) 3=some [.int .i64 x.pl.loc,.bool x.pl.deref,.int .u8 x.pl.field]
theorem Sl.th {F : Nat→Prop}{w : World}{a : Option Addr}{n cap : Nat}{ts : List Th}(h : Sl F w (.slice a n cap) ts)(i : Nat)(hi : i<n): ∃ b off x,a=some ⟨b,off,none⟩∧AtTh F w ts i b off x:=by
 obtain⟨b,off,x,cs,ha,hx,hlt,⟨rfl,hw⟩,hc⟩:=h.get i hi;exact⟨b,off,x,ha,⟨hx,hlt,hw,hc 0 (by simp),hc 1 (by simp),hc 2 (by simp),hc 3 (by simp),hc 4 (by simp),zo hc 0 5 (by simp),zo hc 0 3 (by simp)⟩⟩
structure AtCl (F : Nat→Prop)(w : World)(ts : List Cl)(i : Nat)(b off : Nat)(x : Cl): Prop where
 g:Hid (ts[i]?=some x)
 lt:LtW b w
 wf:x.wf
 c0:w.cell? ⟨b,off+i * 7,none⟩=some (.int .i64 x.at_)
 c1:w.cell? ⟨b,off+i * 7+1,none⟩=some (.int .i64 x.loan)
 c2:w.cell? ⟨b,off+i * 7+2,none⟩=some (.int .i64 x.touch.pl.loc)
 c3:w.cell? ⟨b,off+i * 7+3,none⟩=some (.bool x.touch.pl.deref)
 c4:w.cell? ⟨b,off+i * 7+4,none⟩=some (.int .u8 x.touch.pl.field)
 c5:w.cell? ⟨b,off+i * 7+5,none⟩=some (.bool x.touch.write)
 c6:w.cell? ⟨b,off+i * 7+6,none⟩=some (.bool x.touch.deep)
 r0:row? w b (off+i * 7) 7=some [.int .i64 x.at_,.int .i64 x.loan,.int .i64 x.touch.pl.loc,.bool x.touch.pl.deref,.int .u8 x.touch.pl.field,.bool x.touch.write,.bool x.touch.deep]
 r1:row? w b (off+i * 7+2) 5=some [.int .i64 x.touch.pl.loc,.bool x.touch.pl.deref,.int .u8 x.touch.pl.field,.bool x.touch.write,.bool x.touch.deep]
 r2:row? w b (off+i * 7+2) 3=some [.int .i64 x.touch.pl.loc,.bool x.touch.pl.deref,.int .u8 x.touch.pl.field]
theorem Sl.cl {F : Nat→Prop}{w : World}{a : Option Addr}{n cap : Nat}{ts : List Cl}(h : Sl F w (.slice a n cap) ts)(i : Nat)(hi : i<n): ∃ b off x,a=some ⟨b,off,none⟩∧AtCl F w ts i b off x:=by
 obtain⟨b,off,x,cs,ha,hx,hlt,⟨rfl,hw⟩,hc⟩:=h.get i hi;exact⟨b,off,x,ha,⟨hx,hlt,hw,hc 0 (by simp),hc 1 (by simp),hc 2 (by simp),hc 3 (by simp),hc 4 (by simp),hc 5 (by simp),hc 6 (by simp),zo hc 0 7 (by simp),zo hc 2 5 (by simp),zo hc 2 3 (by simp)⟩⟩
/- The boxes of structs. -/
abbrev bxLo (x : Lo): Obj:=.cells #[.int .i64 x.at_,.int .i64 x.pl.loc,.bool x.pl.deref,.int .u8 x.pl.field,.int .u8 x.bo,.int .i64 x.loc] 136
abbrev bxTh (x : Th): Obj:=.cells #[.int .i64 x.pl.loc,.bool x.pl.deref,.int .u8 x.pl.field,.bool x.write,.bool x.deep] 111
end Go.Proofs.YtacmoaeglbggjaaGreat
