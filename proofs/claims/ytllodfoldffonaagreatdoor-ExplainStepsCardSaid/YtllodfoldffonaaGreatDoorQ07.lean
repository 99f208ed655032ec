/- A part of the proof. -/
import Derived.Test.YtllodfoldffonaaGreatDoorChecked
import Derived.Eval
import Derived.Test.YtllodfoldffonaaGreatDoorQ06
namespace Go.Proofs.YtllodfoldffonaaGreatDoor
open Tryz AM Go.RowKit
set_option linter.unusedSimpArgs false
set_option linter.unusedVariables false
set_option linter.defProp false
set_option maxRecDepth 100000
set_option maxHeartbeats 16000000
variable {A:(Nat->AM.Id)->List Ob}{A':(Nat->AM.Id)->(Nat->Nat×Nat)->List Ob}{H:Hp}{N:Nat}{T:Type}{X:Nat->Prop}{caps:List AV}{f:Nat}{fn:Func}{g:Nat}{i:Nat}{l:List (List AV)}{n:Nat}{p:Prop}{q:Prop}{rows:List (List AV)}{rs:List ResultVar}{v:(Nat->AM.Id)->(Nat->Nat×Nat)->AV}
theorem om(h:p:=by omega): p:=h
theorem dk(h:p:=by decide +kernel): p:=h
theorem sm(h:p:=by simp): p:=h
theorem ai {a b:Prop}(h:a)(k:b): a/\b:=⟨h,k⟩
abbrev zK (f:Nat)(l:List AV)(v:AV):=K1 Tryz.prog f l v
abbrev zO (f:Nat)(l:List AV)(s:Nat)(t:TypeId)(r:List (List AV))(v:AM.Id->Nat->Nat->AV):=KO Tryz.prog f l s t r v
abbrev zP (f:Nat)(l:List AV)(a:List Ob)(v:AV)(b:List Ob):=KP Tryz.prog f l a v b
abbrev zG (f n:Nat)(l:(Nat->AM.Id)->List AV)(a:(Nat->AM.Id)->List Ob)(v:(Nat->AM.Id)->(Nat->Nat×Nat)->AV)(b:(Nat->AM.Id)->(Nat->Nat×Nat)->List Ob):=KG Tryz.prog f n l a v b
abbrev zr0:List AV:=[.bool false,.nils,.int .i64 0,.nils,.nils,.int .i64 0,.int .i64 0,.nils,.nils,.nils]
attribute [go_sem] zr0
abbrev iI (n:Int): AV:=.int .i64 n
abbrev iU (n:Int): AV:=.int .u8 n
abbrev u0:AM.Id:=.u (.l 0)
abbrev u1:AM.Id:=.u (.l 1)
attribute [go_sem] iI iU u0 u1
def zE:=@List.getElem?_eq_getElem
def zS:=@List.getElem?_eq_some_iff
def zM:=@List.getElem_mem
def zT:=@List.take_of_length_le
def zD:=@List.getD_eq_getElem?_getD
def zC:=@Classical.byContradiction
def zF:=@List.mem_of_getElem?
def zA:=@List.all_eq_true
def zB:=@Bool.and_eq_true
def zH:=@Option.getD_some
def zI:=@List.any_eq_false
def zJ:=@List.mem_append
def zL:=@decide_eq_true_eq
def zN:=@decide_eq_false_iff_not
def zQ:=@Option.some.injEq
def zR:=@List.getElem_map
def zU:=@List.length_map
def zV:=@List.map_append
def zX:=@List.mem_singleton
def zY:=@Option.some.inj
def hP:wI Tryz.prog:=.of (Checked.mixed Tryz.checked) (by kernel_rfl)
def eK (B:List Nat){c:Code}{l:List AV}{v:AV}(b:(Tryz.prog).funcs[f]?=some fn)(h:∀X,AM.avc Tryz.prog X N B c (stQ Tryz.prog X N B [] (eU Tryz.prog rs v)) (fr0 0 l) (λ_=>none))
  (hb:fn.body=some c:=by rfl) (a:fn.ntmps=N:=by rfl) (e:fn.results.toList=rs:=by rfl) (hl:l.length<=N:=by exact Nat.le_of_ble_eq_true rfl) (d:yS N B c=true:=by decide +kernel):zK f l v:=K1.avc B hP b hb a e hl d h
def eP (B:List Nat){c:Code}{l:List AV}{v:AV}{As a:List Ob}(d:(Tryz.prog).funcs[f]?=some fn)(h:∀X,AM.avc Tryz.prog X N B c (stQ Tryz.prog X N B [] (Zc Tryz.prog rs v a)) (fr0 0 l) (vJ As))
  (hb:fn.body=some c:=by rfl) (b:fn.ntmps=N:=by rfl) (j:fn.results.toList=rs:=by rfl) (hl:l.length<=N:=by exact Nat.le_of_ble_eq_true rfl) (e:yS N B c=true:=by decide +kernel):zP f l As v a:=KP.avc B hP d hb b j hl e h
def eO (B:List Nat){c:Code}{l:List AV}{s:Nat}{t:TypeId}{v:AM.Id->Nat->Nat->AV}(d:(Tryz.prog).funcs[f]?=some fn)(h:∀X,AM.avc Tryz.prog X N B c (stQ Tryz.prog X N B [] (Za Tryz.prog rs s t rows v)) (fr0 0 l) (λ_=>none))
  (hb:fn.body=some c:=by rfl) (a:fn.ntmps=N:=by rfl) (k:fn.results.toList=rs:=by rfl) (hl:l.length<=N:=by exact Nat.le_of_ble_eq_true rfl) (e:yS N B c=true:=by decide +kernel)
  (m:∀i j b c X w u,RV X w (v i b c) u->RV X w (v j b c) u:=by exact λ_ _ _ _ _ _ _ h=>by simpa only[RV,RL] using h):zO f l s t rows v:=KO.avc B hP d hb a k hl e m h
def eG (B:List Nat){f n:Nat}{c:Code}{l:(Nat->AM.Id)->List AV}(r:(Tryz.prog).funcs[f]?=some fn)
  (h:∀X,AM.avc Tryz.prog X N B c (stQ Tryz.prog X N B [] (Zn Tryz.prog rs n v A')) (fr0 0 (l ιu)) (hpi ιu (A ιu)))
  (hb:fn.body=some c:=by rfl) (o:fn.ntmps=N:=by rfl) (t:fn.results.toList=rs:=by rfl) (hl:(l ιu).length<=N:=by exact Nat.le_of_ble_eq_true rfl) (s:yS N B c=true:=by decide +kernel)
  (e:∀ι,(A ι).length<=n:=by exact λ_=>Nat.le_of_ble_eq_true rfl) (b:∀ι q,(A' ι q).length=n:=by exact λ_ _=>rfl)
  (j:∀ι a,yy (A ι) (A a):=by intro _ _;repeat'(first|exact yy.nil|refine yy.cons ?_ ?_|exact obq.refl _|exact obq.row rfl (λ_ _ _ h=>by simpa only[RL,RV] using h)|exact⟨rfl,rfl,rfl,rfl,rfl,rfl,λ_ _ _ _ _ h=>by simpa only[RR,RL,RV] using h⟩))
  (d:∀ι a q,yy (A' ι q) (A' a q):=by intro _ _ _;repeat'(first|exact yy.nil|refine yy.cons ?_ ?_|exact obq.refl _|exact obq.row rfl (λ_ _ _ h=>by simpa only[RL,RV] using h)|exact⟨rfl,rfl,rfl,rfl,rfl,rfl,λ_ _ _ _ _ h=>by simpa only[RR,RL,RV] using h⟩))
  (k:∀ι a X w cl,RL X w (l ι) cl->RL X w (l a) cl:=by exact λ_ _ _ _ _ h=>by simpa only[RL,RV] using h) (m:∀ι a q X w u,RV X w (v ι q) u->RV X w (v a q) u:=by exact λ_ _ _ _ _ _ h=>by simpa only[RV,RL] using h):zG f n l A v A':=KG.avc B hP r hb o t hl s e b j d k m h
def aO(B:List Nat){c:Code}{Q:AQ}{f:Fr}(h:avc Tryz.prog X N B c (stQ Tryz.prog X N B [] Q) f H)(a:yS N B c=true:=by decide +kernel): AW Tryz.prog X N c Q f H:=tX hP a h
def ek(B:List Nat){c:Code}{l:List AV}{v:AV}(b:(Tryz.prog).funcs[f]?=some fn)(h:q)
  (hb:fn.body=some c:=by rfl) (a:fn.ntmps=N:=by rfl) (j:fn.results.toList=rs:=by rfl) (hl:l.length<=N:=by exact Nat.le_of_ble_eq_true rfl) (d:yS N B c=true:=by decide +kernel) (e:(∀X,AM.avc Tryz.prog X N B c (stQ Tryz.prog X N B [] (eU Tryz.prog rs v)) (fr0 0 l) (λ_=>none))=q:=by((try go_simp);first|exact Iff.rfl|exact rfl|exact trivial)):zK f l v:=K1.avc B hP b hb a j hl d (e▸h)
def ep(B:List Nat){c:Code}{l:List AV}{v:AV}{As a:List Ob}(d:(Tryz.prog).funcs[f]?=some fn)(h:q)
  (hb:fn.body=some c:=by rfl) (b:fn.ntmps=N:=by rfl) (k:fn.results.toList=rs:=by rfl) (hl:l.length<=N:=by exact Nat.le_of_ble_eq_true rfl) (j:yS N B c=true:=by decide +kernel) (e:(∀X,AM.avc Tryz.prog X N B c (stQ Tryz.prog X N B [] (Zc Tryz.prog rs v a)) (fr0 0 l) (vJ As))=q:=by((try go_simp);first|exact Iff.rfl|exact rfl|exact trivial)):zP f l As v a:=KP.avc B hP d hb b k hl j (e▸h)
def eo(B:List Nat){c:Code}{l:List AV}{s:Nat}{t:TypeId}{v:AM.Id->Nat->Nat->AV}(d:(Tryz.prog).funcs[f]?=some fn)(h:q)
  (hb:fn.body=some c:=by rfl) (a:fn.ntmps=N:=by rfl) (m:fn.results.toList=rs:=by rfl) (hl:l.length<=N:=by exact Nat.le_of_ble_eq_true rfl) (k:yS N B c=true:=by decide +kernel)
  (n:∀i j b c X w u,RV X w (v i b c) u->RV X w (v j b c) u:=by exact λ_ _ _ _ _ _ _ h=>by simpa only[RV,RL] using h) (e:(∀X,AM.avc Tryz.prog X N B c (stQ Tryz.prog X N B [] (Za Tryz.prog rs s t rows v)) (fr0 0 l) (λ_=>none))=q:=by((try go_simp);first|exact Iff.rfl|exact rfl|exact trivial)):zO f l s t rows v:=KO.avc B hP d hb a m hl k n (e▸h)
def eg(B:List Nat){f n:Nat}{c:Code}{l:(Nat->AM.Id)->List AV}(s:(Tryz.prog).funcs[f]?=some fn)
  (h:q)
  (hb:fn.body=some c:=by rfl) (r:fn.ntmps=N:=by rfl) (x:fn.results.toList=rs:=by rfl) (hl:(l ιu).length<=N:=by exact Nat.le_of_ble_eq_true rfl) (t:yS N B c=true:=by decide +kernel)
  (j:∀ι,(A ι).length<=n:=by exact λ_=>Nat.le_of_ble_eq_true rfl) (b:∀ι q,(A' ι q).length=n:=by exact λ_ _=>rfl)
  (k:∀ι a,yy (A ι) (A a):=by intro _ _;repeat'(first|exact yy.nil|refine yy.cons ?_ ?_|exact obq.refl _|exact obq.row rfl (λ_ _ _ h=>by simpa only[RL,RV] using h)|exact⟨rfl,rfl,rfl,rfl,rfl,rfl,λ_ _ _ _ _ h=>by simpa only[RR,RL,RV] using h⟩))
  (d:∀ι a q,yy (A' ι q) (A' a q):=by intro _ _ _;repeat'(first|exact yy.nil|refine yy.cons ?_ ?_|exact obq.refl _|exact obq.row rfl (λ_ _ _ h=>by simpa only[RL,RV] using h)|exact⟨rfl,rfl,rfl,rfl,rfl,rfl,λ_ _ _ _ _ h=>by simpa only[RR,RL,RV] using h⟩))
  (m:∀ι a X w cl,RL X w (l ι) cl->RL X w (l a) cl:=by exact λ_ _ _ _ _ h=>by simpa only[RL,RV] using h) (o:∀ι a q X w u,RV X w (v ι q) u->RV X w (v a q) u:=by exact λ_ _ _ _ _ _ h=>by simpa only[RV,RL] using h) (e:(∀X,AM.avc Tryz.prog X N B c (stQ Tryz.prog X N B [] (Zn Tryz.prog rs n v A')) (fr0 0 (l ιu)) (hpi ιu (A ιu)))=q:=by((try go_simp);first|exact Iff.rfl|exact rfl|exact trivial)):zG f n l A v A':=KG.avc B hP s hb r x hl t j b k d m o (e▸h)
def cg {P:Program}{m:Bool}{k:AV->Hp->Prop}{l:List AV}{v:AV}(h:K1 P g l v)(a:q)(e:k v H=q:=by((try go_simp);first|exact Iff.rfl|exact rfl|exact trivial)): wu m P g l H k:=zd h (e▸a)
def lG {G:Type}(B:List Nat){c:Code}{Q:AQ}{f:Fr}(F:G->List (Nat×AV))(HH:G->List (AM.Id×Ob))(inv:G->Prop)(μ:G->Nat)(g0:G)
  (h:∀g,inv g->avc Tryz.prog X N B c (stQ Tryz.prog X N B [] (mz F HH inv μ g Q)) (frl (F g)) (hpl (HH g))) (ho:yS N B c=true:=by decide +kernel) (h0:inv g0:=by simp) (hf:fle (F g0) f:=by(go_simp;try rfl)) (hH:hle (HH g0) H:=by(go_simp;try rfl)):AW Tryz.prog X N (.loop c) Q f H:=zf hP F HH inv μ g0 ho h0 hf hH h
def lN(B:List Nat){c:Code}{Q:AQ}{f:Fr}(F:Nat->List (Nat×AV))(HH:Nat->List (AM.Id×Ob))(inv:Nat->Prop)(μ:Nat->Nat)(g0:Nat)
  (h:∀g,inv g->avc Tryz.prog X N B c (stQ Tryz.prog X N B [] (mz F HH inv μ g Q)) (frl (F g)) (hpl (HH g))) (ho:yS N B c=true:=by decide +kernel) (h0:inv g0:=by simp) (hf:fle (F g0) f:=by(go_simp;try rfl)) (hH:hle (HH g0) H:=by(go_simp;try rfl)):AW Tryz.prog X N (.loop c) Q f H:=zf hP F HH inv μ g0 ho h0 hf hH h
structure Ty where
 kind:Int
 to:Int
deriving DecidableEq
structure Pl where
 loc:Int
 deref:Bool
 field:Int
deriving DecidableEq
structure Opd where
 kind:Int
 n:Int
 pl:Pl
deriving DecidableEq
structure Rv where
 kind:Int
 op:Int
 bo:Int
 a:Opd
 b:Opd
 pl:Pl
deriving DecidableEq
structure St where
 kind:Int
 pl:Pl
 r:Rv
 a:Opd
 loc:Int
deriving DecidableEq
structure Ju where
 kind:Int
 a:Opd
 fn:Int
 next:Int
 els:Int
 args:List Opd
 dest:Pl
deriving DecidableEq
structure Bk where
 stmts:List St
 jump:Ju
deriving DecidableEq
structure Fn where
 params:Int
 uns:Bool
 locals:List Ty
 blocks:List Bk
deriving DecidableEq
structure Pr where
 funcs:List Fn
deriving DecidableEq
def Ty.c (x:Ty): List AV:=[.int .u8 x.kind,.int .u8 x.to]
def Pl.c (x:Pl): List AV:=[.int .i64 x.loc,.bool x.deref,.int .u8 x.field]
def Opd.c (x:Opd): List AV:=[.int .u8 x.kind,.int .i64 x.n,.int .i64 x.pl.loc,.bool x.pl.deref,.int .u8 x.pl.field]
def Rv.c (x:Rv): List AV:=[.int .u8 x.kind,.int .u8 x.op,.int .u8 x.bo,.int .u8 x.a.kind,.int .i64 x.a.n,.int .i64 x.a.pl.loc,.bool x.a.pl.deref,.int .u8 x.a.pl.field,.int .u8 x.b.kind,.int .i64 x.b.n,.int .i64 x.b.pl.loc,.bool x.b.pl.deref,.int .u8 x.b.pl.field,.int .i64 x.pl.loc,.bool x.pl.deref,.int .u8 x.pl.field]
def St.c (x:St): List AV:=[.int .u8 x.kind,.int .i64 x.pl.loc,.bool x.pl.deref,.int .u8 x.pl.field,.int .u8 x.r.kind,.int .u8 x.r.op,.int .u8 x.r.bo,.int .u8 x.r.a.kind,.int .i64 x.r.a.n,.int .i64 x.r.a.pl.loc,.bool x.r.a.pl.deref,.int .u8 x.r.a.pl.field,.int .u8 x.r.b.kind,.int .i64 x.r.b.n,.int .i64 x.r.b.pl.loc,.bool x.r.b.pl.deref,.int .u8 x.r.b.pl.field,.int .i64 x.r.pl.loc,.bool x.r.pl.deref,.int .u8 x.r.pl.field,.int .u8 x.a.kind,.int .i64 x.a.n,.int .i64 x.a.pl.loc,.bool x.a.pl.deref,.int .u8 x.a.pl.field,.int .i64 x.loc]
def Ju.c (x:Ju): List AV:=[.int .u8 x.kind,.int .u8 x.a.kind,.int .i64 x.a.n,.int .i64 x.a.pl.loc,.bool x.a.pl.deref,.int .u8 x.a.pl.field,.int .i64 x.fn,.int .i64 x.next,.int .i64 x.els,.vec 5 (x.args.map Opd.c),.int .i64 x.dest.loc,.bool x.dest.deref,.int .u8 x.dest.field]
def Bk.c (x:Bk): List AV:=[.vec 26 (x.stmts.map St.c),.int .u8 x.jump.kind,.int .u8 x.jump.a.kind,.int .i64 x.jump.a.n,.int .i64 x.jump.a.pl.loc,.bool x.jump.a.pl.deref,.int .u8 x.jump.a.pl.field,.int .i64 x.jump.fn,.int .i64 x.jump.next,.int .i64 x.jump.els,.vec 5 (x.jump.args.map Opd.c),.int .i64 x.jump.dest.loc,.bool x.jump.dest.deref,.int .u8 x.jump.dest.field]
def Fn.c (x:Fn): List AV:=[.int .i64 x.params,.bool x.uns,.vec 2 (x.locals.map Ty.c),.vec 14 (x.blocks.map Bk.c)]
def Pr.c (x:Pr): List AV:=[.vec 4 (x.funcs.map Fn.c)]
def Ty.a (x:Ty): AV:=.agg x.c
def Pl.a (x:Pl): AV:=.agg x.c
def Opd.a (x:Opd): AV:=.agg x.c
def Rv.a' (x:Rv): AV:=.agg x.c
def St.a' (x:St): AV:=.agg x.c
def Ju.a' (x:Ju): AV:=.agg x.c
def Bk.a (x:Bk): AV:=.agg x.c
def Fn.a (x:Fn): AV:=.agg x.c
def Pr.a (x:Pr): AV:=.agg x.c
attribute [go_sem] Ty.c Pl.c Opd.c Rv.c St.c Ju.c Bk.c Fn.c Pr.c Ty.a Pl.a Opd.a Rv.a' St.a' Ju.a' Bk.a Fn.a Pr.a
theorem KL (x:Ty): Ty.mk x.kind x.to=x:=rfl
theorem Ja (x:Pl): Pl.mk x.loc x.deref x.field=x:=rfl
theorem Mi (x:Opd): Opd.mk x.kind x.n x.pl=x:=rfl
theorem KV (x:Rv): Rv.mk x.kind x.op x.bo x.a x.b x.pl=x:=rfl
theorem KK (x:St): St.mk x.kind x.pl x.r x.a x.loc=x:=rfl
theorem KW (x:Ju): Ju.mk x.kind x.a x.fn x.next x.els x.args x.dest=x:=rfl
theorem KS (x:Bk): Bk.mk x.stmts x.jump=x:=rfl
theorem KZ (x:Fn): Fn.mk x.params x.uns x.locals x.blocks=x:=rfl
theorem KU (x:Pr): Pr.mk x.funcs=x:=rfl
attribute [go_sem] KL Ja Mi KV KK KW KS KZ KU
abbrev vTy_ (l:List Ty): AV:=.vec 2 (l.map Ty.c)
abbrev vFn_ (l:List Fn): AV:=.vec 4 (l.map Fn.c)
abbrev vOpd_ (l:List Opd): AV:=.vec 5 (l.map Opd.c)
abbrev vBk_ (l:List Bk): AV:=.vec 14 (l.map Bk.c)
abbrev vSt_ (l:List St): AV:=.vec 26 (l.map St.c)
attribute [go_sem] vTy_ vFn_ vOpd_ vBk_ vSt_
structure Po where
 al:Int
 off:Int
 tag:Int
deriving DecidableEq
structure Ce where
 kind:Int
 n:Int
 p:Po
deriving DecidableEq
structure Al where
 num:Int
 live:Bool
 cells:List Ce
deriving DecidableEq
structure Me where
 allocs:List Al
 next:Int
deriving DecidableEq
structure It where
 perm:Int
 tag:Int
 call:Int
deriving DecidableEq
structure Ss where
 num:Int
 cells:List (List It)
deriving DecidableEq
structure Mo where
 mem:Me
 stacks:List Ss
 running:List Int
 ntag:Int
 ncall:Int
deriving DecidableEq
structure Fm where
 fn:Int
 at_:Int
 call:Int
 locals:List Po
deriving DecidableEq
structure Sa where
 plain:Bool
 mon:Mo
 frames:List Fm
 prints:List Int
 result:List Int
deriving DecidableEq
structure Ac where
 kind:Int
 bo:Int
 p:Po
 n:Int
deriving DecidableEq
def ci (n:Int): List AV:=[iI n]
def Po.c (x:Po): List AV:=[iI x.al,iI x.off,iI x.tag]
def Ce.c (x:Ce): List AV:=[iU x.kind,iI x.n,iI x.p.al,iI x.p.off,iI x.p.tag]
def Al.c (x:Al): List AV:=[iI x.num,.bool x.live,.vec 5 (x.cells.map Ce.c)]
def Me.c (x:Me): List AV:=[.vec 3 (x.allocs.map Al.c),iI x.next]
def It.c (x:It): List AV:=[iU x.perm,iI x.tag,iI x.call]
def sk (s:List It): List AV:=[.vec 3 (s.map It.c)]
def Ss.c (x:Ss): List AV:=[iI x.num,.vec 1 (x.cells.map sk)]
def Mo.c (x:Mo): List AV:=[.vec 3 (x.mem.allocs.map Al.c),iI x.mem.next,.vec 2 (x.stacks.map Ss.c),.vec 1 (x.running.map ci),iI x.ntag,iI x.ncall]
def Fm.c (x:Fm): List AV:=[iI x.fn,iI x.at_,iI x.call,.vec 3 (x.locals.map Po.c)]
def Sa.c (x:Sa): List AV:=[.bool x.plain,.vec 3 (x.mon.mem.allocs.map Al.c),iI x.mon.mem.next,.vec 2 (x.mon.stacks.map Ss.c),.vec 1 (x.mon.running.map ci),iI x.mon.ntag,iI x.mon.ncall,.vec 4 (x.frames.map Fm.c),.vec 1 (x.prints.map ci),.vec 1 (x.result.map ci)]
def Ac.c (x:Ac): List AV:=[iU x.kind,iU x.bo,iI x.p.al,iI x.p.off,iI x.p.tag,iI x.n]
def Po.a (x:Po): AV:=.agg x.c
def Ce.a (x:Ce): AV:=.agg x.c
def Al.a (x:Al): AV:=.agg x.c
def Me.a (x:Me): AV:=.agg x.c
def It.a (x:It): AV:=.agg x.c
def Ss.a (x:Ss): AV:=.agg x.c
def Mo.a (x:Mo): AV:=.agg x.c
def Fm.a (x:Fm): AV:=.agg x.c
def Sa.a (x:Sa): AV:=.agg x.c
def Ac.a (x:Ac): AV:=.agg x.c
attribute [go_sem] ci Po.c Ce.c Al.c Me.c It.c sk Ss.c Mo.c Fm.c Sa.c Ac.c Po.a Ce.a Al.a Me.a It.a Ss.a Mo.a Fm.a Sa.a Ac.a
theorem KT (x:Po): Po.mk x.al x.off x.tag=x:=rfl
theorem KX (x:Ce): Ce.mk x.kind x.n x.p=x:=rfl
theorem KI (x:Al): Al.mk x.num x.live x.cells=x:=rfl
theorem KN (x:Me): Me.mk x.allocs x.next=x:=rfl
theorem KF (x:It): It.mk x.perm x.tag x.call=x:=rfl
theorem KM (x:Ss): Ss.mk x.num x.cells=x:=rfl
theorem KQ (x:Mo): Mo.mk x.mem x.stacks x.running x.ntag x.ncall=x:=rfl
theorem KH (x:Fm): Fm.mk x.fn x.at_ x.call x.locals=x:=rfl
theorem KJ (x:Sa): Sa.mk x.plain x.mon x.frames x.prints x.result=x:=rfl
theorem KR (x:Ac): Ac.mk x.kind x.bo x.p x.n=x:=rfl
attribute [go_sem] KT KX KI KN KF KM KQ KH KJ KR
def okR (l:List (List AV)): Prop:=l.all (·.all xW)=true
def yb{c:T->List AV}(h:∀x,(c x).all xW=true)(l:List T): okR (l.map c):=by
 unfold okR;rw[zA];intro r a;obtain⟨x,_,rfl⟩:=List.mem_map.1 a;exact h x
def m8(d:okR l)(hl:l.length<1000000): zO 87 [.vec 5 l] 5 175 l (λi b c=>.sl i b 5 l.length c):=by
 refine KO.nv (λe=>?_) ?_
 ·subst e;refine KO.nils ?_;refine eK [] func87 λX=>?_;go_simp
 ·unfold okR at d;refine eO [] func87 λX=>?_;go_simp;intro b;exact⟨om,λa c=>⟨.l 5,a,c,sm,rfl,rfl,rfl⟩⟩
def tc(d:okR l)(hl:l.length<1000000): zO 84 [.vec 3 l] 3 170 l (λi b c=>.sl i b 3 l.length c):=by
 refine KO.nv (λe=>?_) ?_
 ·subst e;refine KO.nils ?_;refine eK [] func84 λX=>?_;go_simp
 ·unfold okR at d;refine eO [] func84 λX=>?_;go_simp;intro b;exact⟨om,λa c=>⟨.l 5,a,c,sm,rfl,rfl,rfl⟩⟩
def jF(d:okR l)(hl:l.length<1000000): zO 81 [.vec 4 l] 4 64 l (λi b c=>.sl i b 4 l.length c):=by
 refine KO.nv (λe=>?_) ?_
 ·subst e;refine KO.nils ?_;refine eK [] func81 λX=>?_;go_simp
 ·unfold okR at d;refine eO [] func81 λX=>?_;go_simp;intro b;exact⟨om,λa c=>⟨.l 5,a,c,sm,rfl,rfl,rfl⟩⟩
def sX(d:okR l)(hl:l.length<1000000): zO 85 [.vec 2 l] 2 124 l (λi b c=>.sl i b 2 l.length c):=by
 refine KO.nv (λe=>?_) ?_
 ·subst e;refine KO.nils ?_;refine eK [] func85 λX=>?_;go_simp
 ·unfold okR at d;refine eO [] func85 λX=>?_;go_simp;intro b;exact⟨om,λa c=>⟨.l 5,a,c,sm,rfl,rfl,rfl⟩⟩
def qe(d:okR l)(hl:l.length<1000000): zO 88 [.vec 1 l] 1 126 l (λi b c=>.sl i b 1 l.length c):=by
 refine KO.nv (λe=>?_) ?_
 ·subst e;refine KO.nils ?_;refine eK [] func88 λX=>?_;go_simp
 ·unfold okR at d;refine eO [] func88 λX=>?_;go_simp;intro b;exact⟨om,λa c=>⟨.l 5,a,c,sm,rfl,rfl,rfl⟩⟩
def Uc(d:okR l)(hl:l.length<1000000): zO 460 [.vec 3 l] 3 179 l (λi b c=>.sl i b 3 l.length c):=by
 refine KO.nv (λe=>?_) ?_
 ·subst e;refine KO.nils ?_;refine eK [] func460 λX=>?_;go_simp
 ·unfold okR at d;refine eO [] func460 λX=>?_;go_simp;intro b;exact⟨om,λa c=>⟨.l 5,a,c,sm,rfl,rfl,rfl⟩⟩
def nl(d:okR l)(hl:l.length<1000000): zO 89 [.vec 3 l] 3 179 l (λi b c=>.sl i b 3 l.length c):=by
 refine KO.nv (λe=>?_) ?_
 ·subst e;refine KO.nils ?_;refine eK [] func89 λX=>?_;go_simp
 ·unfold okR at d;refine eO [] func89 λX=>?_;go_simp;intro b;exact⟨om,λa c=>⟨.l 5,a,c,sm,rfl,rfl,rfl⟩⟩
def ln(d:okR l)(hl:l.length<1000000): zO 83 [.vec 3 l] 3 53 l (λi b c=>.sl i b 3 l.length c):=by
 refine KO.nv (λe=>?_) ?_
 ·subst e;refine KO.nils ?_;refine eK [] func83 λX=>?_;go_simp
 ·unfold okR at d;refine eO [] func83 λX=>?_;go_simp;intro b;exact⟨om,λa c=>⟨.l 5,a,c,sm,rfl,rfl,rfl⟩⟩
def oQ(d:okR l)(hl:l.length<1000000): zO 86 [.vec 1 l] 1 3 l (λi b c=>.sl i b 1 l.length c):=by
 refine KO.nv (λe=>?_) ?_
 ·subst e;refine KO.nils ?_;refine eK [] func86 λX=>?_;go_simp
 ·unfold okR at d;refine eO [] func86 λX=>?_;go_simp;intro b;exact⟨om,λa c=>⟨.l 5,a,c,sm,rfl,rfl,rfl⟩⟩
def tY(d:okR l)(hl:l.length<1000000): zO 82 [.vec 1 l] 1 2 l (λi b c=>.sl i b 1 l.length c):=by
 refine KO.nv (λe=>?_) ?_
 ·subst e;refine KO.nils ?_;refine eK [] func82 λX=>?_;go_simp
 ·unfold okR at d;refine eO [] func82 λX=>?_;go_simp;intro b;exact⟨om,λa c=>⟨.l 5,a,c,sm,rfl,rfl,rfl⟩⟩
def Zo(d:okR l)(hl:l.length<1000000): zO 19 [.vec 6 l] 6 55 l (λi b c=>.sl i b 6 l.length c):=by
 refine KO.nv (λe=>?_) ?_
 ·subst e;refine KO.nils ?_;refine eK [] func19 λX=>?_;go_simp
 ·unfold okR at d;refine eO [] func19 λX=>?_;go_simp;intro b;exact⟨om,λa c=>⟨.l 5,a,c,sm,rfl,rfl,rfl⟩⟩
def xE(a:okR l)(hl:l.length<1000000): zK 87 [.vec 5 l] (.vec 5 l):=(m8 a hl).k1 λb c=>by go_simp
def Xv(a:okR l)(hl:l.length<1000000): zK 460 [.vec 3 l] (.vec 3 l):=(Uc a hl).k1 λb c=>by go_simp
def wT(a:okR l)(hl:l.length<1000000): zK 89 [.vec 3 l] (.vec 3 l):=(nl a hl).k1 λb c=>by go_simp
def nL(a:okR l)(hl:l.length<1000000): zK 83 [.vec 3 l] (.vec 3 l):=(ln a hl).k1 λb c=>by go_simp
def m9(a:okR l)(hl:l.length<1000000): zK 86 [.vec 1 l] (.vec 1 l):=(oQ a hl).k1 λb c=>by go_simp
def bq(a:okR l)(hl:l.length<1000000): zK 19 [.vec 6 l] (.vec 6 l):=(Zo a hl).k1 λb c=>by go_simp
abbrev vCi_ (l:List Int): AV:=.vec 1 (l.map ci)
abbrev vCe_ (l:List Ce): AV:=.vec 5 (l.map Ce.c)
abbrev vAl_ (l:List Al): AV:=.vec 3 (l.map Al.c)
abbrev vIt_ (l:List It): AV:=.vec 3 (l.map It.c)
abbrev vFm_ (l:List Fm): AV:=.vec 4 (l.map Fm.c)
abbrev vSs_ (l:List Ss): AV:=.vec 2 (l.map Ss.c)
abbrev vSk_ (l:List (List It)): AV:=.vec 1 (l.map sk)
abbrev vPo_ (l:List Po): AV:=.vec 3 (l.map Po.c)
attribute [go_sem] vCi_ vCe_ vAl_ vIt_ vFm_ vSs_ vSk_ vPo_
def xT (p:Pl): Int:=if p.loc<0\/16<=p.loc\/2<p.field then 8 else 0
theorem sD (p:Pl): xT p=0\/xT p=8:=by unfold xT;split<;>simp
def td (p:Pl): zK 354 [p.a] (iI (xT p)):=by
 refine eK [] func354 λX=>?_;go_simp;grind [xT]
def te (p:Pl): zK 380 [p.a] (iI (xT p)):=by
 refine eK [] func380 λX=>?_;go_simp;grind [xT]
theorem QZ {n:Int}(h:0<=n/\n<=255): IntKind.u8.wrap n=n:=by
 simp only[IntKind.wrap,IntKind.bits,IntKind.signed];simp;omega
def zr {b:Type}{p:b->Prop}{l:List b}(c:∀o∈l.take i,p o)(a:i<l.length)(h:p l[i]): ∀o∈l.take (i+1),p o:=λo q=>by
 rw[List.take_add_one,zE a,zJ] at q;rcases q with q|q
 ·exact c o q
 ·obtain rfl:o=l[i]:=by simpa using q
  exact h
def zx {a:Type}{p:a->Prop}{l:List a}(b:∀o∈l.take i,p o)(h:l.length<=i): ∀o∈l,p o:=λo q=>b o (by rwa[zT h])
def yE (t:Ty): Bool:=((t.kind==1||t.kind==2)&&t.to==0)||(decide (3<=t.kind/\t.kind<=5)&&(t.to==1||t.to==2))
def ww (t:Ty): Int:=if yE t then 0 else 8
def zg (t:Ty): Int:=if t.kind=2 then 2 else 1
def tK (t:Ty): Int:=if yE t then(if t.to=0 then t.kind-1 else 2*(t.kind-2)+(t.to-1)) else -1
def tZ (t:Ty): zK 188 [t.a] (iI (ww t)):=by
 refine eK [] func188 λX=>?_;go_simp;repeat'(first|with_reducible first|apply ai|intro)
 all_goals grind [ww,yE]
def pp (t:Ty): zK 110 [t.a] (.tup [iI (if yE t then zg t else 0),iI (ww t)]):=by
 refine eK [] func110 λX=>?_;go_simp;repeat'(first|(apply zd (tZ ⟨_,_⟩);try go_simp)|with_reducible first|apply ai|intro)
 all_goals grind [ww,zg]
def lP (t:Ty): zK 241 [t.a] (.tup [.agg [iU (if yE t then t.to else 0),iU 0],iI (if yE t then(if t.to=0 then 6 else 0) else 8)]):=by
 refine eK [] func241 λX=>?_;go_simp;repeat'(first|(apply zd (tZ ⟨_,_⟩);try go_simp)|with_reducible first|apply ai|intro)
 all_goals grind [ww]
def Ud (t:Ty): zK 328 [t.a] (.tup [iI (if yE t then tK t else 0),iI (ww t)]):=by
 refine eK [] func328 λX=>?_;go_simp;repeat'(first|(apply zd (tZ ⟨_,_⟩);try go_simp)|with_reducible first|apply ai|intro)
 all_goals grind [ww,tK,yE,QZ,AM.Tf]
def tyW (i:Nat): Ty:=if i<2 then⟨i+1,0⟩ else⟨i/2+2,i%2+1⟩
def Ue (i:Nat)(h:i<8): zK 451 [iI i] (tyW i).a:=by
 match i,h with
 |0,_|1,_|2,_|3,_|4,_|5,_|6,_|7,_ =>
  refine eK [] func451 λX=>?_;go_simp;simp only[tyW];decide
 |n+8,h=>omega
def qI (t:Ty): zK 231 [t.a] (.bool (decide (3<=t.kind))):=by
 refine eK [] func231 λX=>?_;go_simp
def Xw (t:Ty): zK 130 [t.a] (iI (zg t)):=by
 refine eK [] func130 λX=>?_;go_simp;grind [zg]
def plZ (p:Pl): Bool:=p.loc==0&&!p.deref&&p.field==0
def zq (o:Opd): Int:=if o.kind=1 then(if plZ o.pl then 0 else 8) else if(o.kind=2\/o.kind=3)/\o.n=0 then xT o.pl else 8
def wG (o:Opd): Bool:=o.kind==0&&o.n==0&&plZ o.pl
def zs (r:Rv): List Opd:=if r.kind=1 then [r.a] else if r.kind=2\/r.kind=3 then [r.a,r.b] else []
def xG (r:Rv): Bool :=
 (r.kind==1&&zq r.a==0&&wG r.b&&plZ r.pl&&r.op==0&&r.bo==0) ||
 (r.kind==2&&zq r.a==0&&zq r.b==0&&plZ r.pl&&decide (1<=r.op/\r.op<=6)&&r.bo==0) ||
 (r.kind==3&&zq r.a==0&&zq r.b==0&&plZ r.pl&&r.op==0&&r.bo==0) ||
 (r.kind==4&&wG r.a&&wG r.b&&xT r.pl==0&&r.op==0&&decide (1<=r.bo/\r.bo<=3)) ||
 (r.kind==5&&wG r.a&&wG r.b&&xT r.pl==0&&r.op==0&&r.bo==0)
def wi (o:Opd): zK 252 [o.a] (iI (zq o)):=by
 refine eK [] func252 λX=>?_;go_simp;repeat'(first|(apply zd (td ⟨_,_,_⟩);try go_simp)|with_reducible first|apply ai|intro)
 all_goals grind [zq,plZ]
def Xx (r:Rv): zK 418 [r.a'] (vOpd_ (zs r)):=by
 refine eK [4,7] func418 λX=>?_;go_simp;repeat'(first|with_reducible first|apply ai|intro)
 all_goals try(refine z5 [.l 3] 3 (SV.ptr rfl rfl rfl rfl sm rfl) ?_;refine aO [] ?_;go_simp)
 all_goals grind [zs,Opd.c]
def Uf (o:Opd): zK 466 [o.a] (.bool (wG o)):=by
 refine eK [] func466 λX=>?_;go_simp;simp only[wG,plZ,Bool.and_assoc]
def wU (o:Opd): zK 453 [o.a] (iI (zq o)):=by
 refine eK [] func453 λX=>?_;go_simp;repeat'(first|(apply zd (te ⟨_,_,_⟩);try go_simp)|with_reducible first|apply ai|intro)
 all_goals grind [zq,plZ,sD]
def Xy (a b:Opd): zK 467 [a.a,b.a] (.bool (zq a==0&&zq b==0)):=by
 refine eK [] func467 λX=>?_;go_simp;repeat'(first|(apply zd (wU ⟨_,_,_,_,_⟩);try go_simp)|with_reducible first|apply ai|intro)
 all_goals grind
def wx (o:Opd): zK 441 [o.a] (.bool (o.kind==2||o.kind==3)):=by
 refine eK [] func441 λX=>?_;go_simp;grind
def nm (r:Rv): zK 407 [r.a'] (vOpd_ (zs r)):=by
 refine eK [] func407 λX=>?_;go_simp;grind [zs,Opd.c]
def Xz (r:Rv): zK 461 [r.a'] (.bool (xG r)):=by
 refine eK [] func461 λX=>?_;go_simp;repeat'(first|((first|apply zd (wU ⟨_,_,_,_,_⟩)|apply zd (Uf ⟨_,_,_,_,_⟩)|apply zd (Xy ⟨_,_,_,_,_⟩ ⟨_,_,_,_,_⟩)|apply zd (te ⟨_,_,_⟩));try go_simp)|with_reducible first|apply ai|intro)
 all_goals grind [xG,plZ]
def X0 (r:Rv): zK 452 [r.a'] (iI (if xG r then 0 else 8)):=by
 refine eK [] func452 λX=>?_;go_simp;repeat'(first|(apply zd (Xz ⟨_,_,_,_,_,_⟩);try go_simp)|with_reducible first|apply ai|intro)
 all_goals grind
def Ug:Opd:=⟨0,0,⟨0,false,0⟩⟩
def bZ (r:Rv)(i:Nat): Rv:=⟨r.kind,0,0,if 0<i then r.a else Ug,if 1<i then r.b else Ug,⟨0,false,0⟩⟩
def wrS(h:n<4000000000000000000): IntKind.i64.wrap ((n:Int)+1)=((n+1:Nat):Int):=(AM.Tf om).trans om
theorem sO (o:Opd): zq o=0\/zq o=8:=by have:=sD o.pl;grind [zq]
def Zp {r:Rv}{o:Opd}(h:o∈zs r)(a:¬zq o=0): zq o=if xG r then 0 else 8:=by
 have:=sO o
 have:xG r=false:=by grind [zs,xG]
 grind
def qf (r:Rv): (zs r).length=if r.kind=1 then 1 else if r.kind=2\/r.kind=3 then 2 else 0:=by grind [zs]
def Ib (r:Rv)(i:Nat)(h:i<(zs r).length): (zs r)[i]=if i=0 then r.a else r.b:=by
 have e:=zE h;generalize (zs r)[i]=x at e;unfold zs at e h;split at e
 ·grind
 ·split at e
  ·rename_i c d;rw[if_neg c,if_pos d] at h;match i,h with
   |0,_=>grind
   |1,_=>grind
  ·grind
def Ic {r:Rv}(c:∀o∈zs r,zq o=0): (r.kind=1\/r.kind=2\/r.kind=3->zq r.a=0)/\(r.kind=2\/r.kind=3->zq r.b=0):=by grind [zs]
def jG (r:Rv): zK 371 [r.a'] (iI (if xG r then 0 else 8)):=by
 refine eK [] func371 λX=>?_;go_simp;repeat'(first|(apply zd (Xx ⟨_,_,_,_,_,_⟩);try go_simp)|with_reducible first|apply ai|intro)
 rename_i j k;refine zf hP (B:=[]) (G:=Nat) (λi=>[(1,.ptr (.l 1) j 16 0 0),(3,.ptr (.l 3) k 16 0 0),(14,vOpd_ (zs r)),(15,iI (zs r).length),(16,iI i)])
  (λi=>[(.l 1,⟨j,1,16,87,[Rv.c r],false⟩),(.l 3,⟨k,1,16,87,[Rv.c (bZ r i)],false⟩)])
  (λi=>i<=(zs r).length/\∀o∈(zs r).take i,zq o=0) (λi=>(zs r).length-i) 0 dk sm ?_ ?_ ?_
 ·go_simp
 ·go_simp;simp[bZ,Ug]
 ·rintro i ⟨hi,e⟩;go_simp;refine⟨λa=>⟨_,zE a,λb=>?_⟩,λd=>?_⟩
  ·repeat'(first|(apply zd (wi ⟨_,_,_⟩);try go_simp)|with_reducible first|apply ai|intro)
   ·exact Zp (zM a) (by assumption)
   all_goals
    rename_i n s;have hl:=qf r;have t:(zs r).length<=2:=by grind
    refine⟨i+1,⟨om,λo h=>?_⟩,om,wrS om,?_⟩
    ·rw[List.take_add_one,zE a] at h;grind
    ·have hx:=Ib r i a;rw[hx];simp only[bZ];clear hx e;grind
  ·repeat'(first|(apply zd (td ⟨_,_,_⟩);try go_simp)|with_reducible first|apply ai|intro)
   all_goals
    obtain rfl:(zs r).length=i:=om;have m:=Ic λo h=>e o (by rwa[List.take_length]);have:=sD r.pl
    clear hi d e;try simp only[bZ,qf,Ug] at *
    simp_all [xG,wG,plZ]<;>grind
structure yF {T:Type}(g:Nat)(caps:List AV)(a:T->AV)(p:T->Bool)(l:List T): Prop where
 cb:vQ Tryz.prog g
 call:∀x∈l,zK g (a x::caps) (.bool (p x))
def idx(p:T->Bool)(l:List T): Int:=if l.any p then(l.findIdx p:Int) else -1
def wB{p:T->Bool}{l:List T}(h:i<l.length)(hp:p l[i]=true)(a:∀x∈l.take i,p x=false): idx p l=i:=by
 unfold idx;rw[if_pos (List.any_eq_true.2 ⟨_,zM h,hp⟩)];congr 1
 refine(List.findIdx_eq h).2 ⟨hp,λj b=>a _ ?_⟩;rw[List.mem_take_iff_getElem];exact⟨j,om,rfl⟩
def ub{p:T->Bool}{l:List T}(a:∀x∈l,p x=false): idx p l = -1:=by
 unfold idx;rw[if_neg];intro h;obtain⟨x,hx,hp⟩:=List.any_eq_true.1 h;rw[a x hx] at hp;cases hp
def vZ {T:Type}{p:T->Bool}{l:List T}: decide (0<=idx p l)=l.any p:=by
 unfold idx;cases l.any p with
 |true=>simp
 |false=>rfl
def q9{p:T->Bool}{l:List T}(h:0<=idx p l): ∃n:Nat,idx p l=n/\∃h:n<l.length,p l[n]=true/\∀x∈l.take n,p x=false:=by
 unfold idx at *;split at h<;>rename_i b
 ·rw[if_pos b];have a:l.findIdx p<l.length:=List.findIdx_lt_length_of_exists (by simpa using b);refine⟨_,rfl,a,List.findIdx_getElem,λx hx=>?_⟩;obtain⟨j,c,rfl⟩:=List.mem_take_iff_getElem.1 hx;exact by simpa using List.not_of_lt_findIdx (p:=p) (by omega:j<l.findIdx p)
 ·omega
def R8{p:Ty->Bool}{l:List Ty}(h:yF g caps Ty.a p l)(hl:l.length<1000000): zK 427 [vTy_ l,.fn g caps] (iI (idx p l)):=by
 refine eK [] func427 λX=>?_;go_simp;refine lN [] (λi=>[(0,vTy_ l),(1,.fn g caps),(7,iI l.length),(8,iI i)]) (λi=>[]) (λi=>i<=l.length/\∀x∈l.take i,p x=false) (λi=>l.length-i) 0 ?_
 rintro i ⟨hi,d⟩;go_simp;refine⟨λb=>⟨_,zE b,?_⟩,λc=>?_⟩
 ·repeat'(first|(apply zd (h.call l[i] (zM b));try go_simp)|exact h.cb|with_reducible first|apply ai|intro)
  ·exact(wB b (by assumption) d).symm
  ·exact⟨i+1,⟨om,zr d b (by assumption)⟩,om,wrS om⟩
 ·exact(ub (zx d c)).symm
def X1{p:Ty->Bool}{l:List Ty}(h:yF g caps Ty.a p l)(hl:l.length<1000000): zK 387 [vTy_ l,.fn g caps] (.bool (l.any p)):=by
 refine eK [] func387 λX=>?_;go_simp;repeat'(first|(apply zd (R8 h hl);try go_simp)|with_reducible first|apply ai|intro)
 all_goals exact vZ
def R9{p:Bk->Bool}{l:List Bk}(h:yF g caps Bk.a p l)(hl:l.length<1000000): zK 429 [vBk_ l,.fn g caps] (iI (idx p l)):=by
 refine eK [] func429 λX=>?_;go_simp;refine lN [] (λi=>[(0,vBk_ l),(1,.fn g caps),(7,iI l.length),(8,iI i)]) (λi=>[]) (λi=>i<=l.length/\∀x∈l.take i,p x=false) (λi=>l.length-i) 0 ?_
 rintro i ⟨hi,d⟩;go_simp;refine⟨λb=>⟨_,zE b,?_⟩,λc=>?_⟩
 ·repeat'(first|(apply zd (h.call l[i] (zM b));try go_simp)|exact h.cb|with_reducible first|apply ai|intro)
  ·exact(wB b (by assumption) d).symm
  ·exact⟨i+1,⟨om,zr d b (by assumption)⟩,om,wrS om⟩
 ·exact(ub (zx d c)).symm
def X2{p:Bk->Bool}{l:List Bk}(h:yF g caps Bk.a p l)(hl:l.length<1000000): zK 391 [vBk_ l,.fn g caps] (.bool (l.any p)):=by
 refine eK [] func391 λX=>?_;go_simp;repeat'(first|(apply zd (R9 h hl);try go_simp)|with_reducible first|apply ai|intro)
 all_goals exact vZ
def RA{p:Fn->Bool}{l:List Fn}(h:yF g caps Fn.a p l)(hl:l.length<1000000): zK 428 [vFn_ l,.fn g caps] (iI (idx p l)):=by
 refine eK [] func428 λX=>?_;go_simp;refine lN [] (λi=>[(0,vFn_ l),(1,.fn g caps),(7,iI l.length),(8,iI i)]) (λi=>[]) (λi=>i<=l.length/\∀x∈l.take i,p x=false) (λi=>l.length-i) 0 ?_
 rintro i ⟨hi,d⟩;go_simp;refine⟨λb=>⟨_,zE b,?_⟩,λc=>?_⟩
 ·repeat'(first|(apply zd (h.call l[i] (zM b));try go_simp)|exact h.cb|with_reducible first|apply ai|intro)
  ·exact(wB b (by assumption) d).symm
  ·exact⟨i+1,⟨om,zr d b (by assumption)⟩,om,wrS om⟩
 ·exact(ub (zx d c)).symm
def X3{p:Fn->Bool}{l:List Fn}(h:yF g caps Fn.a p l)(hl:l.length<1000000): zK 389 [vFn_ l,.fn g caps] (.bool (l.any p)):=by
 refine eK [] func389 λX=>?_;go_simp;repeat'(first|(apply zd (RA h hl);try go_simp)|with_reducible first|apply ai|intro)
 all_goals exact vZ
def RB{p:Ce->Bool}{l:List Ce}(h:yF g caps Ce.a p l)(hl:l.length<1000000): zK 356 [vCe_ l,.fn g caps] (iI (idx p l)):=by
 refine eK [] func356 λX=>?_;go_simp;refine lN [] (λi=>[(0,vCe_ l),(1,.fn g caps),(7,iI l.length),(8,iI i)]) (λi=>[]) (λi=>i<=l.length/\∀x∈l.take i,p x=false) (λi=>l.length-i) 0 ?_
 rintro i ⟨hi,d⟩;go_simp;refine⟨λb=>⟨_,zE b,?_⟩,λc=>?_⟩
 ·repeat'(first|(apply zd (h.call l[i] (zM b));try go_simp)|exact h.cb|with_reducible first|apply ai|intro)
  ·exact(wB b (by assumption) d).symm
  ·exact⟨i+1,⟨om,zr d b (by assumption)⟩,om,wrS om⟩
 ·exact(ub (zx d c)).symm
def qg{p:Ce->Bool}{l:List Ce}(h:yF g caps Ce.a p l)(hl:l.length<1000000): zK 243 [vCe_ l,.fn g caps] (.bool (l.any p)):=by
 refine eK [] func243 λX=>?_;go_simp;repeat'(first|(apply zd (RB h hl);try go_simp)|with_reducible first|apply ai|intro)
 all_goals exact vZ
def rG{p:Al->Bool}{l:List Al}(h:yF g caps Al.a p l)(hl:l.length<1000000): zK 219 [vAl_ l,.fn g caps] (iI (idx p l)):=by
 refine eK [] func219 λX=>?_;go_simp;refine lN [] (λi=>[(0,vAl_ l),(1,.fn g caps),(7,iI l.length),(8,iI i)]) (λi=>[]) (λi=>i<=l.length/\∀x∈l.take i,p x=false) (λi=>l.length-i) 0 ?_
 rintro i ⟨hi,d⟩;go_simp;refine⟨λb=>⟨_,zE b,?_⟩,λc=>?_⟩
 ·repeat'(first|(apply zd (h.call l[i] (zM b));try go_simp)|exact h.cb|with_reducible first|apply ai|intro)
  ·exact(wB b (by assumption) d).symm
  ·exact⟨i+1,⟨om,zr d b (by assumption)⟩,om,wrS om⟩
 ·exact(ub (zx d c)).symm
def X4{p:Al->Bool}{l:List Al}(h:yF g caps Al.a p l)(hl:l.length<1000000): zK 367 [vAl_ l,.fn g caps] (.bool (l.any p)):=by
 refine eK [] func367 λX=>?_;go_simp;repeat'(first|(apply zd (rG h hl);try go_simp)|with_reducible first|apply ai|intro)
 all_goals exact vZ
def Zq{p:Ss->Bool}{l:List Ss}(h:yF g caps Ss.a p l)(hl:l.length<1000000): zK 294 [vSs_ l,.fn g caps] (iI (idx p l)):=by
 refine eK [] func294 λX=>?_;go_simp;refine lN [] (λi=>[(0,vSs_ l),(1,.fn g caps),(7,iI l.length),(8,iI i)]) (λi=>[]) (λi=>i<=l.length/\∀x∈l.take i,p x=false) (λi=>l.length-i) 0 ?_
 rintro i ⟨hi,d⟩;go_simp;refine⟨λb=>⟨_,zE b,?_⟩,λc=>?_⟩
 ·repeat'(first|(apply zd (h.call l[i] (zM b));try go_simp)|exact h.cb|with_reducible first|apply ai|intro)
  ·exact(wB b (by assumption) d).symm
  ·exact⟨i+1,⟨om,zr d b (by assumption)⟩,om,wrS om⟩
 ·exact(ub (zx d c)).symm
def Zr{p:Po->Bool}{l:List Po}(h:yF g caps Po.a p l)(hl:l.length<1000000): zK 357 [vPo_ l,.fn g caps] (iI (idx p l)):=by
 refine eK [] func357 λX=>?_;go_simp;refine lN [] (λi=>[(0,vPo_ l),(1,.fn g caps),(7,iI l.length),(8,iI i)]) (λi=>[]) (λi=>i<=l.length/\∀x∈l.take i,p x=false) (λi=>l.length-i) 0 ?_
 rintro i ⟨hi,d⟩;go_simp;refine⟨λb=>⟨_,zE b,?_⟩,λc=>?_⟩
 ·repeat'(first|(apply zd (h.call l[i] (zM b));try go_simp)|exact h.cb|with_reducible first|apply ai|intro)
  ·exact(wB b (by assumption) d).symm
  ·exact⟨i+1,⟨om,zr d b (by assumption)⟩,om,wrS om⟩
 ·exact(ub (zx d c)).symm
def RC{p:It->Bool}{l:List It}(h:yF g caps It.a p l)(hl:l.length<1000000): zK 433 [vIt_ l,.fn g caps] (iI (idx p l)):=by
 refine eK [] func433 λX=>?_;go_simp;refine lN [] (λi=>[(0,vIt_ l),(1,.fn g caps),(7,iI l.length),(8,iI i)]) (λi=>[]) (λi=>i<=l.length/\∀x∈l.take i,p x=false) (λi=>l.length-i) 0 ?_
 rintro i ⟨hi,d⟩;go_simp;refine⟨λb=>⟨_,zE b,?_⟩,λc=>?_⟩
 ·repeat'(first|(apply zd (h.call l[i] (zM b));try go_simp)|exact h.cb|with_reducible first|apply ai|intro)
  ·exact(wB b (by assumption) d).symm
  ·exact⟨i+1,⟨om,zr d b (by assumption)⟩,om,wrS om⟩
 ·exact(ub (zx d c)).symm
def RD{p:It->Bool}{l:List It}(h:yF g caps It.a p l)(hl:l.length<1000000): zK 343 [vIt_ l,.fn g caps] (iI (idx p l)):=by
 refine eK [] func343 λX=>?_;go_simp;refine lN [] (λi=>[(0,vIt_ l),(1,.fn g caps),(7,iI l.length),(8,iI i)]) (λi=>[]) (λi=>i<=l.length/\∀x∈l.take i,p x=false) (λi=>l.length-i) 0 ?_
 rintro i ⟨hi,d⟩;go_simp;refine⟨λb=>⟨_,zE b,?_⟩,λc=>?_⟩
 ·repeat'(first|(apply zd (h.call l[i] (zM b));try go_simp)|exact h.cb|with_reducible first|apply ai|intro)
  ·exact(wB b (by assumption) d).symm
  ·exact⟨i+1,⟨om,zr d b (by assumption)⟩,om,wrS om⟩
 ·exact(ub (zx d c)).symm
def X5{p:It->Bool}{l:List It}(h:yF g caps It.a p l)(hl:l.length<1000000): zK 224 [vIt_ l,.fn g caps] (.bool (l.any p)):=by
 refine eK [] func224 λX=>?_;go_simp;repeat'(first|(apply zd (RD h hl);try go_simp)|with_reducible first|apply ai|intro)
 all_goals exact vZ
def eqI (x y:Int): Bool:=x==y
def eqB (x y:Bool): Bool:=x==y
def eqC (x y:Ce): Bool:=x==y
def noB (x:Bool)(l:List Bool): Prop:=∀y∈l,eqB x y=false
def cb (b:Bool): List AV:=[.bool b]
attribute [go_sem] cb
def RE (l:List Int)(x:Int)(hl:l.length<1000000): zK 344 [vCi_ l,iI x] (iI (idx (eqI x) l)):=by
 refine eK [] func344 λX=>?_;go_simp;refine lN [] (λi=>[(0,vCi_ l),(1,iI x),(7,iI l.length),(8,iI i)]) (λi=>[]) (λi=>i<=l.length/\∀y∈l.take i,eqI x y=false) (λi=>l.length-i) 0 ?_
 rintro i ⟨hi,c⟩;go_simp;refine⟨λa=>⟨_,zE a,?_⟩,λb=>?_⟩
 ·repeat'(first|with_reducible first|apply ai|intro)
  ·exact(wB a (by simpa[eqI] using by assumption) c).symm
  ·exact⟨i+1,⟨om,zr c a (by simpa[eqI] using by assumption)⟩,om,wrS om⟩
 ·exact(ub (zx c b)).symm
def WG (l:List Int)(x:Int)(hl:l.length<1000000): zK 226 [vCi_ l,iI x] (.bool (l.any (eqI x))):=by
 refine eK [] func226 λX=>?_;go_simp;repeat'(first|(apply zd (RE l x hl);try go_simp)|with_reducible first|apply ai|intro)
 all_goals exact vZ
def Tz (l:List Bool)(x:Bool)(hl:l.length<1000000): zK 353 [.vec 1 (l.map cb),.bool x] (iI (idx (eqB x) l)):=by
 refine eK [] func353 λX=>?_;go_simp;refine lN [] (λi=>[(0,.vec 1 (l.map cb)),(1,.bool x),(7,iI l.length),(8,iI i)]) (λi=>[]) (λi=>i<=l.length/\noB x (l.take i)) (λi=>l.length-i) 0 ?_ (h0:=(by simp[noB]))
 rintro i ⟨hi,b⟩;go_simp;refine⟨λa=>?_,λd=>?_⟩
 ·have hb:=zE a;cases c:l[i]<;>rw[c] at hb
  ·refine Or.inl ⟨hb,λh=>?_,λh=>?_⟩
   ·exact(wB a (by simp[eqB,c,h]) b).symm
   ·exact⟨i+1,⟨om,zr b a (by simp[eqB,c,h])⟩,om,wrS om⟩
  ·refine Or.inr ⟨hb,λh=>?_,λh=>?_⟩
   ·exact(wB a (by simp[eqB,c,h]) b).symm
   ·exact⟨i+1,⟨om,zr b a (by simp[eqB,c,h])⟩,om,wrS om⟩
 ·exact(ub (zx b d)).symm
def RF (l:List Bool)(x:Bool)(hl:l.length<1000000): zK 235 [.vec 1 (l.map cb),.bool x] (.bool (l.any (eqB x))):=by
 refine eK [] func235 λX=>?_;go_simp;repeat'(first|(apply zd (Tz l x hl);try go_simp)|with_reducible first|apply ai|intro)
 all_goals exact vZ
def OH (l:List Ce)(x:Ce)(hl:l.length<1000000): zK 417 [vCe_ l,x.a] (iI (idx (eqC x) l)):=by
 refine eK [] func417 λX=>?_;go_simp;repeat'(first|with_reducible first|apply ai|intro)
 rename_i b;refine lN [] (λi=>[(0,vCe_ l),(3,.ptr (.l 3) b 5 0 0),(7,iI l.length),(8,iI i)]) (λi=>[(.l 3,⟨b,1,5,175,[Ce.c x],false⟩)]) (λi=>i<=l.length/\∀y∈l.take i,eqC x y=false) (λi=>l.length-i) 0 ?_
 rintro i ⟨hi,k⟩;go_simp;refine⟨λh=>⟨_,zE h,?_⟩,λj=>?_⟩
 ·have m:∀y:Ce,eqC x y=(x.kind==y.kind&&(x.n==y.n&&(x.p.al==y.p.al&&(x.p.off==y.p.off&&x.p.tag==y.p.tag)))):=λy=>by
   obtain⟨a,b,c,d,e⟩:=x;obtain⟨a',o,r,s,t⟩:=y;unfold eqC;rw[Bool.eq_iff_iff];simp
  repeat'(first|with_reducible first|apply ai|intro)
  ·exact(wB h (by rw[m];simp[*]) k).symm
  all_goals exact⟨i+1,⟨om,zr k h (by rw[m];simp_all)⟩,om,wrS om⟩
 ·exact(ub (zx k j)).symm
def MH (l:List Ce)(x:Ce)(hl:l.length<1000000): zK 370 [vCe_ l,x.a] (.bool (l.any (eqC x))):=by
 refine eK [] func370 λX=>?_;go_simp;repeat'(first|(apply zd (OH l ⟨_,_,_,_,_⟩ hl);try go_simp)|with_reducible first|apply ai|intro)
 all_goals exact vZ
def inT (n:Int): Bool:=decide (0<=n/\n<=1000000)
def vK (x:It): Bool:=(x.perm==1||x.perm==2||x.perm==3||x.perm==4)&&inT x.tag&&inT x.call
def nq (s:List It): Bool:=decide (s.length<=600)&&s.all vK
def yz (s:List It): Int:=if nq s then 0 else 8
def qh {T:Type}(p:T->Bool)(l:List T): Nat->Int
 |0=>-1
 |n+1=>if(match l[n]? with|some x=>p x|none=>false) then n else qh p l n
def uc(p:T->Bool)(l:List T): Int:=qh p l l.length
def xH (tag:Int)(w:Bool)(x:It): Bool:=x.tag==tag&&!(w&&x.perm==4)
def io (n:Int): zK 443 [iI n] (.bool (inT n)):=by
 refine eK [] func443 λX=>?_;go_simp;all_goals grind [inT]
def lQ (x:It): zK 420 [x.a] (.bool (vK x)):=by
 obtain⟨a,b,c⟩:=x;refine eK [] func420 λX=>?_;go_simp;repeat'(first|((first|apply zd (io b)|apply zd (io c));try go_simp)|with_reducible first|apply ai|intro)
 all_goals grind [vK]
def T0 (s:List It): yF 419 [] It.a (λx=>!vK x) s where
 cb:=by go_simp
 call x hx:=by
  refine eK [] func419 λX=>?_;go_simp;repeat'(first|(apply zd (lQ x);try go_simp)|with_reducible first|apply ai|intro)
def th (s:List It)(hl:s.length<1000000): zK 373 [vIt_ s] (iI (yz s)):=by
 refine eK [] func373 λX=>?_;go_simp;repeat'(first|(apply zd (X5 (T0 s) hl);try go_simp)|with_reducible first|apply ai|intro)
 all_goals(have a:s.all vK = !(s.any λx=>!vK x):=by simp[List.all_eq_not_any_not])
 all_goals grind [yz,nq]
def Uh (tag:Int): zK 415 [iI tag] (.tup [.vec 3 (if inT tag then [It.c ⟨1,tag,0⟩] else []),iI (if inT tag then 0 else 2)]):=by
 refine eK [] func415 λX=>?_;go_simp;repeat'(first|(apply zd (io tag);try go_simp)|with_reducible first|apply ai|intro)
 all_goals grind [It.c]
def qJ (s:List It)(at_:Int): Int:=if ¬yz s=0 then yz s else if at_<0\/(s.length:Int)<=at_ then 2 else 0
def qK (s:List It)(at_:Int): List It:=if qJ s at_=0 then s.take (at_.toNat+1) else []
def nr (s:List It)(at_:Int): List It:=if qJ s at_=0 then s.drop (at_.toNat+1) else []
def OI {s:List It}{k:Int}(h:qJ s k=0): yz s=0/\∃n:Nat,k=n/\n<s.length:=by
 unfold qJ at h;split at h
 ·exact absurd h (by assumption)
 ·rename_i a;split at h
  ·omega
  ·rename_i b;exact⟨by simpa using a,k.toNat,om,om⟩
def RG(h:okR l): okR (l.take n):=by
 unfold okR at *;rw[zA] at *;exact λr a=>h r (List.mem_of_mem_take a)
def RH(h:okR l): okR (l.drop n):=by
 unfold okR at *;rw[zA] at *;exact λr a=>h r (List.mem_of_mem_drop a)
def It.one (x:It): x.c.all xW=true:=rfl
def gM (s:List It)(k:Int)(hl:s.length<1000000)(a:qJ s k=0): zO 450 [vIt_ s,iI k] 3 179 ((qK s k).map It.c) (λi b c=>.tup [.sl i b 3 (qK s k).length c,vIt_ (nr s k),iI 0]):=by
 have d:qK s k=s.take (k.toNat+1):=by unfold qK;rw[if_pos a]
 have e:nr s k=s.drop (k.toNat+1):=by unfold nr;rw[if_pos a]
 rw[d,e];obtain⟨m,n,rfl,hn⟩:=OI a;clear a d e;have r:IntKind.i64.wrap ((n:Int)+1)=((n+1:Nat):Int):=wrS om;have o:List.take s.length (s.map It.c)=s.map It.c:=zT sm;have h:=nl (l:=(s.map It.c).take (n+1)) (RG (yb It.one s)) (by simp;omega);have j:=Xv (l:=(s.map It.c).drop (n+1)) (RH (yb It.one s)) (by simp;omega);refine eO [6] func450 λX=>?_;go_simp;repeat'(first|(apply zd (th s hl);try go_simp)|with_reducible first|apply ai|intro)
 refine wA hP ⟨[],false⟩ [25] dk ?_;go_simp;repeat'(first|((first|(refine xM h ?_;intro _ _)|apply zd j);try go_simp)|with_reducible first|apply ai|intro)
 all_goals try omega
 all_goals try exact⟨_,_,_,⟨rfl,rfl,rfl⟩,sm⟩
def T1 (s:List It)(k:Int)(hl:s.length<1000000): zK 450 [vIt_ s,iI k] (.tup [vIt_ (qK s k),vIt_ (nr s k),iI (qJ s k)]):=by
 by_cases a:qJ s k=0
 ·have:=(gM s k hl a).k1 (v':=.tup [vIt_ (qK s k),vIt_ (nr s k),iI 0]) λb c=>by go_simp
  rw[a];exact this
 ·have d:qK s k = []:=by unfold qK;rw[if_neg a]
  have e:nr s k = []:=by unfold nr;rw[if_neg a]
  rw[d,e];unfold qJ at *;refine eK [6] func450 λX=>?_;go_simp;repeat'(first|(apply zd (th s hl);try go_simp)|with_reducible first|apply ai|intro)
  all_goals grind
def X6 (s:List It)(k:Int)(hl:s.length<1000000): zK 432 [vIt_ s,iI k] (.tup [vIt_ (nr s k),iI (qJ s k)]):=by
 have h:=T1 s k hl;refine eK [] func432 λX=>?_;go_simp;repeat'(first|(apply zd h;try go_simp)|with_reducible first|apply ai|intro)
def Zs (s:List It)(k:Int)(hl:s.length<1000000)(e:qJ s k=0): zO 431 [vIt_ s,iI k] 3 179 ((qK s k).map It.c) (λi b c=>.tup [.sl i b 3 (qK s k).length c,iI 0]):=by
 have h:=gM s k hl e;refine eO [] func431 λX=>?_;go_simp;repeat'(first|(refine xu (.l 12) h ?_;intro a d;try go_simp)|with_reducible first|apply ai|intro)
 all_goals try exact⟨_,_,_,⟨rfl,rfl,rfl⟩,sm⟩
def gN (s:List It)(x:It): Int:=if ¬yz s=0 then yz s else if ¬vK x=true then 8 else if s.length=600 then 18 else 0
def ae (s:List It)(x:It): List It:=if gN s x=0 then s++[x] else []
def Ui (s:List It)(x:It)(hl:s.length<1000000): zK 401 [vIt_ s,x.a] (.tup [vIt_ (ae s x),iI (gN s x)]):=by
 have d:=nl (yb It.one s) (by simpa using hl);obtain⟨a,b,c⟩:=x;refine eK [8] func401 λX=>?_;go_simp;repeat'(first|((first|apply zd (th s hl)|apply zd (lQ ⟨_,_,_⟩));try go_simp)|with_reducible first|apply ai|intro)
 all_goals try(refine wA hP ⟨[],false⟩ [19] dk ?_;go_simp;repeat'(first|(refine xM d ?_;intro _ _;try go_simp)|with_reducible first|apply ai|intro))
 all_goals grind [ae,gN,It.c]
def rvZ (r:Rv): Bool:=r.kind==0&&r.op==0&&r.bo==0&&wG r.a&&wG r.b&&plZ r.pl
def y6 (s:St): Bool :=
 (s.kind==1&&xT s.pl==0&&xG s.r&&wG s.a&&s.loc==0) ||
 ((s.kind==2||s.kind==4)&&plZ s.pl&&rvZ s.r&&zq s.a==0&&s.loc==0) ||
 (s.kind==3&&plZ s.pl&&rvZ s.r&&wG s.a&&decide (0<=s.loc/\s.loc<16))
def gX (s:St): zK 282 [s.a'] (iI (if y6 s then 0 else 8)):=by
 refine eK [6] func282 λX=>?_;go_simp;repeat'(first|((first|apply zd (td ⟨_,_,_⟩)|apply zd (jG ⟨_,_,_,_,_,_⟩)|apply zd (wi ⟨_,_,_⟩));try go_simp)|with_reducible first|apply ai|intro)
 all_goals try(refine zh hP ⟨[(12,.l 1,1),(14,.l 1,4),(16,.l 3,1),(17,.l 3,4)],false⟩ dk ?_;go_simp;repeat'(first|((first|apply zd (td ⟨_,_,_⟩)|apply zd (jG ⟨_,_,_,_,_,_⟩));try go_simp)|with_reducible first|apply ai|intro))
 all_goals grind (splits:=60) [y6,rvZ,wG,plZ,xT,sO,sD]
def jK (s:St): zK 437 [s.a'] (.bool (y6 s)):=by
 refine eK [] func437 λX=>?_;go_simp;repeat'(first|((first|apply zd (te ⟨_,_,_⟩)|apply zd (X0 ⟨_,_,_,_,_,_⟩)|apply zd (wU ⟨_,_,_⟩));try go_simp)|with_reducible first|apply ai|intro)
 all_goals grind [y6,rvZ,wG,plZ]
def blk (n:Int): Bool:=decide (0<=n/\n<24)
def sb (j:Ju): Bool:=j.fn==0&&j.args.length==0&&plZ j.dest
def yJ (j:Ju): Bool :=
 (j.kind==1&&sb j&&wG j.a&&blk j.next&&j.els==0) ||
 (j.kind==2&&sb j&&zq j.a==0&&blk j.next&&blk j.els) ||
 ((j.kind==3||j.kind==5)&&sb j&&wG j.a&&j.next==0&&j.els==0) ||
 (j.kind==4&&wG j.a&&decide (0<=j.fn/\j.fn<8)&&decide (j.args.length<=8)&&xT j.dest==0&&blk j.next&&j.els==0&&j.args.all λo=>zq o==0)
def xx (j:Ju): List Int:=if j.kind=3\/j.kind=5 then [] else if j.kind=2/\¬j.els=j.next then [j.next,j.els] else [j.next]
def xo (j:Ju): List Opd:=if j.kind=2 then [j.a] else j.args
def Uv (n:Int): zK 397 [iI n] (.bool (blk n)):=by
 refine eK [] func397 λX=>?_;go_simp;repeat'(first|with_reducible first|apply ai|intro)
 all_goals grind [blk]
def sQ (l:List Opd): (l.all λo=>zq o==0)=true↔∀o∈l,zq o=0:=by simp
def gY (j:Ju)(hl:j.args.length<1000000): zK 337 [j.a'] (iI (if yJ j then 0 else 8)):=by
 have n:j.kind=1\/j.kind=2\/j.kind=3\/j.kind=4\/j.kind=5\/¬j.kind=1/\¬j.kind=2/\¬j.kind=3/\¬j.kind=4/\¬j.kind=5:=om;obtain⟨k,a,fn,nx,el,c,d⟩:=j;simp only at n hl;rcases n with rfl|rfl|rfl|rfl|rfl|⟨u,w,x,y,z⟩;all_goals
  refine eK [] func337 λX=>?_;go_simp;repeat'(first|((first|apply zd (Uv _)|apply zd (td ⟨_,_,_⟩)|apply zd (wi ⟨_,_,_⟩));try go_simp)|with_reducible first|apply ai|intro)
  all_goals try(exfalso;simp_all;done)
  all_goals try(clear hl;grind [yJ,sb,wG,plZ,blk,sO,sD])
  all_goals try
   have e:c = []:=(by assumption)
   subst e;refine zf hP (B:=[]) (G:=Nat) (λi=>[(116,.vec 5 []),(117,iI 0),(118,iI i)])
    (λi=>[]) (λi=>i=0) (λi=>0) 0 dk rfl ?_ ?_ ?_
   ·go_simp
   ·go_simp
   ·rintro i rfl;go_simp;grind [yJ,sb,wG,plZ,blk]
  all_goals
   refine zf hP (B:=[]) (G:=Nat) (λi=>[(116,vOpd_ c),(117,iI c.length),(118,iI i)])
    (λi=>[]) (λi=>i<=c.length/\∀o∈c.take i,zq o=0) (λi=>c.length-i) 0 dk sm ?_ ?_ ?_
   ·go_simp
   ·go_simp
   ·rintro i ⟨hi,s⟩;go_simp;refine⟨λm=>⟨_,zE m,λb=>?_⟩,λr=>?_⟩
    ·repeat'(first|(apply zd (wi ⟨_,_,_⟩);try go_simp)|with_reducible first|apply ai|intro)
     ·rename_i hn;have hb:=sO c[i];have:yJ ⟨4,a,fn,nx,el,c,d⟩=false:=by
       cases h:yJ ⟨4,a,fn,nx,el,c,d⟩ with
       |false=>rfl
       |true=>exact absurd ((sQ c).1 (by grind [yJ]) _ (zM m)) hn
      grind
     ·rename_i t;refine⟨i+1,⟨om,λo h=>?_⟩,om,wrS om⟩;rw[List.take_add_one,zE m] at h;grind
    ·have hx:=(sQ c).2 λo h=>s o (by rwa[show i=c.length by omega,List.take_length]);grind [yJ,sb,wG,plZ,blk]
def ZK (j:Ju)(hl:j.args.length<1000000): zK 284 [j.a'] (.tup [.vec 1 (if yJ j then(xx j).map λn=>[iI n] else []),iI (if yJ j then 0 else 8)]):=by
 refine eK [] func284 λX=>?_;go_simp;repeat'(first|(apply zd (gY ⟨_,_,_,_,_,_,_⟩ hl);try go_simp)|with_reducible first|apply ai|intro)
 all_goals grind [xx]
def XN (n:Int): zK 454 [iI n] (.bool (blk n)):=by
 refine eK [] func454 λX=>?_;go_simp;repeat'(first|with_reducible first|apply ai|intro)
 all_goals grind [blk]
def XO (j:Ju): zK 440 [j.a'] (.vec 1 ((xx j).map λn=>[iI n])):=by
 refine eK [] func440 λX=>?_;go_simp;repeat'(first|with_reducible first|apply ai|intro)
 all_goals grind [xx]
def XP (j:Ju): zK 442 [j.a'] (vOpd_ (xo j)):=by
 refine eK [] func442 λX=>?_;go_simp;repeat'(first|with_reducible first|apply ai|intro)
 all_goals grind [xo,Opd.c]
def XQ (j:Ju): zK 45 [j.a'] (.bool (decide (12<j.args.length))):=by
 refine eK [] func45 λX=>?_;go_simp;repeat'(first|with_reducible first|apply ai|intro)
 all_goals grind
def jL (j:Ju)(hl:j.args.length<1000000): zK 439 [j.a'] (.bool (yJ j)):=by
 refine eK [1002] func439 λX=>?_;go_simp;intro b;refine sj (B:=[]) hP [(1,.ptr (.l 1) b 13 0 0),(2,.bool false),(3,.bool (wG j.a)),(4,.bool (plZ j.dest)),(5,.bool (sb j))] [(.l 1,⟨b,1,13,108,[Ju.c j],false⟩)] dk ?_ ?_
 ·go_simp;repeat'(first|with_reducible first|apply ai|intro)
  all_goals grind [sb,wG,plZ]
 go_simp;repeat'(first|((first|apply zd (XN _)|apply zd (te ⟨_,_,_⟩)|apply zd (wU ⟨_,_,_⟩));try go_simp)|with_reducible first|apply ai|intro)
 all_goals try(clear hl;grind [yJ])
 rename_i n r s t u w x y z m;refine lN [] (λi=>[(1,.ptr (.l 1) b 13 0 0),(6,iI i)]) (λi=>[(.l 1,⟨b,1,13,108,[Ju.c j],false⟩)]) (λi=>i<=j.args.length/\∀o∈j.args.take i,zq o=0) (λi=>j.args.length-i) 0 ?_
 rintro i ⟨hi,k⟩;go_simp;refine⟨λd=>⟨_,zE d,?_⟩,λe=>?_⟩
 ·repeat'(first|(apply zd (wU ⟨_,_,_,_,_⟩);try go_simp)|with_reducible first|apply ai|intro)
  ·rename_i hn;cases h:yJ j with
   |false=>rfl
   |true=>exact absurd ((sQ j.args).1 (by grind [yJ]) _ (zM d)) hn
  ·exact⟨i+1,⟨om,zr k d (by assumption)⟩,om,wrS om⟩
 ·have hx:=(sQ j.args).2 (zx k e);grind [yJ]
end Go.Proofs.YtllodfoldffonaaGreatDoor
