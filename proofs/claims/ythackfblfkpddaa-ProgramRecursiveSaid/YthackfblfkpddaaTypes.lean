/- The program's structs, and how slices of them read. Printed by gentypes.py. -/
import Derived.Test.YthackfblfkpddaaBase
namespace Go.Proofs.Ythackfblfkpddaa
open Go.RowKit
set_option linter.unusedSimpArgs false
set_option linter.unusedVariables false

structure Ty where
  kind : Int
  to : Int
deriving DecidableEq
structure Pl where
  loc : Int
  deref : Bool
  field : Int
deriving DecidableEq
structure Opd where
  kind : Int
  n : Int
  pl : Pl
deriving DecidableEq
structure Rv where
  kind : Int
  op : Int
  bo : Int
  a : Opd
  b : Opd
  pl : Pl
deriving DecidableEq
structure St where
  kind : Int
  pl : Pl
  r : Rv
  a : Opd
  loc : Int
deriving DecidableEq
structure Ju where
  kind : Int
  a : Opd
  fn : Int
  next : Int
  els : Int
  args : List Opd
  dest : Pl
deriving DecidableEq
structure Bk where
  stmts : List St
  jump : Ju
deriving DecidableEq
structure Fn where
  params : Int
  uns : Bool
  locals : List Ty
  blocks : List Bk
deriving DecidableEq
structure Pr where
  funcs : List Fn
deriving DecidableEq
structure Ty.wf (x : Ty) : Prop where
  kind : U8 x.kind
  to : U8 x.to
structure Pl.wf (x : Pl) : Prop where
  loc : I64 x.loc
  field : U8 x.field
structure Opd.wf (x : Opd) : Prop where
  kind : U8 x.kind
  n : I64 x.n
  pl : x.pl.wf
structure Rv.wf (x : Rv) : Prop where
  kind : U8 x.kind
  op : U8 x.op
  bo : U8 x.bo
  a : x.a.wf
  b : x.b.wf
  pl : x.pl.wf
structure St.wf (x : St) : Prop where
  kind : U8 x.kind
  pl : x.pl.wf
  r : x.r.wf
  a : x.a.wf
  loc : I64 x.loc
structure Ju.wf (x : Ju) : Prop where
  kind : U8 x.kind
  a : x.a.wf
  fn : I64 x.fn
  next : I64 x.next
  els : I64 x.els
  dest : x.dest.wf
structure Bk.wf (x : Bk) : Prop where
  jump : x.jump.wf
structure Fn.wf (x : Fn) : Prop where
  params : I64 x.params
structure Pr.wf (x : Pr) : Prop where
abbrev Ty.c (x : Ty) : List Value := [.int .u8 x.kind, .int .u8 x.to]
abbrev Ty.v (x : Ty) : Value := .agg #[.int .u8 x.kind, .int .u8 x.to]
abbrev Pl.c (x : Pl) : List Value := [.int .i64 x.loc, .bool x.deref, .int .u8 x.field]
abbrev Pl.v (x : Pl) : Value := .agg #[.int .i64 x.loc, .bool x.deref, .int .u8 x.field]
abbrev Opd.c (x : Opd) : List Value := [.int .u8 x.kind, .int .i64 x.n, .int .i64 x.pl.loc, .bool x.pl.deref, .int .u8 x.pl.field]
abbrev Opd.v (x : Opd) : Value := .agg #[.int .u8 x.kind, .int .i64 x.n, .int .i64 x.pl.loc, .bool x.pl.deref, .int .u8 x.pl.field]
abbrev Rv.c (x : Rv) : List Value := [.int .u8 x.kind, .int .u8 x.op, .int .u8 x.bo, .int .u8 x.a.kind, .int .i64 x.a.n, .int .i64 x.a.pl.loc, .bool x.a.pl.deref, .int .u8 x.a.pl.field, .int .u8 x.b.kind, .int .i64 x.b.n, .int .i64 x.b.pl.loc, .bool x.b.pl.deref, .int .u8 x.b.pl.field, .int .i64 x.pl.loc, .bool x.pl.deref, .int .u8 x.pl.field]
abbrev Rv.v (x : Rv) : Value := .agg #[.int .u8 x.kind, .int .u8 x.op, .int .u8 x.bo, .int .u8 x.a.kind, .int .i64 x.a.n, .int .i64 x.a.pl.loc, .bool x.a.pl.deref, .int .u8 x.a.pl.field, .int .u8 x.b.kind, .int .i64 x.b.n, .int .i64 x.b.pl.loc, .bool x.b.pl.deref, .int .u8 x.b.pl.field, .int .i64 x.pl.loc, .bool x.pl.deref, .int .u8 x.pl.field]
abbrev St.c (x : St) : List Value := [.int .u8 x.kind, .int .i64 x.pl.loc, .bool x.pl.deref, .int .u8 x.pl.field, .int .u8 x.r.kind, .int .u8 x.r.op, .int .u8 x.r.bo, .int .u8 x.r.a.kind, .int .i64 x.r.a.n, .int .i64 x.r.a.pl.loc, .bool x.r.a.pl.deref, .int .u8 x.r.a.pl.field, .int .u8 x.r.b.kind, .int .i64 x.r.b.n, .int .i64 x.r.b.pl.loc, .bool x.r.b.pl.deref, .int .u8 x.r.b.pl.field, .int .i64 x.r.pl.loc, .bool x.r.pl.deref, .int .u8 x.r.pl.field, .int .u8 x.a.kind, .int .i64 x.a.n, .int .i64 x.a.pl.loc, .bool x.a.pl.deref, .int .u8 x.a.pl.field, .int .i64 x.loc]
abbrev St.v (x : St) : Value := .agg #[.int .u8 x.kind, .int .i64 x.pl.loc, .bool x.pl.deref, .int .u8 x.pl.field, .int .u8 x.r.kind, .int .u8 x.r.op, .int .u8 x.r.bo, .int .u8 x.r.a.kind, .int .i64 x.r.a.n, .int .i64 x.r.a.pl.loc, .bool x.r.a.pl.deref, .int .u8 x.r.a.pl.field, .int .u8 x.r.b.kind, .int .i64 x.r.b.n, .int .i64 x.r.b.pl.loc, .bool x.r.b.pl.deref, .int .u8 x.r.b.pl.field, .int .i64 x.r.pl.loc, .bool x.r.pl.deref, .int .u8 x.r.pl.field, .int .u8 x.a.kind, .int .i64 x.a.n, .int .i64 x.a.pl.loc, .bool x.a.pl.deref, .int .u8 x.a.pl.field, .int .i64 x.loc]
abbrev Ju.c (x : Ju) (args : Value) : List Value := [.int .u8 x.kind, .int .u8 x.a.kind, .int .i64 x.a.n, .int .i64 x.a.pl.loc, .bool x.a.pl.deref, .int .u8 x.a.pl.field, .int .i64 x.fn, .int .i64 x.next, .int .i64 x.els, args, .int .i64 x.dest.loc, .bool x.dest.deref, .int .u8 x.dest.field]
abbrev Ju.v (x : Ju) (args : Value) : Value := .agg #[.int .u8 x.kind, .int .u8 x.a.kind, .int .i64 x.a.n, .int .i64 x.a.pl.loc, .bool x.a.pl.deref, .int .u8 x.a.pl.field, .int .i64 x.fn, .int .i64 x.next, .int .i64 x.els, args, .int .i64 x.dest.loc, .bool x.dest.deref, .int .u8 x.dest.field]
abbrev Bk.c (x : Bk) (stmts : Value) (jump_args : Value) : List Value := [stmts, .int .u8 x.jump.kind, .int .u8 x.jump.a.kind, .int .i64 x.jump.a.n, .int .i64 x.jump.a.pl.loc, .bool x.jump.a.pl.deref, .int .u8 x.jump.a.pl.field, .int .i64 x.jump.fn, .int .i64 x.jump.next, .int .i64 x.jump.els, jump_args, .int .i64 x.jump.dest.loc, .bool x.jump.dest.deref, .int .u8 x.jump.dest.field]
abbrev Bk.v (x : Bk) (stmts : Value) (jump_args : Value) : Value := .agg #[stmts, .int .u8 x.jump.kind, .int .u8 x.jump.a.kind, .int .i64 x.jump.a.n, .int .i64 x.jump.a.pl.loc, .bool x.jump.a.pl.deref, .int .u8 x.jump.a.pl.field, .int .i64 x.jump.fn, .int .i64 x.jump.next, .int .i64 x.jump.els, jump_args, .int .i64 x.jump.dest.loc, .bool x.jump.dest.deref, .int .u8 x.jump.dest.field]
abbrev Fn.c (x : Fn) (locals : Value) (blocks : Value) : List Value := [.int .i64 x.params, .bool x.uns, locals, blocks]
abbrev Fn.v (x : Fn) (locals : Value) (blocks : Value) : Value := .agg #[.int .i64 x.params, .bool x.uns, locals, blocks]
abbrev Pr.c (x : Pr) (funcs : Value) : List Value := [funcs]
abbrev Pr.v (x : Pr) (funcs : Value) : Value := .agg #[funcs]
instance : Rp Ty where
  sz := 2
  R _ _ t cs := cs = t.c ∧ t.wf
  len h := by obtain ⟨rfl, _⟩ := h; rfl
  keep _ h := h
  wide _ h := h
theorem sz_ty : Rp.sz Ty = 2 := rfl
attribute [go_sem] sz_ty
instance : Rp Opd where
  sz := 5
  R _ _ t cs := cs = t.c ∧ t.wf
  len h := by obtain ⟨rfl, _⟩ := h; rfl
  keep _ h := h
  wide _ h := h
theorem sz_opd : Rp.sz Opd = 5 := rfl
attribute [go_sem] sz_opd
instance : Rp St where
  sz := 26
  R _ _ t cs := cs = t.c ∧ t.wf
  len h := by obtain ⟨rfl, _⟩ := h; rfl
  keep _ h := h
  wide _ h := h
theorem sz_st : Rp.sz St = 26 := rfl
attribute [go_sem] sz_st
instance : Rp Bk where
  sz := 14
  R F w x cs := ∃ stmts_a stmts_n stmts_c jump_args_a jump_args_n jump_args_c, cs = x.c (.slice stmts_a stmts_n stmts_c) (.slice jump_args_a jump_args_n jump_args_c) ∧ x.wf ∧ Sl F w (.slice stmts_a stmts_n stmts_c) x.stmts ∧ Sl F w (.slice jump_args_a jump_args_n jump_args_c) x.jump.args
  len h := by obtain ⟨_, _, _, _, _, _, rfl, _⟩ := h; rfl
  keep g h := by obtain ⟨stmts_a, stmts_n, stmts_c, jump_args_a, jump_args_n, jump_args_c, h1, h2, g0, g1⟩ := h; exact ⟨stmts_a, stmts_n, stmts_c, jump_args_a, jump_args_n, jump_args_c, h1, h2, g0.keep g, g1.keep g⟩
  wide g h := by obtain ⟨stmts_a, stmts_n, stmts_c, jump_args_a, jump_args_n, jump_args_c, h1, h2, g0, g1⟩ := h; exact ⟨stmts_a, stmts_n, stmts_c, jump_args_a, jump_args_n, jump_args_c, h1, h2, g0.wide g, g1.wide g⟩
theorem sz_bk : Rp.sz Bk = 14 := rfl
attribute [go_sem] sz_bk
instance : Rp Fn where
  sz := 4
  R F w x cs := ∃ locals_a locals_n locals_c blocks_a blocks_n blocks_c, cs = x.c (.slice locals_a locals_n locals_c) (.slice blocks_a blocks_n blocks_c) ∧ x.wf ∧ Sl F w (.slice locals_a locals_n locals_c) x.locals ∧ Sl F w (.slice blocks_a blocks_n blocks_c) x.blocks
  len h := by obtain ⟨_, _, _, _, _, _, rfl, _⟩ := h; rfl
  keep g h := by obtain ⟨locals_a, locals_n, locals_c, blocks_a, blocks_n, blocks_c, h1, h2, g0, g1⟩ := h; exact ⟨locals_a, locals_n, locals_c, blocks_a, blocks_n, blocks_c, h1, h2, g0.keep g, g1.keep g⟩
  wide g h := by obtain ⟨locals_a, locals_n, locals_c, blocks_a, blocks_n, blocks_c, h1, h2, g0, g1⟩ := h; exact ⟨locals_a, locals_n, locals_c, blocks_a, blocks_n, blocks_c, h1, h2, g0.wide g, g1.wide g⟩
theorem sz_fn : Rp.sz Fn = 4 := rfl
attribute [go_sem] sz_fn
/-- The element i: its cells, and its structs. -/
structure AtTy (F : Nat → Prop) (w : World) (ts : List Ty) (i : Nat) (b off : Nat) (x : Ty) : Prop where
  g : Hid (ts[i]? = some x)
  lt : LtW b w
  wf : x.wf
  c0 : w.cell? ⟨b, off + i * 2, none⟩ = some (.int .u8 x.kind)
  c1 : w.cell? ⟨b, off + i * 2 + 1, none⟩ = some (.int .u8 x.to)
  r0 : row? w b (off + i * 2) 2 = some [.int .u8 x.kind, .int .u8 x.to]
theorem Sl.ty {F : Nat → Prop} {w : World} {a : Option Addr} {n cap : Nat} {ts : List Ty} (h : Sl F w (.slice a n cap) ts) (i : Nat) (hi : i < n) : ∃ b off x, a = some ⟨b, off, none⟩ ∧ AtTy F w ts i b off x := by
  obtain ⟨b, off, x, cs, ha, hx, hlt, ⟨rfl, hw⟩, hc⟩ := h.get i hi
  exact ⟨b, off, x, ha, ⟨hx, hlt, hw, hc 0 (by simp), hc 1 (by simp), row_of_cells hc 0 2 (by simp)⟩⟩
/-- The element i: its cells, and its structs. -/
structure AtOpd (F : Nat → Prop) (w : World) (ts : List Opd) (i : Nat) (b off : Nat) (x : Opd) : Prop where
  g : Hid (ts[i]? = some x)
  lt : LtW b w
  wf : x.wf
  c0 : w.cell? ⟨b, off + i * 5, none⟩ = some (.int .u8 x.kind)
  c1 : w.cell? ⟨b, off + i * 5 + 1, none⟩ = some (.int .i64 x.n)
  c2 : w.cell? ⟨b, off + i * 5 + 2, none⟩ = some (.int .i64 x.pl.loc)
  c3 : w.cell? ⟨b, off + i * 5 + 3, none⟩ = some (.bool x.pl.deref)
  c4 : w.cell? ⟨b, off + i * 5 + 4, none⟩ = some (.int .u8 x.pl.field)
  r0 : row? w b (off + i * 5) 5 = some [.int .u8 x.kind, .int .i64 x.n, .int .i64 x.pl.loc, .bool x.pl.deref, .int .u8 x.pl.field]
  r1 : row? w b (off + i * 5 + 2) 3 = some [.int .i64 x.pl.loc, .bool x.pl.deref, .int .u8 x.pl.field]
theorem Sl.opd {F : Nat → Prop} {w : World} {a : Option Addr} {n cap : Nat} {ts : List Opd} (h : Sl F w (.slice a n cap) ts) (i : Nat) (hi : i < n) : ∃ b off x, a = some ⟨b, off, none⟩ ∧ AtOpd F w ts i b off x := by
  obtain ⟨b, off, x, cs, ha, hx, hlt, ⟨rfl, hw⟩, hc⟩ := h.get i hi
  exact ⟨b, off, x, ha, ⟨hx, hlt, hw, hc 0 (by simp), hc 1 (by simp), hc 2 (by simp), hc 3 (by simp), hc 4 (by simp), row_of_cells hc 0 5 (by simp), row_of_cells hc 2 3 (by simp)⟩⟩
/-- The element i: its cells, and its structs. -/
structure AtSt (F : Nat → Prop) (w : World) (ts : List St) (i : Nat) (b off : Nat) (x : St) : Prop where
  g : Hid (ts[i]? = some x)
  lt : LtW b w
  wf : x.wf
  c0 : w.cell? ⟨b, off + i * 26, none⟩ = some (.int .u8 x.kind)
  c1 : w.cell? ⟨b, off + i * 26 + 1, none⟩ = some (.int .i64 x.pl.loc)
  c2 : w.cell? ⟨b, off + i * 26 + 2, none⟩ = some (.bool x.pl.deref)
  c3 : w.cell? ⟨b, off + i * 26 + 3, none⟩ = some (.int .u8 x.pl.field)
  c4 : w.cell? ⟨b, off + i * 26 + 4, none⟩ = some (.int .u8 x.r.kind)
  c5 : w.cell? ⟨b, off + i * 26 + 5, none⟩ = some (.int .u8 x.r.op)
  c6 : w.cell? ⟨b, off + i * 26 + 6, none⟩ = some (.int .u8 x.r.bo)
  c7 : w.cell? ⟨b, off + i * 26 + 7, none⟩ = some (.int .u8 x.r.a.kind)
  c8 : w.cell? ⟨b, off + i * 26 + 8, none⟩ = some (.int .i64 x.r.a.n)
  c9 : w.cell? ⟨b, off + i * 26 + 9, none⟩ = some (.int .i64 x.r.a.pl.loc)
  c10 : w.cell? ⟨b, off + i * 26 + 10, none⟩ = some (.bool x.r.a.pl.deref)
  c11 : w.cell? ⟨b, off + i * 26 + 11, none⟩ = some (.int .u8 x.r.a.pl.field)
  c12 : w.cell? ⟨b, off + i * 26 + 12, none⟩ = some (.int .u8 x.r.b.kind)
  c13 : w.cell? ⟨b, off + i * 26 + 13, none⟩ = some (.int .i64 x.r.b.n)
  c14 : w.cell? ⟨b, off + i * 26 + 14, none⟩ = some (.int .i64 x.r.b.pl.loc)
  c15 : w.cell? ⟨b, off + i * 26 + 15, none⟩ = some (.bool x.r.b.pl.deref)
  c16 : w.cell? ⟨b, off + i * 26 + 16, none⟩ = some (.int .u8 x.r.b.pl.field)
  c17 : w.cell? ⟨b, off + i * 26 + 17, none⟩ = some (.int .i64 x.r.pl.loc)
  c18 : w.cell? ⟨b, off + i * 26 + 18, none⟩ = some (.bool x.r.pl.deref)
  c19 : w.cell? ⟨b, off + i * 26 + 19, none⟩ = some (.int .u8 x.r.pl.field)
  c20 : w.cell? ⟨b, off + i * 26 + 20, none⟩ = some (.int .u8 x.a.kind)
  c21 : w.cell? ⟨b, off + i * 26 + 21, none⟩ = some (.int .i64 x.a.n)
  c22 : w.cell? ⟨b, off + i * 26 + 22, none⟩ = some (.int .i64 x.a.pl.loc)
  c23 : w.cell? ⟨b, off + i * 26 + 23, none⟩ = some (.bool x.a.pl.deref)
  c24 : w.cell? ⟨b, off + i * 26 + 24, none⟩ = some (.int .u8 x.a.pl.field)
  c25 : w.cell? ⟨b, off + i * 26 + 25, none⟩ = some (.int .i64 x.loc)
  r0 : row? w b (off + i * 26) 26 = some [.int .u8 x.kind, .int .i64 x.pl.loc, .bool x.pl.deref, .int .u8 x.pl.field, .int .u8 x.r.kind, .int .u8 x.r.op, .int .u8 x.r.bo, .int .u8 x.r.a.kind, .int .i64 x.r.a.n, .int .i64 x.r.a.pl.loc, .bool x.r.a.pl.deref, .int .u8 x.r.a.pl.field, .int .u8 x.r.b.kind, .int .i64 x.r.b.n, .int .i64 x.r.b.pl.loc, .bool x.r.b.pl.deref, .int .u8 x.r.b.pl.field, .int .i64 x.r.pl.loc, .bool x.r.pl.deref, .int .u8 x.r.pl.field, .int .u8 x.a.kind, .int .i64 x.a.n, .int .i64 x.a.pl.loc, .bool x.a.pl.deref, .int .u8 x.a.pl.field, .int .i64 x.loc]
  r1 : row? w b (off + i * 26 + 1) 3 = some [.int .i64 x.pl.loc, .bool x.pl.deref, .int .u8 x.pl.field]
  r2 : row? w b (off + i * 26 + 4) 16 = some [.int .u8 x.r.kind, .int .u8 x.r.op, .int .u8 x.r.bo, .int .u8 x.r.a.kind, .int .i64 x.r.a.n, .int .i64 x.r.a.pl.loc, .bool x.r.a.pl.deref, .int .u8 x.r.a.pl.field, .int .u8 x.r.b.kind, .int .i64 x.r.b.n, .int .i64 x.r.b.pl.loc, .bool x.r.b.pl.deref, .int .u8 x.r.b.pl.field, .int .i64 x.r.pl.loc, .bool x.r.pl.deref, .int .u8 x.r.pl.field]
  r3 : row? w b (off + i * 26 + 7) 5 = some [.int .u8 x.r.a.kind, .int .i64 x.r.a.n, .int .i64 x.r.a.pl.loc, .bool x.r.a.pl.deref, .int .u8 x.r.a.pl.field]
  r4 : row? w b (off + i * 26 + 9) 3 = some [.int .i64 x.r.a.pl.loc, .bool x.r.a.pl.deref, .int .u8 x.r.a.pl.field]
  r5 : row? w b (off + i * 26 + 12) 5 = some [.int .u8 x.r.b.kind, .int .i64 x.r.b.n, .int .i64 x.r.b.pl.loc, .bool x.r.b.pl.deref, .int .u8 x.r.b.pl.field]
  r6 : row? w b (off + i * 26 + 14) 3 = some [.int .i64 x.r.b.pl.loc, .bool x.r.b.pl.deref, .int .u8 x.r.b.pl.field]
  r7 : row? w b (off + i * 26 + 17) 3 = some [.int .i64 x.r.pl.loc, .bool x.r.pl.deref, .int .u8 x.r.pl.field]
  r8 : row? w b (off + i * 26 + 20) 5 = some [.int .u8 x.a.kind, .int .i64 x.a.n, .int .i64 x.a.pl.loc, .bool x.a.pl.deref, .int .u8 x.a.pl.field]
  r9 : row? w b (off + i * 26 + 22) 3 = some [.int .i64 x.a.pl.loc, .bool x.a.pl.deref, .int .u8 x.a.pl.field]
theorem Sl.st {F : Nat → Prop} {w : World} {a : Option Addr} {n cap : Nat} {ts : List St} (h : Sl F w (.slice a n cap) ts) (i : Nat) (hi : i < n) : ∃ b off x, a = some ⟨b, off, none⟩ ∧ AtSt F w ts i b off x := by
  obtain ⟨b, off, x, cs, ha, hx, hlt, ⟨rfl, hw⟩, hc⟩ := h.get i hi
  exact ⟨b, off, x, ha, ⟨hx, hlt, hw, hc 0 (by simp), hc 1 (by simp), hc 2 (by simp), hc 3 (by simp), hc 4 (by simp), hc 5 (by simp), hc 6 (by simp), hc 7 (by simp), hc 8 (by simp), hc 9 (by simp), hc 10 (by simp), hc 11 (by simp), hc 12 (by simp), hc 13 (by simp), hc 14 (by simp), hc 15 (by simp), hc 16 (by simp), hc 17 (by simp), hc 18 (by simp), hc 19 (by simp), hc 20 (by simp), hc 21 (by simp), hc 22 (by simp), hc 23 (by simp), hc 24 (by simp), hc 25 (by simp), row_of_cells hc 0 26 (by simp), row_of_cells hc 1 3 (by simp), row_of_cells hc 4 16 (by simp), row_of_cells hc 7 5 (by simp), row_of_cells hc 9 3 (by simp), row_of_cells hc 12 5 (by simp), row_of_cells hc 14 3 (by simp), row_of_cells hc 17 3 (by simp), row_of_cells hc 20 5 (by simp), row_of_cells hc 22 3 (by simp)⟩⟩
/-- The element i: its cells, and its structs. -/
structure AtBk (F : Nat → Prop) (w : World) (ts : List Bk) (i : Nat) (b off : Nat) (x : Bk) (stmts_a : Option Addr) (stmts_n stmts_c : Nat) (jump_args_a : Option Addr) (jump_args_n jump_args_c : Nat) : Prop where
  g : Hid (ts[i]? = some x)
  lt : LtW b w
  wf : x.wf
  stmts : Sl F w (.slice stmts_a stmts_n stmts_c) x.stmts
  jump_args : Sl F w (.slice jump_args_a jump_args_n jump_args_c) x.jump.args
  c0 : w.cell? ⟨b, off + i * 14, none⟩ = some (.slice stmts_a stmts_n stmts_c)
  c1 : w.cell? ⟨b, off + i * 14 + 1, none⟩ = some (.int .u8 x.jump.kind)
  c2 : w.cell? ⟨b, off + i * 14 + 2, none⟩ = some (.int .u8 x.jump.a.kind)
  c3 : w.cell? ⟨b, off + i * 14 + 3, none⟩ = some (.int .i64 x.jump.a.n)
  c4 : w.cell? ⟨b, off + i * 14 + 4, none⟩ = some (.int .i64 x.jump.a.pl.loc)
  c5 : w.cell? ⟨b, off + i * 14 + 5, none⟩ = some (.bool x.jump.a.pl.deref)
  c6 : w.cell? ⟨b, off + i * 14 + 6, none⟩ = some (.int .u8 x.jump.a.pl.field)
  c7 : w.cell? ⟨b, off + i * 14 + 7, none⟩ = some (.int .i64 x.jump.fn)
  c8 : w.cell? ⟨b, off + i * 14 + 8, none⟩ = some (.int .i64 x.jump.next)
  c9 : w.cell? ⟨b, off + i * 14 + 9, none⟩ = some (.int .i64 x.jump.els)
  c10 : w.cell? ⟨b, off + i * 14 + 10, none⟩ = some (.slice jump_args_a jump_args_n jump_args_c)
  c11 : w.cell? ⟨b, off + i * 14 + 11, none⟩ = some (.int .i64 x.jump.dest.loc)
  c12 : w.cell? ⟨b, off + i * 14 + 12, none⟩ = some (.bool x.jump.dest.deref)
  c13 : w.cell? ⟨b, off + i * 14 + 13, none⟩ = some (.int .u8 x.jump.dest.field)
  r0 : row? w b (off + i * 14) 14 = some [.slice stmts_a stmts_n stmts_c, .int .u8 x.jump.kind, .int .u8 x.jump.a.kind, .int .i64 x.jump.a.n, .int .i64 x.jump.a.pl.loc, .bool x.jump.a.pl.deref, .int .u8 x.jump.a.pl.field, .int .i64 x.jump.fn, .int .i64 x.jump.next, .int .i64 x.jump.els, .slice jump_args_a jump_args_n jump_args_c, .int .i64 x.jump.dest.loc, .bool x.jump.dest.deref, .int .u8 x.jump.dest.field]
  r1 : row? w b (off + i * 14 + 1) 13 = some [.int .u8 x.jump.kind, .int .u8 x.jump.a.kind, .int .i64 x.jump.a.n, .int .i64 x.jump.a.pl.loc, .bool x.jump.a.pl.deref, .int .u8 x.jump.a.pl.field, .int .i64 x.jump.fn, .int .i64 x.jump.next, .int .i64 x.jump.els, .slice jump_args_a jump_args_n jump_args_c, .int .i64 x.jump.dest.loc, .bool x.jump.dest.deref, .int .u8 x.jump.dest.field]
  r2 : row? w b (off + i * 14 + 2) 5 = some [.int .u8 x.jump.a.kind, .int .i64 x.jump.a.n, .int .i64 x.jump.a.pl.loc, .bool x.jump.a.pl.deref, .int .u8 x.jump.a.pl.field]
  r3 : row? w b (off + i * 14 + 4) 3 = some [.int .i64 x.jump.a.pl.loc, .bool x.jump.a.pl.deref, .int .u8 x.jump.a.pl.field]
  r4 : row? w b (off + i * 14 + 11) 3 = some [.int .i64 x.jump.dest.loc, .bool x.jump.dest.deref, .int .u8 x.jump.dest.field]
theorem Sl.bk {F : Nat → Prop} {w : World} {a : Option Addr} {n cap : Nat} {ts : List Bk} (h : Sl F w (.slice a n cap) ts) (i : Nat) (hi : i < n) : ∃ b off x stmts_a stmts_n stmts_c jump_args_a jump_args_n jump_args_c, a = some ⟨b, off, none⟩ ∧ AtBk F w ts i b off x stmts_a stmts_n stmts_c jump_args_a jump_args_n jump_args_c := by
  obtain ⟨b, off, x, cs, ha, hx, hlt, ⟨stmts_a, stmts_n, stmts_c, jump_args_a, jump_args_n, jump_args_c, rfl, hw, g0, g1⟩, hc⟩ := h.get i hi
  exact ⟨b, off, x, stmts_a, stmts_n, stmts_c, jump_args_a, jump_args_n, jump_args_c, ha, ⟨hx, hlt, hw, g0, g1, hc 0 (by simp), hc 1 (by simp), hc 2 (by simp), hc 3 (by simp), hc 4 (by simp), hc 5 (by simp), hc 6 (by simp), hc 7 (by simp), hc 8 (by simp), hc 9 (by simp), hc 10 (by simp), hc 11 (by simp), hc 12 (by simp), hc 13 (by simp), row_of_cells hc 0 14 (by simp), row_of_cells hc 1 13 (by simp), row_of_cells hc 2 5 (by simp), row_of_cells hc 4 3 (by simp), row_of_cells hc 11 3 (by simp)⟩⟩
/-- The element i: its cells, and its structs. -/
structure AtFn (F : Nat → Prop) (w : World) (ts : List Fn) (i : Nat) (b off : Nat) (x : Fn) (locals_a : Option Addr) (locals_n locals_c : Nat) (blocks_a : Option Addr) (blocks_n blocks_c : Nat) : Prop where
  g : Hid (ts[i]? = some x)
  lt : LtW b w
  wf : x.wf
  locals : Sl F w (.slice locals_a locals_n locals_c) x.locals
  blocks : Sl F w (.slice blocks_a blocks_n blocks_c) x.blocks
  c0 : w.cell? ⟨b, off + i * 4, none⟩ = some (.int .i64 x.params)
  c1 : w.cell? ⟨b, off + i * 4 + 1, none⟩ = some (.bool x.uns)
  c2 : w.cell? ⟨b, off + i * 4 + 2, none⟩ = some (.slice locals_a locals_n locals_c)
  c3 : w.cell? ⟨b, off + i * 4 + 3, none⟩ = some (.slice blocks_a blocks_n blocks_c)
  r0 : row? w b (off + i * 4) 4 = some [.int .i64 x.params, .bool x.uns, .slice locals_a locals_n locals_c, .slice blocks_a blocks_n blocks_c]
theorem Sl.fn {F : Nat → Prop} {w : World} {a : Option Addr} {n cap : Nat} {ts : List Fn} (h : Sl F w (.slice a n cap) ts) (i : Nat) (hi : i < n) : ∃ b off x locals_a locals_n locals_c blocks_a blocks_n blocks_c, a = some ⟨b, off, none⟩ ∧ AtFn F w ts i b off x locals_a locals_n locals_c blocks_a blocks_n blocks_c := by
  obtain ⟨b, off, x, cs, ha, hx, hlt, ⟨locals_a, locals_n, locals_c, blocks_a, blocks_n, blocks_c, rfl, hw, g0, g1⟩, hc⟩ := h.get i hi
  exact ⟨b, off, x, locals_a, locals_n, locals_c, blocks_a, blocks_n, blocks_c, ha, ⟨hx, hlt, hw, g0, g1, hc 0 (by simp), hc 1 (by simp), hc 2 (by simp), hc 3 (by simp), row_of_cells hc 0 4 (by simp)⟩⟩
end Go.Proofs.Ythackfblfkpddaa
