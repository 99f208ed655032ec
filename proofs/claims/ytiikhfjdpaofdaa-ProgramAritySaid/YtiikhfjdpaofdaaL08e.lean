/- Layer 8: the functions that are reached by calls: a stack of numbers, and a set. -/
import Derived.Test.YtiikhfjdpaofdaaL07z
import Derived.Test.YtiikhfjdpaofdaaL08d
import Derived.Test.YtiikhfjdpaofdaaMapB
import Derived.Test.YtiikhfjdpaofdaaReach
import Derived.Test.YtiikhfjdpaofdaaOwn2
namespace Go.Proofs.Ytiikhfjdpaofdaa
open Go.RowKit
set_option linter.unusedSimpArgs false
set_option linter.unusedVariables false

theorem Grow.grown {w w' : World} (h : Grow w w') : w.grownBy w' none := ⟨h.os, h.tape, h.output, h.size, fun k hk _ => h.block k hk⟩
theorem MapB.agr {w w' : World} {B n : Nat} {S : Int → Bool} (h : MapB w B n S) (e : w'.heap[B]? = w.heap[B]?) : MapB w' B n S := by
  obtain ⟨D, ⟨es, clock, h1, h2⟩, h3⟩ := h
  exact ⟨D, ⟨es, clock, by rw [e]; exact h1, h2⟩, h3⟩
/-- The last one is taken off. -/
theorem Own.pop {F : Nat → Prop} {base : Nat} {e : TypeId} {w : World} {a : Option Addr} {n cap : Nat} {xs : List Int} {x : Int} (h : Own F base e w (.slice a (n + 1) cap) (xs ++ [x])) : Own F base e w (.slice a n cap) xs := by
  obtain ⟨G, css, hG, hl, hR, hn, hown⟩ := h
  obtain ⟨hlen, hown⟩ := hown
  rcases hown with ⟨hv, h0⟩ | ⟨g, cap', cur, hv, hbg, hg, hnc, hcm, hcs, htake⟩
  · simp at h0
  · injection hv with e1 e2 e3; subst e1 e3
    have hn' : n = xs.length := by simp at e2; omega
    subst hn'
    simp only [List.length_append, List.length_singleton] at hl hnc hn hlen htake
    refine ⟨G, css.take xs.length, fun k hk => ⟨(hG k hk).1, (hG k hk).2.1, (hG k hk).2.2⟩, by simp; omega, fun i hi hi' => ?_, by omega, ?_, Or.inr ⟨g, cap, cur, rfl, hbg, hg, by omega, hcm, hcs, ?_⟩⟩
    · have := hR i (by simp; omega) (by omega)
      rw [List.getElem_append_left hi] at this
      rw [List.getElem_take]; exact this
    · have hcl : ∀ c ∈ css, c.length = 1 := by
        intro c hc
        obtain ⟨i, hi, rfl⟩ := List.getElem_of_mem hc
        exact Rp.len (hR i (by simp; omega) hi)
      have : ∀ (l : List (List Value)), (∀ c ∈ l, c.length = 1) → l.flatten.length = l.length := by
        intro l hl; induction l with
        | nil => rfl
        | cons c l ih => simp [hl c (by simp), ih (fun d hd => hl d (by simp [hd]))]; omega
      rw [this _ (fun c hc => hcl c (List.mem_of_mem_take hc))]; simp [sz_int]; omega
    · have hcl : ∀ c ∈ css, c.length = 1 := by
        intro c hc
        obtain ⟨i, hi, rfl⟩ := List.getElem_of_mem hc
        exact Rp.len (hR i (by simp; omega) hi)
      have key : ∀ (l : List (List Value)) (m : Nat), (∀ c ∈ l, c.length = 1) → (l.take m).flatten = l.flatten.take m := by
        intro l; induction l with
        | nil => intro m _; simp
        | cons c l ih =>
          intro m hl
          cases m with
          | zero => simp
          | succ m =>
            have h1 := hl c (by simp)
            match c, h1 with
            | [v], _ => simp [ih m (fun d hd => hl d (by simp [hd]))]
      rw [key css xs.length hcl, ← htake]
      rw [sz_int, List.take_take]; congr 1; omega
/-- append(v, y), with what it tells of the row's block. -/
theorem wpList_app2 {P : Program} {ops : Array Oper} {rest : List Oper} {o : Oper} {a : Act} {w W0 : World} {x0 : Ext} {Q : Exit → Act → World → Prop} {s x : Operand} {t e : TypeId} {bytes : Nat}
    (T : SlT P t e 1 bytes) (hgd : o.guard = none) (ho : o.op = .call { callee := .builtin .append, args := #[s, x], argTypes := #[t, t] })
    {base : Nat} {v : Value} {xs : List Int} (hs : a.eval s = v) (hown : Own (fun _ => False) base e (ext W0 x0) v xs) (hgr : Grow (ext W0 x0) w) (hb : W0.heap.size ≤ base) (hbs : base ≤ w.heap.size)
    {b off c : Nat} (hx : a.eval x = .slice (some ⟨b, off, none⟩) 1 c) {y : Int} (hy : I64 y) (hc : CellsAt w b off [.int .i64 y]) (hlen : (xs.length + 1) * bytes ≤ 140737488355328) (hlen' : xs.length + 1 ≤ 140737488355328)
    (h : ∀ v' x', Own (fun _ => False) base e (ext W0 x') v' (xs ++ [y]) → (ext W0 x0).grownBy (ext W0 x') v.ownBlock → (v'.ownBlock = v.ownBlock ∨ v'.ownBlock = some w.heap.size) → wpList P ops Q rest (a.put o.dst v') (ext W0 x')) :
    wpList P ops Q (o :: rest) a w := by
  obtain ⟨G, css, hG, hl, hRs, hn, hor⟩ := hown.mono hgr
  obtain ⟨v', w', hr, h2, h3, h4⟩ := run_app (P := P) w base t o.type e _ bytes T v _ _ hor ⟨b, off, none⟩ 1 c [.int .i64 y] (by simp) (fun j u hu => by
    obtain ⟨hj, rfl⟩ := List.getElem?_eq_some_iff.1 hu
    rw [Addr.add_lit]; exact hc j hj) (fun u hu => by simp at hu; subst hu; rfl) (by omega) hlen hlen' hbs
  have hrow : ∀ k, v.ownBlock = some k → base ≤ k ∧ k < (ext W0 x0).heap.size := hown.row_lt
  have hgw : Grow W0 w := (grow_ext W0 x0).trans hgr
  have hg0 : Grow W0 w' := ⟨h3.os.trans hgw.os, h3.tape.trans hgw.tape, h3.output.trans hgw.output, Nat.le_trans hgw.size h3.size, fun k hk => by
    rw [h3.block k (Nat.lt_of_lt_of_le hk hgw.size) (fun e => by have := hrow k e.symm; omega), hgw.block k hk]⟩
  obtain ⟨x', rfl⟩ := ext_of_grow hg0
  have hOwn : Own (fun _ => False) base e (ext W0 x') v' (xs ++ [y]) := Own.snoc (ds := [[.int .i64 y]]) (Gy := fun _ => False) hG hl hRs (fun k hk => hk.elim) rfl (fun i h h' => match i, h with | 0, _ => ⟨rfl, hy⟩) hlen' (by show World.ownsRow _ base e 1 v' _ _; simpa using h2) h3 h4
  refine wpList_plain hgd fun _ hK => ?_
  unfold Oper.wp execOp
  simp only [ho, resolve, invoke, builtin, Sem.run_bind, Sem.run_pure, Result.andThen_ok, List.map_toArray, List.map_cons, List.map_nil, hs, hx, hr]
  exact hK _ _ (h v' x' hOwn ⟨h3.os.trans hgr.os, h3.tape.trans hgr.tape, h3.output.trans hgr.output, Nat.le_trans hgr.size h3.size, fun k hk hne => by
    rw [h3.block k (Nat.lt_of_lt_of_le hk hgr.size) hne, hgr.block k hk]⟩ h4)
theorem Own.kept {base : Nat} {e : TypeId} {w w' : World} {v : Value} {xs : List Int} {B : Nat} (h : Own (fun _ => False) base e w v xs) (hg : w.grownBy w' (some B)) (hB : B < base) : Own (fun _ => False) base e w' v xs :=
  h.keep (fun k hk hlt => hg.block k hlt (by intro e; injection e with e; subst e; rcases hk with hk | hk; exact hk; omega)) hg.size
theorem MapB.mono {w w' : World} {B n : Nat} {S : Int → Bool} (h : MapB w B n S) (g : Grow w w') : MapB w' B n S := h.kept g.grown (by simp)

def gr (p : Pr) (i c : Nat) : Bool := match p.funcs[i]? with | some f => callsTo f c | none => false
def unseen (S : Int → Bool) : Nat := (List.range 8).countP (fun c : Nat => !S (c : Int))
def resB : Result Value → Bool
  | .ok (.bool b) _ => b
  | _ => false
theorem unsW_eq {w : World} {B n : Nat} {S : Int → Bool} (h : MapB w B n S) : (List.range 8).countP (fun c : Nat => !resB ((Instr.lookup 89 (.map (some B)) (.int .i64 (c : Nat)) false).run Try.prog w)) = unseen S := by
  unfold unseen; apply List.countP_congr; intro c hc
  have hc := List.mem_range.1 hc
  rw [h.look ⟨by omega, by omega⟩]; rfl
def lenOf : Value → Nat
  | .slice _ n _ => n
  | _ => 0
theorem unseen_put {S : Int → Bool} {c : Nat} (hc : c < 8) (h : S (c : Int) = false) : unseen (fun x => if x = (c : Int) then true else S x) < unseen S := by
  unfold unseen
  refine countP_lt (fun x _ hx => ?_) (a := c) (List.mem_range.2 hc) (by simp) (by simp [h])
  by_cases e : (x : Int) = (c : Int)
  · simp [e] at hx
  · simpa [e] using hx
theorem callsL_mem {f : Fn} {x : Int} (h : x ∈ callsL f) : ∃ c : Nat, x = c ∧ c < 8 ∧ callsTo f c = true := by
  unfold callsL at h
  obtain ⟨c, hc, rfl⟩ := List.mem_map.1 h
  have := List.mem_filter.1 hc
  exact ⟨c, rfl, List.mem_range.1 this.1, this.2⟩
theorem callsL_of {f : Fn} {c : Nat} (hc : c < 8) (h : callsTo f c = true) : (c : Int) ∈ callsL f :=
  List.mem_map.2 ⟨c, List.mem_filter.2 ⟨List.mem_range.2 hc, h⟩, rfl⟩
theorem pr_ok {p : Pr} (h : prErr p = 0) : 1 ≤ p.funcs.length ∧ p.funcs.length ≤ 8 ∧ (∀ f ∈ p.funcs, fnErr f = 0) ∧ inputsB (p.funcs.getD 0 fnz) = true ∧ callsB p = true := by
  unfold prErr at h
  by_cases h8 : 8 < p.funcs.length
  · rw [if_pos h8] at h; cases h
  · rw [if_neg h8] at h
    by_cases h0 : p.funcs.length = 0
    · rw [if_pos h0] at h; cases h
    · rw [if_neg h0] at h
      by_cases hf : fnsErr p.funcs = 0
      · rw [if_neg (by simpa using hf)] at h
        by_cases hc : (inputsB (p.funcs.getD 0 fnz) && callsB p) = true
        · simp only [Bool.and_eq_true] at hc; exact ⟨by omega, by omega, fnsErr_all hf, hc.1, hc.2⟩
        · rw [if_neg hc] at h; cases h
      · rw [if_pos hf] at h; exact absurd h hf
theorem calls_lt {p : Pr} (h : prErr p = 0) {f : Fn} (hf : f ∈ p.funcs) {c : Nat} (hc : callsTo f c = true) : c < p.funcs.length := by
  have hb := (pr_ok h).2.2.2.2
  unfold callsB at hb
  unfold callsTo at hc
  obtain ⟨b, hbm, hb2⟩ := List.any_eq_true.1 hc
  have := List.all_eq_true.1 (List.all_eq_true.1 hb f hf) b hbm
  simp only [Bool.and_eq_true, decide_eq_true_eq] at hb2
  unfold callB at this
  simp only [hb2.1, decide_true, Bool.not_true, Bool.false_or, Bool.and_eq_true, decide_eq_true_eq] at this
  omega
theorem gr_lt {p : Pr} (h : prErr p = 0) (i c : Nat) (hg : gr p i c = true) : i < p.funcs.length ∧ c < p.funcs.length := by
  unfold gr at hg
  cases e : p.funcs[i]? with
  | none => rw [e] at hg; cases hg
  | some f => rw [e] at hg; exact ⟨(List.getElem?_eq_some_iff.1 e).1, calls_lt h (List.mem_of_getElem? e) hg⟩
end Go.Proofs.Ytiikhfjdpaofdaa
