/- Layer 45: the reference's places as text. -/
import Derived.Test.YtjllaogechckoaaDoorW45p
import Derived.Test.YtjllaogechckoaaDoorL13
import Derived.Laws.BytesArg
namespace Go.Proofs.YtjllaogechckoaaDoor
open Go.RowKit
set_option linter.unusedSimpArgs false
set_option linter.unusedVariables false

/-- One byte that was just laid, as a text. -/
theorem conv_one {W : World} {b : Nat} {n : Int} {e : TypeId} [h : EqW b W] : (convert 68 9 (.slice (some ⟨b, 0, none⟩) 1 1)).run Tryd.prog (W.alloc (.cells #[.int .u8 n] e)) = .ok (.string (str [UInt8.ofNat n.toNat])) (W.alloc (.cells #[.int .u8 n] e)) := by
  rw [run_convert_bytes_arg _ 68 5 Tryd.underlying68 Tryd.underlying5 b 0 1 1 [n] rfl (fun i hi => by
    obtain rfl : i = 0 := by omega
    have := hp_at (W := W) (o := .cells #[.int .u8 n] e) (b := b)
    simp only [World.cell?, this, Nat.zero_add]; rfl) 9 Tryd.underlying9]
  rfl
attribute [go_sem] conv_one
set_option maxRecDepth 100000 in
set_option maxHeartbeats 2000000 in
theorem ref03_Local (n : Int) (h0 : 0 ≤ n) (h1 : n < 16) (w : World) : Calls Tryd.prog 54 #[.int .i64 n] w (Ret w (.string (str (120 :: Lib.itoa n)))) := by
  have h : n = 0 ∨ n = 1 ∨ n = 2 ∨ n = 3 ∨ n = 4 ∨ n = 5 ∨ n = 6 ∨ n = 7 ∨ n = 8 ∨ n = 9 ∨ n = 10 ∨ n = 11 ∨ n = 12 ∨ n = 13 ∨ n = 14 ∨ n = 15 := by omega
  clear h0 h1
  obtain ⟨t, Ht⟩ : ∃ t, Hid (str (120 :: Lib.itoa n) = t) := ⟨_, Lib.hid rfl⟩
  rw [Ht.out]
  rcases h with rfl | rfl | rfl | rfl | rfl | rfl | rfl | rfl | rfl | rfl | rfl | rfl | rfl | rfl | rfl | rfl
  all_goals
    go_enter Tryd.func54, Tryd.ntmps54
    go_wp2
    go_ret
    exact Ret.mk (by rw [← Ht.out]; kernel_rfl) (by (repeat (first | (with_reducible exact Grow.refl _) | assumption | refine Grow.ext ?_ _ | refine Grow.alloc ?_ _ | refine Grow.drew ?_ | refine Grow.setCell ?_ (by first | (simp; done) | (simp; omega)) _ | refine Grow.trans ?_ (by assumption))))
set_option maxRecDepth 100000 in
set_option maxHeartbeats 2000000 in
theorem ref03_Written (p : Pl) (hp : plOk p = true) (w : World) : Calls Tryd.prog 42 #[p.v] w (Ret w (.string (str (plText p)))) := by
  unfold plOk at hp
  have hr := of_decide_eq_true hp
  clear hp
  obtain ⟨l, d, f⟩ := p
  dsimp only at hr
  obtain ⟨h1, h2, h3, h4⟩ := hr
  have hf : f = 0 ∨ f = 1 ∨ f = 2 := by omega
  have hl : (Lib.itoa l).length ≤ 10 := by
    rw [itoa_pos h1]
    have := dec_len (k := l.toNat) (by omega)
    omega
  clear h3 h4
  rcases hf with rfl | rfl | rfl
  all_goals cases d
  all_goals
    go_enter Tryd.func42, Tryd.ntmps42
    go_wp2_with (first | (go_at_call 54; ((with_reducible refine (ref03_Local l h1 h2 _).mono ?_); rintro e w1 ⟨rfl, hb1⟩; obtain ⟨x1, rfl⟩ := ext_of_grow hb1; clear hb1)))
    go_ret
    exact Ret.mk (by simp [plText, ByteArray.ext_iff, show Lib.itoa 1 = [49] by kernel_rfl, show Lib.itoa 2 = [50] by kernel_rfl]) (by (repeat (first | (with_reducible exact Grow.refl _) | assumption | refine Grow.ext ?_ _ | refine Grow.alloc ?_ _ | refine Grow.drew ?_ | refine Grow.setCell ?_ (by first | (simp; done) | (simp; omega)) _ | refine Grow.trans ?_ (by assumption))))
end Go.Proofs.YtjllaogechckoaaDoor
