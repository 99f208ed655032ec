/- Layer 45: the law LinesNames: all words, texts of each kind, texts that are none. Printed by gen45n.py. -/
import Derived.Test.YtjllaogechckoaaDoorW45n
import Derived.Deep.DeepCutAuto
import Derived.Deep.CutBlock
namespace Go.Proofs.YtjllaogechckoaaDoor
open Go.RowKit
set_option linter.unusedSimpArgs false
set_option linter.unusedVariables false

/-- "form 12" -/
abbrev v_rd0 : Ve := ⟨1, 12, 0, 0, 0, ⟨0, false, 0⟩, false, false, 0, 0, [], []⟩
abbrev t_rd0 : Bs := [102, 111, 114, 109, 32, 49, 50]
theorem B_rd0 : readsB v_rd0 t_rd0 = true := by decide +kernel
theorem ok_rd0 : v_rd0.ok := ⟨by unfold U8; dsimp only; omega, by unfold I64; dsimp only; omega, by unfold I64; dsimp only; omega, by unfold I64; dsimp only; omega, by unfold I64; dsimp only; omega, ⟨by unfold I64; dsimp only; omega, by unfold U8; dsimp only; omega⟩, by unfold U8; dsimp only; omega, by unfold I64; dsimp only; omega, (by intro n h; simp only [List.mem_cons, List.not_mem_nil, or_false] at h <;> (try (rcases h with rfl | rfl | rfl)) <;> first | exact absurd h (by simp) | (unfold I64; omega)), (by intro n h; simp only [List.mem_cons, List.not_mem_nil, or_false] at h <;> first | exact absurd h (by simp) | (subst h; unfold I64; omega))⟩
theorem rd_rd0 (pv rv : Value) (w : World) {F F' : Nat → Prop} (hp : Sl F w pv v_rd0.prints) (hr : Sl F' w rv v_rd0.result) (hw : Laid w) : Calls Tryd.prog 19 #[v_rd0.v pv rv, .string (str t_rd0)] w (Ret w (.bool true)) := by
  have h := law45_reads v_rd0 pv rv t_rd0 w ok_rd0 hp hr (by decide) (by decide) (by decide) hw
  rw [B_rd0] at h; exact h
/-- "type 99" -/
abbrev v_rd1 : Ve := ⟨2, 99, 0, 0, 0, ⟨0, false, 0⟩, false, false, 0, 0, [], []⟩
abbrev t_rd1 : Bs := [116, 121, 112, 101, 32, 57, 57]
theorem B_rd1 : readsB v_rd1 t_rd1 = true := by decide +kernel
theorem ok_rd1 : v_rd1.ok := ⟨by unfold U8; dsimp only; omega, by unfold I64; dsimp only; omega, by unfold I64; dsimp only; omega, by unfold I64; dsimp only; omega, by unfold I64; dsimp only; omega, ⟨by unfold I64; dsimp only; omega, by unfold U8; dsimp only; omega⟩, by unfold U8; dsimp only; omega, by unfold I64; dsimp only; omega, (by intro n h; simp only [List.mem_cons, List.not_mem_nil, or_false] at h <;> (try (rcases h with rfl | rfl | rfl)) <;> first | exact absurd h (by simp) | (unfold I64; omega)), (by intro n h; simp only [List.mem_cons, List.not_mem_nil, or_false] at h <;> first | exact absurd h (by simp) | (subst h; unfold I64; omega))⟩
theorem rd_rd1 (pv rv : Value) (w : World) {F F' : Nat → Prop} (hp : Sl F w pv v_rd1.prints) (hr : Sl F' w rv v_rd1.result) (hw : Laid w) : Calls Tryd.prog 19 #[v_rd1.v pv rv, .string (str t_rd1)] w (Ret w (.bool true)) := by
  have h := law45_reads v_rd1 pv rv t_rd1 w ok_rd1 hp hr (by decide) (by decide) (by decide) hw
  rw [B_rd1] at h; exact h
/-- "inputs" -/
abbrev v_rd2 : Ve := ⟨4, 2, 0, 0, 0, ⟨0, false, 0⟩, false, false, 0, 0, [], []⟩
abbrev t_rd2 : Bs := [105, 110, 112, 117, 116, 115]
theorem B_rd2 : readsB v_rd2 t_rd2 = true := by decide +kernel
theorem ok_rd2 : v_rd2.ok := ⟨by unfold U8; dsimp only; omega, by unfold I64; dsimp only; omega, by unfold I64; dsimp only; omega, by unfold I64; dsimp only; omega, by unfold I64; dsimp only; omega, ⟨by unfold I64; dsimp only; omega, by unfold U8; dsimp only; omega⟩, by unfold U8; dsimp only; omega, by unfold I64; dsimp only; omega, (by intro n h; simp only [List.mem_cons, List.not_mem_nil, or_false] at h <;> (try (rcases h with rfl | rfl | rfl)) <;> first | exact absurd h (by simp) | (unfold I64; omega)), (by intro n h; simp only [List.mem_cons, List.not_mem_nil, or_false] at h <;> first | exact absurd h (by simp) | (subst h; unfold I64; omega))⟩
theorem rd_rd2 (pv rv : Value) (w : World) {F F' : Nat → Prop} (hp : Sl F w pv v_rd2.prints) (hr : Sl F' w rv v_rd2.result) (hw : Laid w) : Calls Tryd.prog 19 #[v_rd2.v pv rv, .string (str t_rd2)] w (Ret w (.bool true)) := by
  have h := law45_reads v_rd2 pv rv t_rd2 w ok_rd2 hp hr (by decide) (by decide) (by decide) hw
  rw [B_rd2] at h; exact h
/-- "borrow f7 at 1 loan 12 write shallow *x15.2" -/
abbrev v_rd3 : Ve := ⟨3, 48, 7, 1, 12, ⟨15, true, 2⟩, true, false, 0, 0, [], []⟩
abbrev t_rd3 : Bs := [98, 111, 114, 114, 111, 119, 32, 102, 55, 32, 97, 116, 32, 49, 32, 108, 111, 97, 110, 32, 49, 50, 32, 119, 114, 105, 116, 101, 32, 115, 104, 97, 108, 108, 111, 119, 32, 42, 120, 49, 53, 46, 50]
theorem B_rd3 : readsB v_rd3 t_rd3 = true := by decide +kernel
theorem ok_rd3 : v_rd3.ok := ⟨by unfold U8; dsimp only; omega, by unfold I64; dsimp only; omega, by unfold I64; dsimp only; omega, by unfold I64; dsimp only; omega, by unfold I64; dsimp only; omega, ⟨by unfold I64; dsimp only; omega, by unfold U8; dsimp only; omega⟩, by unfold U8; dsimp only; omega, by unfold I64; dsimp only; omega, (by intro n h; simp only [List.mem_cons, List.not_mem_nil, or_false] at h <;> (try (rcases h with rfl | rfl | rfl)) <;> first | exact absurd h (by simp) | (unfold I64; omega)), (by intro n h; simp only [List.mem_cons, List.not_mem_nil, or_false] at h <;> first | exact absurd h (by simp) | (subst h; unfold I64; omega))⟩
theorem rd_rd3 (pv rv : Value) (w : World) {F F' : Nat → Prop} (hp : Sl F w pv v_rd3.prints) (hr : Sl F' w rv v_rd3.result) (hw : Laid w) : Calls Tryd.prog 19 #[v_rd3.v pv rv, .string (str t_rd3)] w (Ret w (.bool true)) := by
  have h := law45_reads v_rd3 pv rv t_rd3 w ok_rd3 hp hr (by decide) (by decide) (by decide) hw
  rw [B_rd3] at h; exact h
/-- "ran fuel 0 prints result" -/
abbrev v_rd4 : Ve := ⟨5, 0, 0, 0, 0, ⟨0, false, 0⟩, false, false, 2, 0, [], []⟩
abbrev t_rd4 : Bs := [114, 97, 110, 32, 102, 117, 101, 108, 32, 48, 32, 112, 114, 105, 110, 116, 115, 32, 114, 101, 115, 117, 108, 116]
theorem B_rd4 : readsB v_rd4 t_rd4 = true := by decide +kernel
theorem ok_rd4 : v_rd4.ok := ⟨by unfold U8; dsimp only; omega, by unfold I64; dsimp only; omega, by unfold I64; dsimp only; omega, by unfold I64; dsimp only; omega, by unfold I64; dsimp only; omega, ⟨by unfold I64; dsimp only; omega, by unfold U8; dsimp only; omega⟩, by unfold U8; dsimp only; omega, by unfold I64; dsimp only; omega, (by intro n h; simp only [List.mem_cons, List.not_mem_nil, or_false] at h <;> (try (rcases h with rfl | rfl | rfl)) <;> first | exact absurd h (by simp) | (unfold I64; omega)), (by intro n h; simp only [List.mem_cons, List.not_mem_nil, or_false] at h <;> first | exact absurd h (by simp) | (subst h; unfold I64; omega))⟩
theorem rd_rd4 (pv rv : Value) (w : World) {F F' : Nat → Prop} (hp : Sl F w pv v_rd4.prints) (hr : Sl F' w rv v_rd4.result) (hw : Laid w) : Calls Tryd.prog 19 #[v_rd4.v pv rv, .string (str t_rd4)] w (Ret w (.bool true)) := by
  have h := law45_reads v_rd4 pv rv t_rd4 w ok_rd4 hp hr (by decide) (by decide) (by decide) hw
  rw [B_rd4] at h; exact h
/-- "ran finished 500 prints -9223372036854775808 0 9223372036854775807 result -1" -/
abbrev v_rd5 : Ve := ⟨5, 0, 0, 0, 0, ⟨0, false, 0⟩, false, false, 1, 500, [-9223372036854775808, 0, 9223372036854775807], [-1]⟩
abbrev t_rd5 : Bs := [114, 97, 110, 32, 102, 105, 110, 105, 115, 104, 101, 100, 32, 53, 48, 48, 32, 112, 114, 105, 110, 116, 115, 32, 45, 57, 50, 50, 51, 51, 55, 50, 48, 51, 54, 56, 53, 52, 55, 55, 53, 56, 48, 56, 32, 48, 32, 57, 50, 50, 51, 51, 55, 50, 48, 51, 54, 56, 53, 52, 55, 55, 53, 56, 48, 55, 32, 114, 101, 115, 117, 108, 116, 32, 45, 49]
theorem B_rd5 : readsB v_rd5 t_rd5 = true := by decide +kernel
theorem ok_rd5 : v_rd5.ok := ⟨by unfold U8; dsimp only; omega, by unfold I64; dsimp only; omega, by unfold I64; dsimp only; omega, by unfold I64; dsimp only; omega, by unfold I64; dsimp only; omega, ⟨by unfold I64; dsimp only; omega, by unfold U8; dsimp only; omega⟩, by unfold U8; dsimp only; omega, by unfold I64; dsimp only; omega, (by intro n h; simp only [List.mem_cons, List.not_mem_nil, or_false] at h <;> (try (rcases h with rfl | rfl | rfl)) <;> first | exact absurd h (by simp) | (unfold I64; omega)), (by intro n h; simp only [List.mem_cons, List.not_mem_nil, or_false] at h <;> first | exact absurd h (by simp) | (subst h; unfold I64; omega))⟩
theorem rd_rd5 (pv rv : Value) (w : World) {F F' : Nat → Prop} (hp : Sl F w pv v_rd5.prints) (hr : Sl F' w rv v_rd5.result) (hw : Laid w) : Calls Tryd.prog 19 #[v_rd5.v pv rv, .string (str t_rd5)] w (Ret w (.bool true)) := by
  have h := law45_reads v_rd5 pv rv t_rd5 w ok_rd5 hp hr (by decide) (by decide) (by decide) hw
  rw [B_rd5] at h; exact h
abbrev u0 : Bs := []
abbrev u1 : Bs := [102, 111, 114, 109]
abbrev u2 : Bs := [102, 111, 114, 109, 32, 48]
abbrev u3 : Bs := [102, 111, 114, 109, 32, 48, 49, 50]
abbrev u4 : Bs := [102, 111, 114, 109, 32, 49, 48, 48]
abbrev u5 : Bs := [102, 111, 114, 109, 32, 49, 50, 32]
abbrev u6 : Bs := [32, 102, 111, 114, 109, 32, 49, 50]
abbrev u7 : Bs := [116, 121, 112, 101, 32, 45, 49]
abbrev u8 : Bs := [105, 110, 112, 117, 116, 115, 32, 50]
abbrev u9 : Bs := [73, 110, 112, 117, 116, 115]
abbrev u10 : Bs := [98, 111, 114, 114, 111, 119, 32, 102, 48, 32, 97, 116, 32, 49, 32, 108, 111, 97, 110, 32, 48, 32, 114, 101, 97, 100, 32, 100, 101, 101, 112]
abbrev u11 : Bs := [98, 111, 114, 114, 111, 119, 32, 102, 56, 32, 97, 116, 32, 49, 32, 108, 111, 97, 110, 32, 48, 32, 114, 101, 97, 100, 32, 100, 101, 101, 112, 32, 120, 49]
abbrev u12 : Bs := [98, 111, 114, 114, 111, 119, 32, 102, 48, 32, 97, 116, 32, 49, 32, 108, 111, 97, 110, 32, 48, 32, 108, 111, 111, 107, 32, 100, 101, 101, 112, 32, 120, 49]
abbrev u13 : Bs := [98, 111, 114, 114, 111, 119, 32, 102, 48, 32, 97, 116, 32, 49, 32, 108, 111, 97, 110, 32, 48, 32, 114, 101, 97, 100, 32, 100, 101, 101, 112, 32, 120, 49, 54]
abbrev u14 : Bs := [98, 111, 114, 114, 111, 119, 32, 48, 32, 97, 116, 32, 49, 32, 108, 111, 97, 110, 32, 48, 32, 114, 101, 97, 100, 32, 100, 101, 101, 112, 32, 120, 49]
abbrev u15 : Bs := [98, 111, 114, 114, 111, 119, 32, 102, 48, 32, 97, 116, 32, 45, 49, 32, 108, 111, 97, 110, 32, 48, 32, 114, 101, 97, 100, 32, 100, 101, 101, 112, 32, 120, 49]
abbrev u16 : Bs := [114, 97, 110]
abbrev u17 : Bs := [114, 97, 110, 32, 102, 105, 110, 105, 115, 104, 101, 100, 32, 53, 32, 112, 114, 105, 110, 116, 115, 32, 56, 32, 114, 101, 115, 117, 108, 116]
abbrev u18 : Bs := [114, 97, 110, 32, 102, 105, 110, 105, 115, 104, 101, 100, 32, 53, 32, 112, 114, 105, 110, 116, 115, 32, 56, 32, 114, 101, 115, 117, 108, 116, 32, 49, 32, 50, 32, 51]
abbrev u19 : Bs := [114, 97, 110, 32, 102, 117, 101, 108, 32, 53, 32, 112, 114, 105, 110, 116, 115, 32, 56, 32, 114, 101, 115, 117, 108, 116, 32, 49]
abbrev u20 : Bs := [114, 97, 110, 32, 102, 117, 101, 108, 32, 53, 48, 49, 32, 112, 114, 105, 110, 116, 115, 32, 114, 101, 115, 117, 108, 116]
abbrev u21 : Bs := [114, 97, 110, 32, 102, 117, 101, 108, 32, 53, 32, 112, 114, 105, 110, 116, 115, 32, 56]
abbrev u22 : Bs := [114, 97, 110, 32, 102, 117, 101, 108, 32, 53, 32, 114, 101, 115, 117, 108, 116]
abbrev u23 : Bs := [114, 97, 110, 32, 102, 117, 101, 108, 32, 53, 32, 112, 114, 105, 110, 116, 115, 32, 57, 50, 50, 51, 51, 55, 50, 48, 51, 54, 56, 53, 52, 55, 55, 53, 56, 48, 56, 32, 114, 101, 115, 117, 108, 116]
abbrev u24 : Bs := [114, 97, 110, 32, 102, 117, 101, 108, 32, 53, 32, 112, 114, 105, 110, 116, 115, 32, 43, 49, 32, 114, 101, 115, 117, 108, 116]
abbrev u25 : Bs := [114, 97, 110, 32, 102, 117, 101, 108, 32, 53, 32, 112, 114, 105, 110, 116, 115, 32, 32, 49, 32, 114, 101, 115, 117, 108, 116]
abbrev u26 : Bs := [114, 97, 110, 32, 110, 111, 110, 101, 32, 53, 32, 112, 114, 105, 110, 116, 115, 32, 114, 101, 115, 117, 108, 116]
abbrev u27 : Bs := [114, 97, 110, 32, 102, 117, 101, 108, 32, 53, 32, 112, 114, 105, 110, 116, 115, 32, 114, 101, 115, 117, 108, 116, 32, 114, 101, 115, 117, 108, 116]
abbrev u28 : Bs := [114, 97, 110, 32, 102, 105, 110, 105, 115, 104, 101, 100, 32, 53, 32, 112, 114, 105, 110, 116, 115, 32, 114, 101, 115, 117, 108, 116, 57, 49]
abbrev u29 : Bs := [114, 97, 110, 32, 102, 117, 101, 108, 32, 53, 32, 112, 114, 105, 110, 116, 115, 57, 49, 32, 114, 101, 115, 117, 108, 116]
abbrev u30 : Bs := [114, 97, 110, 32, 102, 117, 101, 108, 32, 53, 32, 112, 114, 105, 110, 116, 115, 32, 114, 101, 115, 117, 108, 116, 10]
theorem none_t (t : Bs) (h : noneB t = true) (hl : t.length ≤ 900000) (w : World) (hw : Laid w) : Calls Tryd.prog 20 #[.string (str t)] w (Ret w (.bool true)) := by
  have h2 := law45_none t w hl hw
  rw [h] at h2; exact h2
theorem no0 (w : World) (hw : Laid w) : Calls Tryd.prog 20 #[.string (str u0)] w (Ret w (.bool true)) := none_t u0 (by decide +kernel) (by decide) w hw
theorem no1 (w : World) (hw : Laid w) : Calls Tryd.prog 20 #[.string (str u1)] w (Ret w (.bool true)) := none_t u1 (by decide +kernel) (by decide) w hw
theorem no2 (w : World) (hw : Laid w) : Calls Tryd.prog 20 #[.string (str u2)] w (Ret w (.bool true)) := none_t u2 (by decide +kernel) (by decide) w hw
theorem no3 (w : World) (hw : Laid w) : Calls Tryd.prog 20 #[.string (str u3)] w (Ret w (.bool true)) := none_t u3 (by decide +kernel) (by decide) w hw
theorem no4 (w : World) (hw : Laid w) : Calls Tryd.prog 20 #[.string (str u4)] w (Ret w (.bool true)) := none_t u4 (by decide +kernel) (by decide) w hw
theorem no5 (w : World) (hw : Laid w) : Calls Tryd.prog 20 #[.string (str u5)] w (Ret w (.bool true)) := none_t u5 (by decide +kernel) (by decide) w hw
theorem no6 (w : World) (hw : Laid w) : Calls Tryd.prog 20 #[.string (str u6)] w (Ret w (.bool true)) := none_t u6 (by decide +kernel) (by decide) w hw
theorem no7 (w : World) (hw : Laid w) : Calls Tryd.prog 20 #[.string (str u7)] w (Ret w (.bool true)) := none_t u7 (by decide +kernel) (by decide) w hw
theorem no8 (w : World) (hw : Laid w) : Calls Tryd.prog 20 #[.string (str u8)] w (Ret w (.bool true)) := none_t u8 (by decide +kernel) (by decide) w hw
theorem no9 (w : World) (hw : Laid w) : Calls Tryd.prog 20 #[.string (str u9)] w (Ret w (.bool true)) := none_t u9 (by decide +kernel) (by decide) w hw
theorem no10 (w : World) (hw : Laid w) : Calls Tryd.prog 20 #[.string (str u10)] w (Ret w (.bool true)) := none_t u10 (by decide +kernel) (by decide) w hw
theorem no11 (w : World) (hw : Laid w) : Calls Tryd.prog 20 #[.string (str u11)] w (Ret w (.bool true)) := none_t u11 (by decide +kernel) (by decide) w hw
theorem no12 (w : World) (hw : Laid w) : Calls Tryd.prog 20 #[.string (str u12)] w (Ret w (.bool true)) := none_t u12 (by decide +kernel) (by decide) w hw
theorem no13 (w : World) (hw : Laid w) : Calls Tryd.prog 20 #[.string (str u13)] w (Ret w (.bool true)) := none_t u13 (by decide +kernel) (by decide) w hw
theorem no14 (w : World) (hw : Laid w) : Calls Tryd.prog 20 #[.string (str u14)] w (Ret w (.bool true)) := none_t u14 (by decide +kernel) (by decide) w hw
theorem no15 (w : World) (hw : Laid w) : Calls Tryd.prog 20 #[.string (str u15)] w (Ret w (.bool true)) := none_t u15 (by decide +kernel) (by decide) w hw
theorem no16 (w : World) (hw : Laid w) : Calls Tryd.prog 20 #[.string (str u16)] w (Ret w (.bool true)) := none_t u16 (by decide +kernel) (by decide) w hw
theorem no17 (w : World) (hw : Laid w) : Calls Tryd.prog 20 #[.string (str u17)] w (Ret w (.bool true)) := none_t u17 (by decide +kernel) (by decide) w hw
theorem no18 (w : World) (hw : Laid w) : Calls Tryd.prog 20 #[.string (str u18)] w (Ret w (.bool true)) := none_t u18 (by decide +kernel) (by decide) w hw
theorem no19 (w : World) (hw : Laid w) : Calls Tryd.prog 20 #[.string (str u19)] w (Ret w (.bool true)) := none_t u19 (by decide +kernel) (by decide) w hw
theorem no20 (w : World) (hw : Laid w) : Calls Tryd.prog 20 #[.string (str u20)] w (Ret w (.bool true)) := none_t u20 (by decide +kernel) (by decide) w hw
theorem no21 (w : World) (hw : Laid w) : Calls Tryd.prog 20 #[.string (str u21)] w (Ret w (.bool true)) := none_t u21 (by decide +kernel) (by decide) w hw
theorem no22 (w : World) (hw : Laid w) : Calls Tryd.prog 20 #[.string (str u22)] w (Ret w (.bool true)) := none_t u22 (by decide +kernel) (by decide) w hw
theorem no23 (w : World) (hw : Laid w) : Calls Tryd.prog 20 #[.string (str u23)] w (Ret w (.bool true)) := none_t u23 (by decide +kernel) (by decide) w hw
theorem no24 (w : World) (hw : Laid w) : Calls Tryd.prog 20 #[.string (str u24)] w (Ret w (.bool true)) := none_t u24 (by decide +kernel) (by decide) w hw
theorem no25 (w : World) (hw : Laid w) : Calls Tryd.prog 20 #[.string (str u25)] w (Ret w (.bool true)) := none_t u25 (by decide +kernel) (by decide) w hw
theorem no26 (w : World) (hw : Laid w) : Calls Tryd.prog 20 #[.string (str u26)] w (Ret w (.bool true)) := none_t u26 (by decide +kernel) (by decide) w hw
theorem no27 (w : World) (hw : Laid w) : Calls Tryd.prog 20 #[.string (str u27)] w (Ret w (.bool true)) := none_t u27 (by decide +kernel) (by decide) w hw
theorem no28 (w : World) (hw : Laid w) : Calls Tryd.prog 20 #[.string (str u28)] w (Ret w (.bool true)) := none_t u28 (by decide +kernel) (by decide) w hw
theorem no29 (w : World) (hw : Laid w) : Calls Tryd.prog 20 #[.string (str u29)] w (Ret w (.bool true)) := none_t u29 (by decide +kernel) (by decide) w hw
theorem no30 (w : World) (hw : Laid w) : Calls Tryd.prog 20 #[.string (str u30)] w (Ret w (.bool true)) := none_t u30 (by decide +kernel) (by decide) w hw
theorem of_none {s : Bs} (h : outOf s = none) (w : World) : Calls Tryd.prog 11 #[.string (str s)] w (Ret w (.tuple #[.int .u8 0, .int .i64 12])) := by
  have := lines_OutcomeOf s w
  have e : ofW s = 0 ∧ ofE s = 12 := by unfold ofW ofE; rw [h]; exact ⟨rfl, rfl⟩
  rw [e.1, e.2] at this; exact this
theorem of_e (w : World) : Calls Tryd.prog 11 #[.string (str [])] w (Ret w (.tuple #[.int .u8 0, .int .i64 12])) := of_none (by decide +kernel) w
theorem of_Fuel (w : World) : Calls Tryd.prog 11 #[.string (str [70, 117, 101, 108])] w (Ret w (.tuple #[.int .u8 0, .int .i64 12])) := of_none (by decide +kernel) w
theorem tx_no (v : Ve) (h : veOk v = false) (hv : v.ok) (hp : v.prints = []) (hr : v.result = []) (w : World) (hw : Laid w) : Calls Tryd.prog 13 #[v.v (.slice none 0 0) (.slice none 0 0)] w (Ret w (.tuple #[.string (str []), .int .i64 8])) := by
  have h2 := lines_Text v (.slice none 0 0) (.slice none 0 0) w hv (by rw [hp]; exact Sl.nil (fun _ => True) w) (by rw [hr]; exact Sl.nil (fun _ => True) w) (by rw [hp]; decide) (by rw [hr]; decide) hw
  have e : txS v = [] := by unfold txS; rw [h]; rfl
  rw [h, e] at h2; exact h2
theorem tx_0 (w : World) (hw : Laid w) : Calls Tryd.prog 13 #[(vft 0 0).v (.slice none 0 0) (.slice none 0 0)] w (Ret w (.tuple #[.string (str []), .int .i64 8])) := tx_no (vft 0 0) (by decide +kernel) (vft_ok 0 0 (by unfold U8; omega) (by unfold I64; omega)) rfl rfl w hw
theorem tx_5 (w : World) (hw : Laid w) : Calls Tryd.prog 13 #[(vft 5 0).v (.slice none 0 0) (.slice none 0 0)] w (Ret w (.tuple #[.string (str []), .int .i64 8])) := tx_no (vft 5 0) (by decide +kernel) (vft_ok 5 0 (by unfold U8; omega) (by unfold I64; omega)) rfl rfl w hw
theorem out_bad (o : Int) (h : ¬ (1 ≤ o ∧ o ≤ 8)) (hu : U8 o) (w : World) : Calls Tryd.prog 9 #[.int .u8 o] w (Ret w (.tuple #[.string (str []), .int .i64 2])) := by
  have := lines_Outcome o hu w
  rw [(outS_no h).1, (outS_no h).2] at this; exact this
theorem out_good (j : Nat) (x : Bs) (hj : j < 8) (hx : words[j]? = some x) (w : World) : Calls Tryd.prog 9 #[.int .u8 ((j : Int) + 1)] w (Ret w (.tuple #[.string (str x), .int .i64 0])) := by
  have := lines_Outcome ((j : Int) + 1) ⟨by omega, by omega⟩ w
  rw [(outS_of hj hx).1, (outS_of hj hx).2] at this; exact this
theorem of_good (j : Nat) (x : Bs) (hj : j < 8) (hx : words[j]? = some x) (w : World) : Calls Tryd.prog 11 #[.string (str x)] w (Ret w (.tuple #[.int .u8 ((j : Int) + 1), .int .i64 0])) := by
  have := lines_OutcomeOf x w
  rw [(of_hit hj hx).1, (of_hit hj hx).2] at this; exact this
theorem sl_i3 {F : Nat → Prop} {w : World} {g : Nat} {e : TypeId} {a b c : Int} (hF : F g) (ha : I64 a) (hb : I64 b) (hc : I64 c) (hg : w.heap[g]? = some (.cells #[.int .i64 a, .int .i64 b, .int .i64 c] e)) : Sl F w (.slice (some ⟨g, 0, none⟩) 3 3) [a, b, c] := by
  refine ⟨_, 3, rfl, Nat.le_refl _, by omega, (fun h => by cases h), fun i hi => ⟨g, 0, rfl, hF, (Array.getElem?_eq_some_iff.1 hg).1, [.int .i64 ([a, b, c][i])], ?_, fun j hj => ?_⟩⟩
  · have hi' : i < 3 := hi
    match i, hi' with
    | 0, _ => exact ⟨rfl, ha⟩
    | 1, _ => exact ⟨rfl, hb⟩
    | 2, _ => exact ⟨rfl, hc⟩
  · obtain rfl : j = 0 := by simpa using hj
    simp only [World.cell?, hg, Nat.zero_add, sz_int, Nat.mul_one, Nat.add_zero]
    have hi' : i < 3 := hi
    match i, hi' with
    | 0, _ => rfl
    | 1, _ => rfl
    | 2, _ => rfl
set_option maxRecDepth 100000 in
set_option maxHeartbeats 8000000 in
theorem law_LinesNames (w : World) (hw : Laid w) : Calls Tryd.prog 4 #[] w (Ret w (.bool true)) := by
  go_enter Tryd.func4, Tryd.ntmps4
  go_wp2_with fail
  go_loopw [2] (fun iv wr => ∃ (k : Nat) (x : Ext), iv = .int .i64 k ∧ k ≤ 10 ∧ wr = ext (w.alloc (.cells wordsC.toArray 9)) x) (fun iv _ => 10 - (intOf iv).toNat)
  case atStart => exact ⟨0, _, rfl, by omega, (ext_self _).symm⟩
  case round =>
    obtain ⟨k, x, rfl, hk, rfl⟩ := hrel
    have hS : Sl (Frs w) (ext (w.alloc (.cells wordsC.toArray 9)) x) (.slice (some ⟨w.heap.size, 0, none⟩) 8 8) words := sl_words (e := 9) (Nat.le_refl _) (by simp only [hp_at, hp_ext, hp_alloc])
    by_cases h10 : k < 10
    · by_cases h0 : k = 0
      · subst h0
        have HO := Lib.hid (out_bad 0 (by omega) ⟨by omega, by omega⟩)
        go_wp2_with (first | (go_at_call 9; ((with_reducible refine (HO.out _).mono ?_); rintro e w1 ⟨rfl, hb1⟩; obtain ⟨x1, rfl⟩ := ext_of_grow hb1; clear hb1)))
        exact ⟨⟨1, _, by go_num, by omega, ext_ext _ _ _⟩, by simp [intOf]⟩
      · by_cases h9 : k = 9
        · subst h9
          have HO := Lib.hid (out_bad 9 (by omega) ⟨by omega, by omega⟩)
          go_wp2_with (first | (go_at_call 9; ((with_reducible refine (HO.out _).mono ?_); rintro e w1 ⟨rfl, hb1⟩; obtain ⟨x1, rfl⟩ := ext_of_grow hb1; clear hb1)))
          exact ⟨⟨10, _, by go_num, by omega, ext_ext _ _ _⟩, by simp [intOf]⟩
        · obtain ⟨j, rfl⟩ : ∃ j, k = j + 1 := ⟨k - 1, by omega⟩
          have hj : j < 8 := by omega
          obtain ⟨b, off, t, e, ⟨hx, hl, c0⟩⟩ := hS.bs j hj
          simp only [Option.some.injEq, Addr.mk.injEq, and_true] at e
          obtain ⟨rfl, rfl⟩ := e
          have HO := Lib.hid (out_good j t hj hx.out)
          have HF := Lib.hid (of_good j t hj hx.out)
          have hu : IntKind.u8.wrap ((j : Int) + 1) = (j : Int) + 1 := by rw [IntKind.wrap_u8]; omega
          have hsub : wrap64 ((j : Int) + 1 - 1) = (j : Int) := by unfold wrap64; omega
          have d1 : decide ((j : Int) + 1 < 1) = false := decide_eq_false (by omega)
          have d2 : decide ((j : Int) + 1 > 8) = false := decide_eq_false (by omega)
          have d3 : ((j : Int) + 1) < 10 := by omega
          have hxx : words[j]? = some t := hx.out
          clear hS hx
          go_wp2_with (first | (go_at_call 9; ((with_reducible refine (HO.out _).mono ?_); rintro e w1 ⟨rfl, hb1⟩; obtain ⟨x1, rfl⟩ := ext_of_grow hb1; clear hb1)) | (go_at_call 11; ((with_reducible refine (HF.out _).mono ?_); rintro e w2 ⟨rfl, hb2⟩; obtain ⟨x2, rfl⟩ := ext_of_grow hb2; clear hb2)))
          exact ⟨⟨j + 1 + 1, _, by go_num, by omega, by rw [ext_ext, ext_ext]⟩, by simp [intOf]; omega⟩
    · obtain rfl : 10 = k := by omega
      clear hS
      go_upto_region 18 with (first
        | (go_at_call 11; ((with_reducible refine (of_e _).mono ?_); rintro e w3 ⟨rfl, hb3⟩; obtain ⟨x3, rfl⟩ := ext_of_grow hb3; clear hb3))
        | (go_at_call 11; ((with_reducible refine (of_Fuel _).mono ?_); rintro e w4 ⟨rfl, hb4⟩; obtain ⟨x4, rfl⟩ := ext_of_grow hb4; clear hb4))
        | (go_at_call 13; ((with_reducible refine (tx_0 _ (hw.grow (by (repeat (first | (with_reducible exact Grow.refl _) | assumption | refine Grow.ext ?_ _ | refine Grow.alloc ?_ _ | refine Grow.drew ?_ | refine Grow.setCell ?_ (by first | (simp; done) | (simp; omega)) _ | refine Grow.trans ?_ (by assumption)))))).mono ?_); rintro e w5 ⟨rfl, hb5⟩; obtain ⟨x5, rfl⟩ := ext_of_grow hb5; clear hb5))
        | (go_at_call 13; ((with_reducible refine (tx_5 _ (hw.grow (by (repeat (first | (with_reducible exact Grow.refl _) | assumption | refine Grow.ext ?_ _ | refine Grow.alloc ?_ _ | refine Grow.drew ?_ | refine Grow.setCell ?_ (by first | (simp; done) | (simp; omega)) _ | refine Grow.trans ?_ (by assumption)))))).mono ?_); rintro e w6 ⟨rfl, hb6⟩; obtain ⟨x6, rfl⟩ := ext_of_grow hb6; clear hb6))
        | (go_at_call 18; ((with_reducible refine (law45_borrow _).mono ?_); rintro e w7 ⟨rfl, hb7⟩; obtain ⟨x7, rfl⟩ := ext_of_grow hb7; clear hb7)))
      go_upto_region 19 with (first
        | (go_at_call 19; ((with_reducible refine (rd_rd0 (.slice none 0 0) (.slice none 0 0) _ (Sl.nil (fun _ => True) _) (Sl.nil (fun _ => True) _) (hw.grow (by (repeat (first | (with_reducible exact Grow.refl _) | assumption | refine Grow.ext ?_ _ | refine Grow.alloc ?_ _ | refine Grow.drew ?_ | refine Grow.setCell ?_ (by first | (simp; done) | (simp; omega)) _ | refine Grow.trans ?_ (by assumption)))))).mono ?_); rintro e w10 ⟨rfl, hb10⟩; obtain ⟨x10, rfl⟩ := ext_of_grow hb10; clear hb10))
        | (go_at_call 19; ((with_reducible refine (rd_rd1 (.slice none 0 0) (.slice none 0 0) _ (Sl.nil (fun _ => True) _) (Sl.nil (fun _ => True) _) (hw.grow (by (repeat (first | (with_reducible exact Grow.refl _) | assumption | refine Grow.ext ?_ _ | refine Grow.alloc ?_ _ | refine Grow.drew ?_ | refine Grow.setCell ?_ (by first | (simp; done) | (simp; omega)) _ | refine Grow.trans ?_ (by assumption)))))).mono ?_); rintro e w11 ⟨rfl, hb11⟩; obtain ⟨x11, rfl⟩ := ext_of_grow hb11; clear hb11))
        | (go_at_call 19; ((with_reducible refine (rd_rd2 (.slice none 0 0) (.slice none 0 0) _ (Sl.nil (fun _ => True) _) (Sl.nil (fun _ => True) _) (hw.grow (by (repeat (first | (with_reducible exact Grow.refl _) | assumption | refine Grow.ext ?_ _ | refine Grow.alloc ?_ _ | refine Grow.drew ?_ | refine Grow.setCell ?_ (by first | (simp; done) | (simp; omega)) _ | refine Grow.trans ?_ (by assumption)))))).mono ?_); rintro e w12 ⟨rfl, hb12⟩; obtain ⟨x12, rfl⟩ := ext_of_grow hb12; clear hb12))
        | (go_at_call 19; ((with_reducible refine (rd_rd3 (.slice none 0 0) (.slice none 0 0) _ (Sl.nil (fun _ => True) _) (Sl.nil (fun _ => True) _) (hw.grow (by (repeat (first | (with_reducible exact Grow.refl _) | assumption | refine Grow.ext ?_ _ | refine Grow.alloc ?_ _ | refine Grow.drew ?_ | refine Grow.setCell ?_ (by first | (simp; done) | (simp; omega)) _ | refine Grow.trans ?_ (by assumption)))))).mono ?_); rintro e w13 ⟨rfl, hb13⟩; obtain ⟨x13, rfl⟩ := ext_of_grow hb13; clear hb13))
        | (go_at_call 19; ((with_reducible refine (rd_rd4 (.slice none 0 0) (.slice none 0 0) _ (Sl.nil (fun _ => True) _) (Sl.nil (fun _ => True) _) (hw.grow (by (repeat (first | (with_reducible exact Grow.refl _) | assumption | refine Grow.ext ?_ _ | refine Grow.alloc ?_ _ | refine Grow.drew ?_ | refine Grow.setCell ?_ (by first | (simp; done) | (simp; omega)) _ | refine Grow.trans ?_ (by assumption)))))).mono ?_); rintro e w14 ⟨rfl, hb14⟩; obtain ⟨x14, rfl⟩ := ext_of_grow hb14; clear hb14))
        | (go_at_call 19; ((with_reducible refine (rd_rd5 _ _ _ (sl_i3 (F := fun _ => True) (e := 2) trivial (by unfold I64; omega) (by unfold I64; omega) (by unfold I64; omega) (by first | (simp only [hp_at, hp_alloc, hp_ext, hp_drew]; done) | (simp only [hp_at, hp_alloc, hp_ext, hp_drew]; kernel_rfl))) (sl_i1 (F := fun _ => True) (e := 2) trivial (by unfold I64; omega) (by first | (simp only [hp_at, hp_alloc, hp_ext, hp_drew]; done) | (simp only [hp_at, hp_alloc, hp_ext, hp_drew]; kernel_rfl))) (hw.grow (by (repeat (first | (with_reducible exact Grow.refl _) | assumption | refine Grow.ext ?_ _ | refine Grow.alloc ?_ _ | refine Grow.drew ?_ | refine Grow.setCell ?_ (by first | (simp; done) | (simp; omega)) _ | refine Grow.trans ?_ (by assumption)))))).mono ?_); rintro e w15 ⟨rfl, hb15⟩; obtain ⟨x15, rfl⟩ := ext_of_grow hb15; clear hb15)))
      go_upto_region 20 with (first
        | (go_at_call 20; ((with_reducible refine (no0 _ (hw.grow (by (repeat (first | (with_reducible exact Grow.refl _) | assumption | refine Grow.ext ?_ _ | refine Grow.alloc ?_ _ | refine Grow.drew ?_ | refine Grow.setCell ?_ (by first | (simp; done) | (simp; omega)) _ | refine Grow.trans ?_ (by assumption)))))).mono ?_); rintro e w20 ⟨rfl, hb20⟩; obtain ⟨x20, rfl⟩ := ext_of_grow hb20; clear hb20))
        | (go_at_call 20; ((with_reducible refine (no1 _ (hw.grow (by (repeat (first | (with_reducible exact Grow.refl _) | assumption | refine Grow.ext ?_ _ | refine Grow.alloc ?_ _ | refine Grow.drew ?_ | refine Grow.setCell ?_ (by first | (simp; done) | (simp; omega)) _ | refine Grow.trans ?_ (by assumption)))))).mono ?_); rintro e w21 ⟨rfl, hb21⟩; obtain ⟨x21, rfl⟩ := ext_of_grow hb21; clear hb21))
        | (go_at_call 20; ((with_reducible refine (no2 _ (hw.grow (by (repeat (first | (with_reducible exact Grow.refl _) | assumption | refine Grow.ext ?_ _ | refine Grow.alloc ?_ _ | refine Grow.drew ?_ | refine Grow.setCell ?_ (by first | (simp; done) | (simp; omega)) _ | refine Grow.trans ?_ (by assumption)))))).mono ?_); rintro e w22 ⟨rfl, hb22⟩; obtain ⟨x22, rfl⟩ := ext_of_grow hb22; clear hb22))
        | (go_at_call 20; ((with_reducible refine (no3 _ (hw.grow (by (repeat (first | (with_reducible exact Grow.refl _) | assumption | refine Grow.ext ?_ _ | refine Grow.alloc ?_ _ | refine Grow.drew ?_ | refine Grow.setCell ?_ (by first | (simp; done) | (simp; omega)) _ | refine Grow.trans ?_ (by assumption)))))).mono ?_); rintro e w23 ⟨rfl, hb23⟩; obtain ⟨x23, rfl⟩ := ext_of_grow hb23; clear hb23))
        | (go_at_call 20; ((with_reducible refine (no4 _ (hw.grow (by (repeat (first | (with_reducible exact Grow.refl _) | assumption | refine Grow.ext ?_ _ | refine Grow.alloc ?_ _ | refine Grow.drew ?_ | refine Grow.setCell ?_ (by first | (simp; done) | (simp; omega)) _ | refine Grow.trans ?_ (by assumption)))))).mono ?_); rintro e w24 ⟨rfl, hb24⟩; obtain ⟨x24, rfl⟩ := ext_of_grow hb24; clear hb24))
        | (go_at_call 20; ((with_reducible refine (no5 _ (hw.grow (by (repeat (first | (with_reducible exact Grow.refl _) | assumption | refine Grow.ext ?_ _ | refine Grow.alloc ?_ _ | refine Grow.drew ?_ | refine Grow.setCell ?_ (by first | (simp; done) | (simp; omega)) _ | refine Grow.trans ?_ (by assumption)))))).mono ?_); rintro e w25 ⟨rfl, hb25⟩; obtain ⟨x25, rfl⟩ := ext_of_grow hb25; clear hb25))
        | (go_at_call 20; ((with_reducible refine (no6 _ (hw.grow (by (repeat (first | (with_reducible exact Grow.refl _) | assumption | refine Grow.ext ?_ _ | refine Grow.alloc ?_ _ | refine Grow.drew ?_ | refine Grow.setCell ?_ (by first | (simp; done) | (simp; omega)) _ | refine Grow.trans ?_ (by assumption)))))).mono ?_); rintro e w26 ⟨rfl, hb26⟩; obtain ⟨x26, rfl⟩ := ext_of_grow hb26; clear hb26))
        | (go_at_call 20; ((with_reducible refine (no7 _ (hw.grow (by (repeat (first | (with_reducible exact Grow.refl _) | assumption | refine Grow.ext ?_ _ | refine Grow.alloc ?_ _ | refine Grow.drew ?_ | refine Grow.setCell ?_ (by first | (simp; done) | (simp; omega)) _ | refine Grow.trans ?_ (by assumption)))))).mono ?_); rintro e w27 ⟨rfl, hb27⟩; obtain ⟨x27, rfl⟩ := ext_of_grow hb27; clear hb27))
        | (go_at_call 20; ((with_reducible refine (no8 _ (hw.grow (by (repeat (first | (with_reducible exact Grow.refl _) | assumption | refine Grow.ext ?_ _ | refine Grow.alloc ?_ _ | refine Grow.drew ?_ | refine Grow.setCell ?_ (by first | (simp; done) | (simp; omega)) _ | refine Grow.trans ?_ (by assumption)))))).mono ?_); rintro e w28 ⟨rfl, hb28⟩; obtain ⟨x28, rfl⟩ := ext_of_grow hb28; clear hb28))
        | (go_at_call 20; ((with_reducible refine (no9 _ (hw.grow (by (repeat (first | (with_reducible exact Grow.refl _) | assumption | refine Grow.ext ?_ _ | refine Grow.alloc ?_ _ | refine Grow.drew ?_ | refine Grow.setCell ?_ (by first | (simp; done) | (simp; omega)) _ | refine Grow.trans ?_ (by assumption)))))).mono ?_); rintro e w29 ⟨rfl, hb29⟩; obtain ⟨x29, rfl⟩ := ext_of_grow hb29; clear hb29))
        | (go_at_call 20; ((with_reducible refine (no10 _ (hw.grow (by (repeat (first | (with_reducible exact Grow.refl _) | assumption | refine Grow.ext ?_ _ | refine Grow.alloc ?_ _ | refine Grow.drew ?_ | refine Grow.setCell ?_ (by first | (simp; done) | (simp; omega)) _ | refine Grow.trans ?_ (by assumption)))))).mono ?_); rintro e w30 ⟨rfl, hb30⟩; obtain ⟨x30, rfl⟩ := ext_of_grow hb30; clear hb30))
        | (go_at_call 20; ((with_reducible refine (no11 _ (hw.grow (by (repeat (first | (with_reducible exact Grow.refl _) | assumption | refine Grow.ext ?_ _ | refine Grow.alloc ?_ _ | refine Grow.drew ?_ | refine Grow.setCell ?_ (by first | (simp; done) | (simp; omega)) _ | refine Grow.trans ?_ (by assumption)))))).mono ?_); rintro e w31 ⟨rfl, hb31⟩; obtain ⟨x31, rfl⟩ := ext_of_grow hb31; clear hb31))
        | (go_at_call 20; ((with_reducible refine (no12 _ (hw.grow (by (repeat (first | (with_reducible exact Grow.refl _) | assumption | refine Grow.ext ?_ _ | refine Grow.alloc ?_ _ | refine Grow.drew ?_ | refine Grow.setCell ?_ (by first | (simp; done) | (simp; omega)) _ | refine Grow.trans ?_ (by assumption)))))).mono ?_); rintro e w32 ⟨rfl, hb32⟩; obtain ⟨x32, rfl⟩ := ext_of_grow hb32; clear hb32))
        | (go_at_call 20; ((with_reducible refine (no13 _ (hw.grow (by (repeat (first | (with_reducible exact Grow.refl _) | assumption | refine Grow.ext ?_ _ | refine Grow.alloc ?_ _ | refine Grow.drew ?_ | refine Grow.setCell ?_ (by first | (simp; done) | (simp; omega)) _ | refine Grow.trans ?_ (by assumption)))))).mono ?_); rintro e w33 ⟨rfl, hb33⟩; obtain ⟨x33, rfl⟩ := ext_of_grow hb33; clear hb33))
        | (go_at_call 20; ((with_reducible refine (no14 _ (hw.grow (by (repeat (first | (with_reducible exact Grow.refl _) | assumption | refine Grow.ext ?_ _ | refine Grow.alloc ?_ _ | refine Grow.drew ?_ | refine Grow.setCell ?_ (by first | (simp; done) | (simp; omega)) _ | refine Grow.trans ?_ (by assumption)))))).mono ?_); rintro e w34 ⟨rfl, hb34⟩; obtain ⟨x34, rfl⟩ := ext_of_grow hb34; clear hb34))
        | (go_at_call 20; ((with_reducible refine (no15 _ (hw.grow (by (repeat (first | (with_reducible exact Grow.refl _) | assumption | refine Grow.ext ?_ _ | refine Grow.alloc ?_ _ | refine Grow.drew ?_ | refine Grow.setCell ?_ (by first | (simp; done) | (simp; omega)) _ | refine Grow.trans ?_ (by assumption)))))).mono ?_); rintro e w35 ⟨rfl, hb35⟩; obtain ⟨x35, rfl⟩ := ext_of_grow hb35; clear hb35))
        | (go_at_call 20; ((with_reducible refine (no16 _ (hw.grow (by (repeat (first | (with_reducible exact Grow.refl _) | assumption | refine Grow.ext ?_ _ | refine Grow.alloc ?_ _ | refine Grow.drew ?_ | refine Grow.setCell ?_ (by first | (simp; done) | (simp; omega)) _ | refine Grow.trans ?_ (by assumption)))))).mono ?_); rintro e w36 ⟨rfl, hb36⟩; obtain ⟨x36, rfl⟩ := ext_of_grow hb36; clear hb36))
        | (go_at_call 20; ((with_reducible refine (no17 _ (hw.grow (by (repeat (first | (with_reducible exact Grow.refl _) | assumption | refine Grow.ext ?_ _ | refine Grow.alloc ?_ _ | refine Grow.drew ?_ | refine Grow.setCell ?_ (by first | (simp; done) | (simp; omega)) _ | refine Grow.trans ?_ (by assumption)))))).mono ?_); rintro e w37 ⟨rfl, hb37⟩; obtain ⟨x37, rfl⟩ := ext_of_grow hb37; clear hb37))
        | (go_at_call 20; ((with_reducible refine (no18 _ (hw.grow (by (repeat (first | (with_reducible exact Grow.refl _) | assumption | refine Grow.ext ?_ _ | refine Grow.alloc ?_ _ | refine Grow.drew ?_ | refine Grow.setCell ?_ (by first | (simp; done) | (simp; omega)) _ | refine Grow.trans ?_ (by assumption)))))).mono ?_); rintro e w38 ⟨rfl, hb38⟩; obtain ⟨x38, rfl⟩ := ext_of_grow hb38; clear hb38))
        | (go_at_call 20; ((with_reducible refine (no19 _ (hw.grow (by (repeat (first | (with_reducible exact Grow.refl _) | assumption | refine Grow.ext ?_ _ | refine Grow.alloc ?_ _ | refine Grow.drew ?_ | refine Grow.setCell ?_ (by first | (simp; done) | (simp; omega)) _ | refine Grow.trans ?_ (by assumption)))))).mono ?_); rintro e w39 ⟨rfl, hb39⟩; obtain ⟨x39, rfl⟩ := ext_of_grow hb39; clear hb39))
        | (go_at_call 20; ((with_reducible refine (no20 _ (hw.grow (by (repeat (first | (with_reducible exact Grow.refl _) | assumption | refine Grow.ext ?_ _ | refine Grow.alloc ?_ _ | refine Grow.drew ?_ | refine Grow.setCell ?_ (by first | (simp; done) | (simp; omega)) _ | refine Grow.trans ?_ (by assumption)))))).mono ?_); rintro e w40 ⟨rfl, hb40⟩; obtain ⟨x40, rfl⟩ := ext_of_grow hb40; clear hb40))
        | (go_at_call 20; ((with_reducible refine (no21 _ (hw.grow (by (repeat (first | (with_reducible exact Grow.refl _) | assumption | refine Grow.ext ?_ _ | refine Grow.alloc ?_ _ | refine Grow.drew ?_ | refine Grow.setCell ?_ (by first | (simp; done) | (simp; omega)) _ | refine Grow.trans ?_ (by assumption)))))).mono ?_); rintro e w41 ⟨rfl, hb41⟩; obtain ⟨x41, rfl⟩ := ext_of_grow hb41; clear hb41))
        | (go_at_call 20; ((with_reducible refine (no22 _ (hw.grow (by (repeat (first | (with_reducible exact Grow.refl _) | assumption | refine Grow.ext ?_ _ | refine Grow.alloc ?_ _ | refine Grow.drew ?_ | refine Grow.setCell ?_ (by first | (simp; done) | (simp; omega)) _ | refine Grow.trans ?_ (by assumption)))))).mono ?_); rintro e w42 ⟨rfl, hb42⟩; obtain ⟨x42, rfl⟩ := ext_of_grow hb42; clear hb42))
        | (go_at_call 20; ((with_reducible refine (no23 _ (hw.grow (by (repeat (first | (with_reducible exact Grow.refl _) | assumption | refine Grow.ext ?_ _ | refine Grow.alloc ?_ _ | refine Grow.drew ?_ | refine Grow.setCell ?_ (by first | (simp; done) | (simp; omega)) _ | refine Grow.trans ?_ (by assumption)))))).mono ?_); rintro e w43 ⟨rfl, hb43⟩; obtain ⟨x43, rfl⟩ := ext_of_grow hb43; clear hb43))
        | (go_at_call 20; ((with_reducible refine (no24 _ (hw.grow (by (repeat (first | (with_reducible exact Grow.refl _) | assumption | refine Grow.ext ?_ _ | refine Grow.alloc ?_ _ | refine Grow.drew ?_ | refine Grow.setCell ?_ (by first | (simp; done) | (simp; omega)) _ | refine Grow.trans ?_ (by assumption)))))).mono ?_); rintro e w44 ⟨rfl, hb44⟩; obtain ⟨x44, rfl⟩ := ext_of_grow hb44; clear hb44))
        | (go_at_call 20; ((with_reducible refine (no25 _ (hw.grow (by (repeat (first | (with_reducible exact Grow.refl _) | assumption | refine Grow.ext ?_ _ | refine Grow.alloc ?_ _ | refine Grow.drew ?_ | refine Grow.setCell ?_ (by first | (simp; done) | (simp; omega)) _ | refine Grow.trans ?_ (by assumption)))))).mono ?_); rintro e w45 ⟨rfl, hb45⟩; obtain ⟨x45, rfl⟩ := ext_of_grow hb45; clear hb45))
        | (go_at_call 20; ((with_reducible refine (no26 _ (hw.grow (by (repeat (first | (with_reducible exact Grow.refl _) | assumption | refine Grow.ext ?_ _ | refine Grow.alloc ?_ _ | refine Grow.drew ?_ | refine Grow.setCell ?_ (by first | (simp; done) | (simp; omega)) _ | refine Grow.trans ?_ (by assumption)))))).mono ?_); rintro e w46 ⟨rfl, hb46⟩; obtain ⟨x46, rfl⟩ := ext_of_grow hb46; clear hb46))
        | (go_at_call 20; ((with_reducible refine (no27 _ (hw.grow (by (repeat (first | (with_reducible exact Grow.refl _) | assumption | refine Grow.ext ?_ _ | refine Grow.alloc ?_ _ | refine Grow.drew ?_ | refine Grow.setCell ?_ (by first | (simp; done) | (simp; omega)) _ | refine Grow.trans ?_ (by assumption)))))).mono ?_); rintro e w47 ⟨rfl, hb47⟩; obtain ⟨x47, rfl⟩ := ext_of_grow hb47; clear hb47))
        | (go_at_call 20; ((with_reducible refine (no28 _ (hw.grow (by (repeat (first | (with_reducible exact Grow.refl _) | assumption | refine Grow.ext ?_ _ | refine Grow.alloc ?_ _ | refine Grow.drew ?_ | refine Grow.setCell ?_ (by first | (simp; done) | (simp; omega)) _ | refine Grow.trans ?_ (by assumption)))))).mono ?_); rintro e w48 ⟨rfl, hb48⟩; obtain ⟨x48, rfl⟩ := ext_of_grow hb48; clear hb48))
        | (go_at_call 20; ((with_reducible refine (no29 _ (hw.grow (by (repeat (first | (with_reducible exact Grow.refl _) | assumption | refine Grow.ext ?_ _ | refine Grow.alloc ?_ _ | refine Grow.drew ?_ | refine Grow.setCell ?_ (by first | (simp; done) | (simp; omega)) _ | refine Grow.trans ?_ (by assumption)))))).mono ?_); rintro e w49 ⟨rfl, hb49⟩; obtain ⟨x49, rfl⟩ := ext_of_grow hb49; clear hb49))
        | (go_at_call 20; ((with_reducible refine (no30 _ (hw.grow (by (repeat (first | (with_reducible exact Grow.refl _) | assumption | refine Grow.ext ?_ _ | refine Grow.alloc ?_ _ | refine Grow.drew ?_ | refine Grow.setCell ?_ (by first | (simp; done) | (simp; omega)) _ | refine Grow.trans ?_ (by assumption)))))).mono ?_); rintro e w50 ⟨rfl, hb50⟩; obtain ⟨x50, rfl⟩ := ext_of_grow hb50; clear hb50)))
      have HAL := Lib.hid (fun w hw => law45_alive w hw)
      go_wp2_with (first | (go_at_call 21; ((with_reducible refine (HAL.out _ (hw.grow (by (repeat (first | (with_reducible exact Grow.refl _) | assumption | refine Grow.ext ?_ _ | refine Grow.alloc ?_ _ | refine Grow.drew ?_ | refine Grow.setCell ?_ (by first | (simp; done) | (simp; omega)) _ | refine Grow.trans ?_ (by assumption)))))).mono ?_); rintro e w60 ⟨rfl, hb60⟩; obtain ⟨x60, rfl⟩ := ext_of_grow hb60; clear hb60)))
      go_ret; exact Ret.bool rfl (by (repeat (first | (with_reducible exact Grow.refl _) | assumption | refine Grow.ext ?_ _ | refine Grow.alloc ?_ _ | refine Grow.drew ?_ | refine Grow.setCell ?_ (by first | (simp; done) | (simp; omega)) _ | refine Grow.trans ?_ (by assumption))))
end Go.Proofs.YtjllaogechckoaaDoor
