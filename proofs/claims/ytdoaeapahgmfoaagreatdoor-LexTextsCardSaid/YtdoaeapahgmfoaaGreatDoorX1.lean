/- Lex's deferred function: it catches a place that was thrown. -/
import Derived.Test.YtdoaeapahgmfoaaGreatDoorN1
import Derived.Recover
import Derived.Defers
namespace Go.Proofs.YtdoaeapahgmfoaaGreatDoor
open Go.RowKit

theorem assert_place (n : Int) (w : World) : (Instr.typeAssert (.iface 105 (.int .i64 n)) 20 105 true).run Tryz.prog w = .ok (.tuple #[.int .i64 n, .bool true]) w := by kernel_rfl
theorem assert_none (w : World) : (Instr.typeAssert .nilIface 20 105 true).run Tryz.prog w = .ok (.tuple #[.int .i64 0, .bool false]) w := by kernel_rfl

set_option maxRecDepth 100000 in
set_option maxHeartbeats 1000000 in
theorem catch_place (bl be : Nat) (n : Int) (ol oe : Value) (te : TypeId) (pv : Value) (older : List PanicEntry) (w : World) (_hne : bl ≠ be)
    (hl : w.cell? ⟨bl, 0, none⟩ = some ol) (he : w.cell? ⟨be, 0, none⟩ = some oe) (fl : w.frozen? ⟨bl, 0, none⟩ = false) (fe : w.frozen? ⟨be, 0, none⟩ = false)
    (hv : w.cell? ⟨2, 0, none⟩ = some (.iface te pv)) :
    CallsD Tryz.prog 44 #[.pointer (some ⟨bl, 0, none⟩), .pointer (some ⟨be, 0, none⟩)] (.panicking ({ v := .iface 105 (.int .i64 n), recovered := false } :: older)) w fun e u' w' =>
      e = .returned (.tuple #[]) ∧ u' = .panicking ({ v := .iface 105 (.int .i64 n), recovered := true } :: older) ∧
      w' = ((w.alloc (.cells #[.int .i64 n, .iface te pv] 109)).setCell ⟨bl, 0, none⟩ (.slice none 0 0)).setCell ⟨be, 0, none⟩ (.iface 107 (.pointer (some ⟨w.heap.size, 0, none⟩))) := by
  refine callsD_of_wpS Tryz.func44 rfl fun c₀ cs hu => ?_
  apply wpS_seq
  apply wpS_region
  simp [wpOpsS, go_sem, recoverD, hu, Tryz.ntmps44, Exit.thenS, assert_place]
  apply wpS_seq
  apply wpS_region
  simp [wpOpsS, go_sem, Exit.thenS]
  refine wpS_cond (t := true) (by simp [Act.eval, Array.replicate]) ?_
  simp only [if_true]
  have hlb : bl < w.heap.size := World.block_lt_of_cell? w _ hl
  have heb : be < w.heap.size := World.block_lt_of_cell? w _ he
  apply wpS_region
  simp [wpOpsS, go_sem, hl, he, fl, fe, hv, hlb, heb, bodyPostS, results, Tryz.results44]

set_option maxRecDepth 100000 in
set_option maxHeartbeats 1000000 in
theorem catch_idle (bl be : Nat) (w : World) :
    CallsD Tryz.prog 44 #[.pointer (some ⟨bl, 0, none⟩), .pointer (some ⟨be, 0, none⟩)] .returning w fun e u' w' => e = .returned (.tuple #[]) ∧ u' = .returning ∧ w' = w := by
  refine callsD_of_wpS Tryz.func44 rfl fun c₀ cs hu => ?_
  apply wpS_seq
  apply wpS_region
  simp [wpOpsS, go_sem, recoverD, hu, Tryz.ntmps44, Exit.thenS, assert_none]
  apply wpS_seq
  apply wpS_region
  simp [wpOpsS, go_sem, Exit.thenS]
  refine wpS_cond (t := false) (by simp [Act.eval, Array.replicate]) ?_
  simp only [Bool.false_eq_true, if_false]
  refine wpS_of_wp (wp_skip ?_)
  cases c₀
  simp_all [bodyPostS, results, Tryz.results44]

/-- The program's own errors, below block B: values of type *errors.errorString. -/
structure GlobE (B : Nat) (w : World) : Prop extends Glob B w where
  text : ∃ te pe, w.cell? ⟨2, 0, none⟩ = some (.iface te pe)
  bound : ∃ te pe, w.cell? ⟨1, 0, none⟩ = some (.iface te pe)
theorem GlobE.below {B : Nat} {w w' : World} (h : GlobE B w) (hb : Below B w w') : GlobE B w' := by
  have hB := h.hB
  refine ⟨h.toGlob.below hb, ?_, ?_⟩
  · obtain ⟨te, pe, h1⟩ := h.text
    exact ⟨te, pe, (hb.cell (p := ⟨2, 0, none⟩) (by show 2 < B; omega)).trans h1⟩
  · obtain ⟨te, pe, h1⟩ := h.bound
    exact ⟨te, pe, (hb.cell (p := ⟨1, 0, none⟩) (by show 1 < B; omega)).trans h1⟩
end Go.Proofs.YtdoaeapahgmfoaaGreatDoor
