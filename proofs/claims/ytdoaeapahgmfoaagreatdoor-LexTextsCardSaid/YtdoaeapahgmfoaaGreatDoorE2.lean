/- plain.Code: an error's number and place. -/
import Derived.Test.YtdoaeapahgmfoaaGreatDoorE1
import Derived.Lib.Hide
namespace Go.Proofs.YtdoaeapahgmfoaaGreatDoor
open Go.RowKit Go.Extern.Stop Go.Stop Go.Extern

/-- The program's errors, by number. -/
def errG : Nat → Nat
  | 0 => 2
  | 1 => 1
  | 2 => 0
  | 3 => 3
  | 4 => 4
  | 5 => 5
  | _ => 6
theorem errG_lt (i : Nat) : errG i < 7 + 1000 := by
  unfold errG; split <;> decide
/-- What the errors' variables hold: pointers p, each of them another; and the type's handle that package errors keeps. -/
structure Errs (p : Nat → Addr) (w : World) : Prop where
  handle : w.cell? ⟨7, 0, none⟩ = some (.iface 233 (.agg #[.pointer (some ⟨19, 27, none⟩)]))
  cell : ∀ i, i < 7 → w.cell? ⟨errG i, 0, none⟩ = some (.iface 281 (.pointer (some (p i))))
  inj : ∀ i j, i < 7 → j < 7 → p i = p j → i = j
  blk : ∀ i, i < 7 → ∃ c t, w.heap[(p i).block]? = some (.cells c t (0, 0))
theorem Errs.below {p : Nat → Addr} {w w' : World} (h : Errs p w) (hb : Below w.heap.size w w') : Errs p w' := by
  refine ⟨(hb.cell (World.block_lt_of_cell? w _ h.handle)).trans h.handle, fun i hi => (hb.cell (World.block_lt_of_cell? w _ (h.cell i hi))).trans (h.cell i hi), h.inj, fun i hi => ?_⟩
  obtain ⟨c, t, hc⟩ := h.blk i hi
  refine ⟨c, t, (hb.block _ ?_).trans hc⟩
  rcases Nat.lt_or_ge (p i).block w.heap.size with h' | h'
  · exact h'
  · rw [Array.getElem?_eq_none h'] at hc; cases hc

theorem code_nil (w : World) : Calls Tryz.prog 43 #[.nilIface] w fun e w' => e = .returned (.tuple #[.int .i64 0, .int .i64 (-1)]) ∧ Below w.heap.size w w' := by
  go_enter Tryz.func43, Tryz.ntmps43
  go_wp2_with fail
  go_ret2
  exact ⟨rfl, Below.refl _ _⟩

theorem as_cells (p : Nat → Addr) (w : World) (k : Nat) (hk : k < 7) :
    (w.alloc (.cells #[.iface 281 (.pointer (some (p 0))), .iface 281 (.pointer (some (p 1))), .iface 281 (.pointer (some (p 2))), .iface 281 (.pointer (some (p 3))), .iface 281 (.pointer (some (p 4))), .iface 281 (.pointer (some (p 5))), .iface 281 (.pointer (some (p 6)))] 27)).cell? ⟨w.heap.size, k, none⟩ = some (.iface 281 (.pointer (some (p k)))) := by
  match k, hk with
  | 0, _ => simp
  | 1, _ => simp
  | 2, _ => simp
  | 3, _ => simp
  | 4, _ => simp
  | 5, _ => simp
  | 6, _ => simp


set_option maxRecDepth 100000 in
set_option maxHeartbeats 8000000 in
/-- Of an error of errors.New's make: its number, if it is one of the program's. -/
theorem code_bare {p : Nat → Addr} {w : World} (h : Errs p w) (a : Addr) (n : Nat) (hn : n ≤ 7) (hk : ∀ k, k < n → k < 7 → a ≠ p k) (hat : n < 7 → a = p n) (ha : ∃ c t, w.heap[a.block]? = some (.cells c t (0, 0))) (r : Int) (hr : r = if n < 7 then ((n : Int) + 1) else -1) :
    Calls Tryz.prog 43 #[.iface 281 (.pointer (some a))] w fun e w' => e = .returned (.tuple #[.int .i64 r, .int .i64 (-1)]) ∧ Below w.heap.size w w' := by
  have hg1 : (w.alloc (.cells #[.pointer none] 107)).cell? ⟨7, 0, none⟩ = some (.iface 233 (.agg #[.pointer (some ⟨19, 27, none⟩)])) := by
    rw [World.cell?_alloc_lt _ _ ⟨7, 0, none⟩ (World.block_lt_of_cell? w _ h.handle)]; exact h.handle
  go_enter Tryz.func43, Tryz.ntmps43
  go_wp2_with fail
  refine (as_miss a ⟨w.heap.size, 0, none⟩ _ hg1).mono ?_
  rintro e w2 ⟨rfl, hw2⟩
  have hb2 : Below w.heap.size w w2 := by
    rw [hw2]
    exact ((((Below.refl _ _).alloc (Nat.le_refl _) _).alloc (by simp) _).alloc (by simp; omega) _).alloc (by simp; omega) _
  have h2 := h.below hb2
  clear hw2 hg1
  obtain ⟨ca, ta, hac⟩ := ha
  have hal : a.block < w.heap.size := by
    rcases Nat.lt_or_ge a.block w.heap.size with h' | h'
    · exact h'
    · rw [Array.getElem?_eq_none h'] at hac; cases hac
  have g0 : w2.cell? ⟨2, 0, none⟩ = some (.iface 281 (.pointer (some (p 0)))) := h2.cell 0 (by omega)
  have g1 : w2.cell? ⟨1, 0, none⟩ = some (.iface 281 (.pointer (some (p 1)))) := h2.cell 1 (by omega)
  have g2 : w2.cell? ⟨0, 0, none⟩ = some (.iface 281 (.pointer (some (p 2)))) := h2.cell 2 (by omega)
  have g3 : w2.cell? ⟨3, 0, none⟩ = some (.iface 281 (.pointer (some (p 3)))) := h2.cell 3 (by omega)
  have g4 : w2.cell? ⟨4, 0, none⟩ = some (.iface 281 (.pointer (some (p 4)))) := h2.cell 4 (by omega)
  have g5 : w2.cell? ⟨5, 0, none⟩ = some (.iface 281 (.pointer (some (p 5)))) := h2.cell 5 (by omega)
  have g6 : w2.cell? ⟨6, 0, none⟩ = some (.iface 281 (.pointer (some (p 6)))) := h2.cell 6 (by omega)
  go_wp2_with fail
  clear g0 g1 g2 g3 g4 g5 g6
  have hcs := as_cells p w2
  have hb3 : Below w2.heap.size w2 (w2.alloc (.cells #[.iface 281 (.pointer (some (p 0))), .iface 281 (.pointer (some (p 1))), .iface 281 (.pointer (some (p 2))), .iface 281 (.pointer (some (p 3))), .iface 281 (.pointer (some (p 4))), .iface 281 (.pointer (some (p 5))), .iface 281 (.pointer (some (p 6)))] 27)) := (Below.refl _ _).alloc (Nat.le_refl _) _
  generalize w2.alloc (.cells #[.iface 281 (.pointer (some (p 0))), .iface 281 (.pointer (some (p 1))), .iface 281 (.pointer (some (p 2))), .iface 281 (.pointer (some (p 3))), .iface 281 (.pointer (some (p 4))), .iface 281 (.pointer (some (p 5))), .iface 281 (.pointer (some (p 6)))] 27) = W3 at hcs hb3 ⊢
  have h3 := h2.below hb3
  have hbl : Below w.heap.size w W3 := hb2.trans (hb3.mono hb2.size)
  have Hcs := Lib.hid hcs
  clear hcs
  have ha3 : W3.heap[a.block]? = some (.cells ca ta (0, 0)) := (hbl.block _ hal).trans hac
  go_loop [3, 25] (fun pl v => ∃ k : Nat, k ≤ n ∧ pl = .int .i64 (-1) ∧ v = .int .i64 k) (fun _ v => 8 - (intOf v).toNat)
  case atStart => exact ⟨0, by omega, rfl, rfl⟩
  case round =>
    obtain ⟨k, hkn, rfl, rfl⟩ := hrel
    by_cases h7 : k < 7
    · have t1 : decide ((k : Int) < 7) = true := by simp; omega
      have hck := Hcs.out k h7
      by_cases hlt : k < n
      · have hne := hk k hlt h7
        obtain ⟨cb, tb, hpb⟩ := h3.blk k h7
        go_wp2_with fail
        refine (is_other a (p k) ca cb ta tb W3 hne ha3 hpb).mono ?_
        rintro e w4 ⟨rfl, rfl⟩
        go_wp2_with fail
        go_round
        case rel => exact ⟨k + 1, by omega, rfl, by go_num⟩
        case measure => simp [intOf]; omega
      · have hkn' : k = n := by omega
        subst hkn'
        have hae := hat h7
        subst hae
        go_wp2_with fail
        refine (is_same (p k) W3).mono ?_
        rintro e w4 ⟨rfl, rfl⟩
        go_wp2_with fail
        go_ret2
        exact ⟨by rw [if_pos h7] at hr; subst hr; rfl, hbl⟩
    · have t1 : decide ((k : Int) < 7) = false := by simp; omega
      have hn7 : ¬ n < 7 := by omega
      go_wp2_with fail
      go_ret2
      exact ⟨by rw [if_neg hn7] at hr; subst hr; rfl, hbl⟩

set_option maxRecDepth 100000 in
set_option maxHeartbeats 8000000 in
/-- Of an api.Fault around one of the program's errors: its number and its place. -/
theorem code_fault {p : Nat → Addr} {w : World} (h : Errs p w) (N : Nat) (at_ : Int) (n : Nat) (hn : n < 7) (hN0 : w.cell? ⟨N, 0, none⟩ = some (.int .i64 at_)) (hN1 : w.cell? ⟨N, 1, none⟩ = some (.iface 281 (.pointer (some (p n))))) :
    Calls Tryz.prog 43 #[.iface 107 (.pointer (some ⟨N, 0, none⟩))] w fun e w' => e = .returned (.tuple #[.int .i64 ((n : Int) + 1), .int .i64 at_]) ∧ Below w.heap.size w w' := by
  have hNl : N < w.heap.size := World.block_lt_of_cell? w _ hN0
  have hg1 : (w.alloc (.cells #[.pointer none] 107)).cell? ⟨7, 0, none⟩ = some (.iface 233 (.agg #[.pointer (some ⟨19, 27, none⟩)])) := by
    rw [World.cell?_alloc_lt _ _ ⟨7, 0, none⟩ (World.block_lt_of_cell? w _ h.handle)]; exact h.handle
  have htA : (w.alloc (.cells #[.pointer none] 107)).cell? ⟨w.heap.size, 0, none⟩ = some (.pointer none) := by simp
  have hfA : (w.alloc (.cells #[.pointer none] 107)).frozen? ⟨w.heap.size, 0, none⟩ = false := by simp
  go_enter Tryz.func43, Tryz.ntmps43
  go_wp2_with fail
  refine (as_hit ⟨N, 0, none⟩ ⟨w.heap.size, 0, none⟩ (.pointer none) _ hg1 htA hfA).mono ?_
  rintro e w2 ⟨rfl, hw2⟩
  have hb2 : Below w.heap.size w w2 := by
    rw [hw2]
    exact (((((Below.refl _ _).alloc (Nat.le_refl _) _).alloc (by simp) _).alloc (by simp; omega) _).alloc (by simp; omega) _).alloc (by simp; omega) _ |>.setCell (p := ⟨w.heap.size, 0, none⟩) (Nat.le_refl _) _
  have ct : w2.cell? ⟨w.heap.size, 0, none⟩ = some (.pointer (some ⟨N, 0, none⟩)) := by
    rw [hw2]
    refine World.cell?_setCell_same _ _ _ (u := .pointer none) ?_
    rw [World.cell?_alloc_lt _ _ ⟨w.heap.size, 0, none⟩ (by simp; omega), World.cell?_alloc_lt _ _ ⟨w.heap.size, 0, none⟩ (by simp; omega), World.cell?_alloc_lt _ _ ⟨w.heap.size, 0, none⟩ (by simp; omega), World.cell?_alloc_lt _ _ ⟨w.heap.size, 0, none⟩ (by simp)]
    simp
  have h2 := h.below hb2
  have cN := (hb2.cell (p := ⟨N, 0, none⟩) hNl).trans hN0
  clear hw2 hg1 htA hfA
  have g0 : w2.cell? ⟨2, 0, none⟩ = some (.iface 281 (.pointer (some (p 0)))) := h2.cell 0 (by omega)
  have g1 : w2.cell? ⟨1, 0, none⟩ = some (.iface 281 (.pointer (some (p 1)))) := h2.cell 1 (by omega)
  have g2 : w2.cell? ⟨0, 0, none⟩ = some (.iface 281 (.pointer (some (p 2)))) := h2.cell 2 (by omega)
  have g3 : w2.cell? ⟨3, 0, none⟩ = some (.iface 281 (.pointer (some (p 3)))) := h2.cell 3 (by omega)
  have g4 : w2.cell? ⟨4, 0, none⟩ = some (.iface 281 (.pointer (some (p 4)))) := h2.cell 4 (by omega)
  have g5 : w2.cell? ⟨5, 0, none⟩ = some (.iface 281 (.pointer (some (p 5)))) := h2.cell 5 (by omega)
  have g6 : w2.cell? ⟨6, 0, none⟩ = some (.iface 281 (.pointer (some (p 6)))) := h2.cell 6 (by omega)
  go_wp2_with fail
  clear g0 g1 g2 g3 g4 g5 g6
  have hcs := as_cells p w2
  have hb3 : Below w2.heap.size w2 (w2.alloc (.cells #[.iface 281 (.pointer (some (p 0))), .iface 281 (.pointer (some (p 1))), .iface 281 (.pointer (some (p 2))), .iface 281 (.pointer (some (p 3))), .iface 281 (.pointer (some (p 4))), .iface 281 (.pointer (some (p 5))), .iface 281 (.pointer (some (p 6)))] 27)) := (Below.refl _ _).alloc (Nat.le_refl _) _
  generalize w2.alloc (.cells #[.iface 281 (.pointer (some (p 0))), .iface 281 (.pointer (some (p 1))), .iface 281 (.pointer (some (p 2))), .iface 281 (.pointer (some (p 3))), .iface 281 (.pointer (some (p 4))), .iface 281 (.pointer (some (p 5))), .iface 281 (.pointer (some (p 6)))] 27) = W3 at hcs hb3 ⊢
  have h3 := h2.below hb3
  have hbl : Below w.heap.size w W3 := hb2.trans (hb3.mono hb2.size)
  have Hcs := Lib.hid hcs
  clear hcs
  have hN1' : W3.cell? ⟨N, 0 + 1, none⟩ = some (.iface 281 (.pointer (some (p n)))) := (hbl.cell (p := ⟨N, 1, none⟩) hNl).trans hN1
  obtain ⟨ca, ta, ha3⟩ := h3.blk n hn
  go_loop [3, 25] (fun pl v => ∃ k : Nat, k ≤ n ∧ pl = .int .i64 at_ ∧ v = .int .i64 k) (fun _ v => 8 - (intOf v).toNat)
  case atStart => exact ⟨0, by omega, rfl, rfl⟩
  case round =>
    obtain ⟨k, hkn, rfl, rfl⟩ := hrel
    have h7 : k < 7 := by omega
    have t1 : decide ((k : Int) < 7) = true := by simp; omega
    have hck := Hcs.out k h7
    by_cases hlt : k < n
    · have hne : p n ≠ p k := fun e => by have := h3.inj n k hn h7 e; omega
      obtain ⟨cb, tb, hpb⟩ := h3.blk k h7
      go_wp2_with fail
      refine (is_wrap_other N 0 (p k) (p n) ca cb ta tb W3 hN1' hne ha3 hpb).mono ?_
      rintro e w4 ⟨rfl, rfl⟩
      go_wp2_with fail
      go_round
      case rel => exact ⟨k + 1, by omega, rfl, by go_num⟩
      case measure => simp [intOf]; omega
    · have hkn' : k = n := by omega
      subst hkn'
      go_wp2_with fail
      refine (is_wrap_same N 0 (p k) W3 hN1').mono ?_
      rintro e w4 ⟨rfl, rfl⟩
      go_wp2_with fail
      go_ret2
      exact ⟨rfl, hbl⟩

end Go.Proofs.YtdoaeapahgmfoaaGreatDoor
