/- The walk of Names: the numbers and errors of package api. -/
import Derived.Test.YtdoaeapahgmfoaaDoorE2
import Derived.BigQuiet
import Derived.Deep.DeepCutAuto
namespace Go.Proofs.YtdoaeapahgmfoaaDoor
open Go.RowKit Go.Extern.Stop Go.Stop Go.Extern

/-- The errors' own words. -/
def nmL : Nat → ByteArray
  | 0 => ⟨#[116, 101, 120, 116]⟩
  | 1 => ⟨#[98, 111, 117, 110, 100]⟩
  | 2 => ⟨#[115, 104, 97, 112, 101]⟩
  | 3 => ⟨#[110, 97, 109, 101]⟩
  | 4 => ⟨#[112, 108, 97, 99, 101]⟩
  | 5 => ⟨#[102, 117, 108, 108]⟩
  | _ => ⟨#[110, 111, 110, 101]⟩
def preL : ByteArray := ⟨#[110, 117, 114, 115, 101, 114, 121, 112, 121, 58, 32]⟩
theorem nmL_size (i : Nat) : (nmL i).size ≤ 5 := by
  unfold nmL; split <;> decide
/-- What the errors say, besides. -/
structure ErrsM (p : Nat → Addr) (w : World) : Prop extends Errs p w where
  msg : ∀ i, i < 7 → w.cell? (p i) = some (.string (preL ++ nmL i))
theorem ErrsM.below {p : Nat → Addr} {w w' : World} (h : ErrsM p w) (hb : Below w.heap.size w w') : ErrsM p w' :=
  ⟨h.toErrs.below hb, fun i hi => (hb.cell (World.block_lt_of_cell? w _ (h.msg i hi))).trans (h.msg i hi)⟩

set_option maxRecDepth 100000 in
set_option maxHeartbeats 4000000 in
theorem coded_nil (w : World) : Calls Tryd.prog 10 #[.nilIface, .int .i64 0] w fun e w' => e = .returned (.bool true) ∧ Below w.heap.size w w' := by
  go_enter Tryd.func10, Tryd.ntmps10
  go_wp2_with fail
  refine (code_nil w).mono ?_
  rintro e w1 ⟨rfl, hb⟩
  go_wp2_with fail
  go_ret
  exact ⟨rfl, hb⟩
set_option maxRecDepth 100000 in
set_option maxHeartbeats 4000000 in
theorem coded_bare {p : Nat → Addr} {w : World} (h : Errs p w) (n : Nat) (hn : n < 7) :
    Calls Tryd.prog 10 #[.iface 52 (.pointer (some (p n))), .int .i64 ((n : Int) + 1)] w fun e w' => e = .returned (.bool true) ∧ Below w.heap.size w w' := by
  go_enter Tryd.func10, Tryd.ntmps10
  go_wp2_with fail
  refine (code_bare h (p n) n (by omega) (fun k hk hk7 e => by have := h.inj n k hn hk7 e; omega) (fun _ => rfl) (h.blk n hn) ((n : Int) + 1) (by rw [if_pos hn])).mono ?_
  rintro e w1 ⟨rfl, hb⟩
  go_wp2_with fail
  go_ret
  exact ⟨rfl, hb⟩

theorem Tryd.methodErr (v : Value) (w : World) : (Go.method 303 52 v "Error").run Tryd.prog w = .ok (127, v) w := by kernel_rfl
set_option maxHeartbeats 4000000 in
theorem err_any (a : Addr) (s : ByteArray) (w : World) (h : w.cell? a = some (.string s)) : Calls Tryd.prog 127 #[.pointer (some a)] w fun e w' => e = .returned (.string s) ∧ w' = w := by
  have ha : a.add 0 = a := by unfold Addr.add; rw [if_pos rfl]
  go_enter Tryd.func127, Tryd.ntmps127
  go_wp2_with fail
  go_ret
  exact ⟨rfl, rfl⟩

set_option maxRecDepth 100000 in
set_option maxHeartbeats 4000000 in
/-- SameInts of two lists that read the same. -/
theorem same_ints (n : Nat) (hn : n ≤ 100) (g h c d : Nat) (w : World) (hgh : ∀ j, j < n → ∃ z : Int, w.cell? ⟨g, j, none⟩ = some (.int .i64 z) ∧ w.cell? ⟨h, j, none⟩ = some (.int .i64 z)) (hg : g < w.heap.size) (hh : h < w.heap.size) :
    Calls Tryd.prog 8 #[.slice (some ⟨g, 0, none⟩) n c, .slice (some ⟨h, 0, none⟩) n d] w fun e w' => e = .returned (.bool true) ∧ Below w.heap.size w w' := by
  have Hgh := Lib.hid hgh; clear hgh
  go_enter Tryd.func8, Tryd.ntmps8
  go_wp2_with fail
  go_loopw [5] (fun i wr => ∃ j : Nat, j ≤ n ∧ i = .int .i64 j ∧ Below w.heap.size w wr) (fun i _ => n - (intOf i).toNat)
  case atStart => exact ⟨0, by omega, rfl, Below.refl _ _⟩
  case round =>
    obtain ⟨j, hj, rfl, hbr⟩ := hrel
    by_cases hjl : j < n
    · have t1 : decide ((j : Int) < (n : Int)) = true := by simp; omega
      obtain ⟨z, q1, q2⟩ := Hgh.out j hjl
      have r1 := (hbr.cell (p := ⟨g, j, none⟩) hg).trans q1
      have r2 := (hbr.cell (p := ⟨h, j, none⟩) hh).trans q2
      clear q1 q2
      go_upto_region 6 with fail
      go_quiet (fail)
      go_wp2_with fail
      go_roundw
      case rel => exact ⟨j + 1, by omega, by go_num, ⟨hbr.os, hbr.tape, hbr.output, hbr.size, hbr.block⟩⟩
      case measure => simp [intOf]; omega
    · have t1 : decide ((j : Int) < (n : Int)) = false := by simp; omega
      go_wp2_with fail
      go_ret
      exact ⟨rfl, hbr⟩

set_option maxHeartbeats 4000000 in
theorem new_any (s : ByteArray) (w : World) : Calls Tryd.prog 11 #[.string s] w fun e w' => e = .returned (.iface 52 (.pointer (some ⟨w.heap.size, 0, none⟩))) ∧ w' = w.alloc (.cells #[.string s] 54) := by
  go_enter Tryd.func11, Tryd.ntmps11
  go_wp2_with fail
  go_ret
  exact ⟨rfl, rfl⟩

def namesZ : List Int := [6000, 16, 12, 2305843009213693952, 100000, 60, 20, 2000, 20000, 50, 20000, 65536, 4096, 5000, 400, 40, 16]
def kindsZ : List Int := [0, 1, 2, 3, 0, 1, 2]
def intsA (zs : List Int) : Array Value := (zs.map fun z => Value.int .i64 z).toArray
theorem intsA_at (zs : List Int) (j : Nat) (hj : j < zs.length) : (intsA zs)[j]? = some (.int .i64 zs[j]) := by simp [intsA, hj]
theorem cell_blk {w : World} {g j : Nat} {cs : Array Value} {t : TypeId} {f : Nat × Nat} {v : Value} (h : w.heap[g]? = some (.cells cs t f)) (hv : cs[j]? = some v) : w.cell? ⟨g, j, none⟩ = some v := by
  unfold World.cell?; rw [h]; exact hv
theorem new_blk (w : World) (cs : Array Value) (t : TypeId) : (w.alloc (.cells cs t)).heap[w.heap.size]? = some (.cells cs t (0, 0)) := heap_alloc_new _ _

/-- The worlds that have grown out of one. -/
structure GrownOf (w0 : World) where
  world : World
  below : Below w0.heap.size w0 world

theorem wp_region_quiet_in {P : Program} {C : World → Prop} {id : Nat} {Q : Exit → Act → World → Prop} {a : Act} {w : World} {l : List Oper} (hm : P.follows .mixedOrders = true) (hB : Region.lexB .any l.toArray = true)
    (hC : C { w with drawn := w.drawn + 1 }) (h : wpQuiet P l.toArray C (fun a' => ∀ w', C w' → Q .normal a' w') l a) : (Code.region id l.toArray true).wp P Q a w :=
  wp_region_quiet (C := C) hm hB hC (by simpa using h)

def nmA : Array Value := #[.string (nmL 0), .string (nmL 1), .string (nmL 2), .string (nmL 3), .string (nmL 4), .string (nmL 5), .string (nmL 6)]
theorem nmA_at (k : Nat) (hk : k < 7) : nmA[k]? = some (.string (nmL k)) := by
  match k, hk with
  | 0, _ => rfl
  | 1, _ => rfl
  | 2, _ => rfl
  | 3, _ => rfl
  | 4, _ => rfl
  | 5, _ => rfl
  | 6, _ => rfl

set_option maxRecDepth 100000 in
set_option maxHeartbeats 20000000 in
theorem names_any {p : Nat → Addr} {w : World} (h : ErrsM p w) :
    Calls Tryd.prog 3 #[] w fun e w' => e = .returned (.bool true) ∧ Below w.heap.size w w' := by
  have k0 : (((w.alloc (.cells (intsA namesZ) 3)).alloc (.cells (intsA namesZ) 3)).alloc (.cells (intsA kindsZ) 3)).heap[w.heap.size]? = some (.cells (intsA namesZ) 3 (0, 0)) :=
    (Below.heap_alloc _ _ _ (by simp; omega)).trans ((Below.heap_alloc _ _ _ (by simp)).trans (new_blk _ _ _))
  have k1 : (((w.alloc (.cells (intsA namesZ) 3)).alloc (.cells (intsA namesZ) 3)).alloc (.cells (intsA kindsZ) 3)).heap[w.heap.size + 1]? = some (.cells (intsA namesZ) 3 (0, 0)) :=
    (Below.heap_alloc _ _ _ (by simp)).trans (by have := new_blk (w.alloc (.cells (intsA namesZ) 3)) (intsA namesZ) 3; simpa using this)
  have k2 : (((w.alloc (.cells (intsA namesZ) 3)).alloc (.cells (intsA namesZ) 3)).alloc (.cells (intsA kindsZ) 3)).heap[w.heap.size + 1 + 1]? = some (.cells (intsA kindsZ) 3 (0, 0)) := by
    have := new_blk ((w.alloc (.cells (intsA namesZ) 3)).alloc (.cells (intsA namesZ) 3)) (intsA kindsZ) 3; simpa using this
  have hb0 : Below w.heap.size w (((w.alloc (.cells (intsA namesZ) 3)).alloc (.cells (intsA namesZ) 3)).alloc (.cells (intsA kindsZ) 3)) :=
    (((Below.refl _ _).alloc (Nat.le_refl _) _).alloc (by simp) _).alloc (by simp; omega) _
  have hsz : (((w.alloc (.cells (intsA namesZ) 3)).alloc (.cells (intsA namesZ) 3)).alloc (.cells (intsA kindsZ) 3)).heap.size = w.heap.size + 1 + 1 + 1 := by simp
  go_enter Tryd.func3, Tryd.ntmps3
  go_wp2_with fail
  have hW : ((w.alloc (.cells #[.int .i64 6000, .int .i64 16, .int .i64 12, .int .i64 2305843009213693952, .int .i64 100000, .int .i64 60, .int .i64 20, .int .i64 2000, .int .i64 20000, .int .i64 50, .int .i64 20000, .int .i64 65536, .int .i64 4096, .int .i64 5000, .int .i64 400, .int .i64 40, .int .i64 16] 3)).alloc (.cells #[.int .i64 6000, .int .i64 16, .int .i64 12, .int .i64 2305843009213693952, .int .i64 100000, .int .i64 60, .int .i64 20, .int .i64 2000, .int .i64 20000, .int .i64 50, .int .i64 20000, .int .i64 65536, .int .i64 4096, .int .i64 5000, .int .i64 400, .int .i64 40, .int .i64 16] 3)).alloc (.cells #[.int .i64 0, .int .i64 1, .int .i64 2, .int .i64 3, .int .i64 0, .int .i64 1, .int .i64 2] 3) = ((w.alloc (.cells (intsA namesZ) 3)).alloc (.cells (intsA namesZ) 3)).alloc (.cells (intsA kindsZ) 3) := rfl
  rw [hW]
  clear hW
  generalize ((w.alloc (.cells (intsA namesZ) 3)).alloc (.cells (intsA namesZ) 3)).alloc (.cells (intsA kindsZ) 3) = W0 at k0 k1 k2 hb0 hsz ⊢
  refine (same_ints 17 (by omega) w.heap.size (w.heap.size + 1) 17 17 W0 (fun j hj => ⟨namesZ[j], cell_blk k0 (intsA_at namesZ j hj), cell_blk k1 (intsA_at namesZ j hj)⟩) (by omega) (by omega)).mono ?_
  rintro e w1 ⟨rfl, hb1⟩
  have hb1' : Below w.heap.size w w1 := hb0.trans (hb1.mono hb0.size)
  have k2' : w1.heap[w.heap.size + 1 + 1]? = some (.cells (intsA kindsZ) 3 (0, 0)) := (hb1.block _ (by omega)).trans k2
  have hs1 : w.heap.size + 1 + 1 < w1.heap.size := by have := hb1.size; omega
  clear k0 k1 k2 hb0 hb1
  go_wp2_with fail
  have hW : w1.alloc (.cells #[.int .i64 0, .int .i64 1, .int .i64 2, .int .i64 3, .int .i64 0, .int .i64 1, .int .i64 2] 3) = w1.alloc (.cells (intsA kindsZ) 3) := rfl
  rw [hW]
  clear hW
  have k3 := new_blk w1 (intsA kindsZ) 3
  have k4 : (w1.alloc (.cells (intsA kindsZ) 3)).heap[w.heap.size + 1 + 1]? = some (.cells (intsA kindsZ) 3 (0, 0)) := (Below.heap_alloc _ _ _ hs1).trans k2'
  have hb2 : Below w.heap.size w (w1.alloc (.cells (intsA kindsZ) 3)) := hb1'.alloc hb1'.size _
  have hsz2 : (w1.alloc (.cells (intsA kindsZ) 3)).heap.size = w1.heap.size + 1 := by simp
  generalize w1.alloc (.cells (intsA kindsZ) 3) = W1 at k3 k4 hb2 hsz2 ⊢
  refine (same_ints 7 (by omega) (w.heap.size + 1 + 1) w1.heap.size 7 7 W1 (fun j hj => ⟨kindsZ[j], cell_blk k4 (intsA_at kindsZ j hj), cell_blk k3 (intsA_at kindsZ j hj)⟩) (by omega) (by omega)).mono ?_
  rintro e w2 ⟨rfl, hb3⟩
  have hb2' : Below w.heap.size w w2 := hb2.trans (hb3.mono hb2.size)
  have h2 := h.below hb2'
  clear k2' k3 k4 hb2 hb3 hb1' hs1 hsz2 hsz
  have g0 : w2.cell? ⟨0, 0, none⟩ = some (.iface 52 (.pointer (some (p 0)))) := h2.cell 0 (by omega)
  have g1 : w2.cell? ⟨1, 0, none⟩ = some (.iface 52 (.pointer (some (p 1)))) := h2.cell 1 (by omega)
  have g2 : w2.cell? ⟨2, 0, none⟩ = some (.iface 52 (.pointer (some (p 2)))) := h2.cell 2 (by omega)
  have g3 : w2.cell? ⟨3, 0, none⟩ = some (.iface 52 (.pointer (some (p 3)))) := h2.cell 3 (by omega)
  have g4 : w2.cell? ⟨4, 0, none⟩ = some (.iface 52 (.pointer (some (p 4)))) := h2.cell 4 (by omega)
  have g5 : w2.cell? ⟨5, 0, none⟩ = some (.iface 52 (.pointer (some (p 5)))) := h2.cell 5 (by omega)
  have g6 : w2.cell? ⟨6, 0, none⟩ = some (.iface 52 (.pointer (some (p 6)))) := h2.cell 6 (by omega)
  go_wp2_with fail
  clear g0 g1 g2 g3 g4 g5 g6
  have hcs := as_cells p w2
  have hb3 : Below w2.heap.size w2 (w2.alloc (.cells #[.iface 52 (.pointer (some (p 0))), .iface 52 (.pointer (some (p 1))), .iface 52 (.pointer (some (p 2))), .iface 52 (.pointer (some (p 3))), .iface 52 (.pointer (some (p 4))), .iface 52 (.pointer (some (p 5))), .iface 52 (.pointer (some (p 6)))] 25)) := (Below.refl _ _).alloc (Nat.le_refl _) _
  have hsz3 : (w2.alloc (.cells #[.iface 52 (.pointer (some (p 0))), .iface 52 (.pointer (some (p 1))), .iface 52 (.pointer (some (p 2))), .iface 52 (.pointer (some (p 3))), .iface 52 (.pointer (some (p 4))), .iface 52 (.pointer (some (p 5))), .iface 52 (.pointer (some (p 6)))] 25)).heap.size = w2.heap.size + 1 := by simp
  generalize w2.alloc (.cells #[.iface 52 (.pointer (some (p 0))), .iface 52 (.pointer (some (p 1))), .iface 52 (.pointer (some (p 2))), .iface 52 (.pointer (some (p 3))), .iface 52 (.pointer (some (p 4))), .iface 52 (.pointer (some (p 5))), .iface 52 (.pointer (some (p 6)))] 25) = w3 at hcs hb3 hsz3 ⊢
  have hW : w3.alloc (.cells #[.string ⟨#[116, 101, 120, 116]⟩, .string ⟨#[98, 111, 117, 110, 100]⟩, .string ⟨#[115, 104, 97, 112, 101]⟩, .string ⟨#[110, 97, 109, 101]⟩, .string ⟨#[112, 108, 97, 99, 101]⟩, .string ⟨#[102, 117, 108, 108]⟩, .string ⟨#[110, 111, 110, 101]⟩] 9) = w3.alloc (.cells nmA 9) := rfl
  rw [hW]
  clear hW
  have kN := new_blk w3 nmA 9
  have hb4 : Below w3.heap.size w3 (w3.alloc (.cells nmA 9)) := (Below.refl _ _).alloc (Nat.le_refl _) _
  have hsz4 : (w3.alloc (.cells nmA 9)).heap.size = w2.heap.size + 1 + 1 := by simp [hsz3]
  rw [hsz3] at kN
  generalize w3.alloc (.cells nmA 9) = w4 at kN hb4 hsz4 ⊢
  have hb34 : Below w2.heap.size w2 w4 := hb3.trans (hb4.mono hb3.size)
  have h4 := h2.below hb34
  have hb4' : Below w.heap.size w w4 := hb2'.trans (hb34.mono hb2'.size)
  have hE0 : ∀ k, k < 7 → w4.cell? ⟨w2.heap.size, k, none⟩ = some (.iface 52 (.pointer (some (p k)))) := fun k hk => (hb4.cell (p := ⟨w2.heap.size, k, none⟩) (by show w2.heap.size < _; omega)).trans (hcs k hk)
  have hN0 : ∀ k, k < 7 → w4.cell? ⟨w2.heap.size + 1, k, none⟩ = some (.string (nmL k)) := fun k hk => cell_blk kN (nmA_at k hk)
  have HE := Lib.hid hE0; have HN := Lib.hid hN0
  clear hE0 hN0
  clear hcs kN hb3 hb4 hb34 h2 hb2'
  go_loopw [6] (fun i wr => ∃ j : Nat, j ≤ 7 ∧ i = .int .i64 j ∧ Below w4.heap.size w4 wr) (fun i _ => 8 - (intOf i).toNat)
  case atStart => exact ⟨0, by omega, rfl, Below.refl _ _⟩
  case round =>
    obtain ⟨j, hj, rfl, hbr⟩ := hrel
    by_cases hjl : j < 7
    · have t1 : decide ((j : Int) < 7) = true := by simp; omega
      have r1 := (hbr.cell (p := ⟨w2.heap.size, j, none⟩) (by show w2.heap.size < _; omega)).trans (HE.out j hjl)
      have r2 := (hbr.cell (p := ⟨w2.heap.size + 1, j, none⟩) (by show w2.heap.size + 1 < _; omega)).trans (HN.out j hjl)
      have hEr := h4.below hbr
      go_wp2_with fail
      have hbA : Below wr.heap.size wr (wr.alloc (.cells #[.int .i64 7, .iface 52 (.pointer (some (p j)))] 32)) := (Below.refl _ _).alloc (Nat.le_refl _) _
      have kA := new_blk wr #[.int .i64 7, .iface 52 (.pointer (some (p j)))] 32
      generalize wr.alloc (.cells #[.int .i64 7, .iface 52 (.pointer (some (p j)))] 32) = W at hbA kA ⊢
      have hEA := hEr.below hbA
      have hrs := hbr.size
      have hAs := hbA.size
      refine (code_fault hEA.toErrs wr.heap.size 7 j hjl (cell_blk kA rfl) (cell_blk kA rfl)).mono ?_
      rintro e w5 ⟨rfl, hb5⟩
      have hE5 := hEA.below hb5
      have hb5' : Below wr.heap.size wr w5 := hbA.trans (hb5.mono hAs)
      have hb45 : Below w4.heap.size w4 w5 := hbr.trans (hb5'.mono hrs)
      have q1 := (hb5'.cell (p := ⟨w2.heap.size, j, none⟩) (by show w2.heap.size < _; omega)).trans r1
      have q2 := (hb5'.cell (p := ⟨w2.heap.size + 1, j, none⟩) (by show w2.heap.size + 1 < _; omega)).trans r2
      have hs5 : w2.heap.size + 1 < w5.heap.size := by have := hb5'.size; omega
      clear r1 r2 hEr hEA hbA kA hb5 hb5' hrs hAs hbr
      have hnm := nmL_size j
      have hcat : ((⟨#[110, 117, 114, 115, 101, 114, 121, 112, 121, 58, 32]⟩ : ByteArray) ++ nmL j).size ≤ 20 := by rw [ByteArray.size_append]; show 11 + _ ≤ _; omega
      have F1 : ∀ x : GrownOf w5, x.world.cell? ⟨w2.heap.size, j, none⟩ = some (.iface 52 (.pointer (some (p j)))) := fun x => (x.below.cell (p := ⟨w2.heap.size, j, none⟩) (by show w2.heap.size < _; omega)).trans q1
      have F2 : ∀ x : GrownOf w5, x.world.cell? ⟨w2.heap.size + 1, j, none⟩ = some (.string (nmL j)) := fun x => (x.below.cell (p := ⟨w2.heap.size + 1, j, none⟩) hs5).trans q2
      have F3 : ∀ x : GrownOf w5, ErrsM p x.world := fun x => hE5.below x.below
      have hmE := Tryd.methodErr
      haveI : Nonempty (GrownOf w5) := ⟨⟨w5, Below.refl _ _⟩⟩
      go_upto_region 12 with fail
      refine wp_region_quiet_in (C := fun w' => ∃ x : GrownOf w5, w' = x.world) (by kernel_rfl) (by kernel_rfl) ⟨⟨w5.drew, (Below.refl _ _).drew⟩, rfl⟩ ?_
      repeat (go_big_quiet_step (first
        | (go_at_call 127; refine (err_any (p j) ((⟨#[110, 117, 114, 115, 101, 114, 121, 112, 121, 58, 32]⟩ : ByteArray) ++ nmL j) _ ((F3 _).msg j hjl)).mono ?_; rintro e w' ⟨he, rfl⟩; exact ⟨he, _, rfl⟩)
        | (go_at_call 10; rename_i x; refine (coded_bare (F3 x).toErrs j hjl).mono ?_; rintro e w' ⟨he, hb⟩; exact ⟨he, ⟨w', x.below.trans (hb.mono x.below.size)⟩, rfl⟩)))
      refine wpQuiet_nil ?_
      intro _ hw'
      obtain ⟨x, rfl⟩ := hw'
      have hbx : Below w4.heap.size w4 x.world := hb45.trans (x.below.mono hb45.size)
      generalize x.world = W6 at hbx ⊢
      go_wp2_with fail
      go_roundw
      case rel => exact ⟨j + 1, by omega, by go_num, hbx⟩
      case measure => simp [intOf]; omega
    · have hj7 : j = 7 := by omega
      subst hj7
      have hEr := h4.below hbr
      have hbw : Below w.heap.size w wr := hb4'.trans (hbr.mono hb4'.size)
      go_wp2_with fail
      refine (new_any ⟨#[97, 110, 111, 116, 104, 101, 114, 32, 111, 110, 101]⟩ wr).mono ?_
      rintro e w5 ⟨rfl, hw5⟩
      have kA : w5.heap[wr.heap.size]? = some (.cells #[.string ⟨#[97, 110, 111, 116, 104, 101, 114, 32, 111, 110, 101]⟩] 54 (0, 0)) := by rw [hw5]; exact new_blk _ _ _
      have hb5 : Below wr.heap.size wr w5 := by rw [hw5]; exact (Below.refl _ _).alloc (Nat.le_refl _) _
      clear hw5
      have hE5 := hEr.below hb5
      have hne : ∀ k, k < 7 → k < 7 → (⟨wr.heap.size, 0, none⟩ : Addr) ≠ p k := by
        intro k hk _ e
        have h1 := World.block_lt_of_cell? wr _ (hEr.msg k hk)
        rw [← e] at h1
        exact Nat.lt_irrefl _ h1
      go_wp2_with fail
      refine (code_bare hE5.toErrs ⟨wr.heap.size, 0, none⟩ 7 (Nat.le_refl _) hne (fun h => absurd h (by omega)) ⟨_, _, kA⟩ (-1) rfl).mono ?_
      rintro e w6 ⟨rfl, hb6⟩
      go_wp2_with fail
      refine (coded_nil w6).mono ?_
      rintro e w7 ⟨rfl, hb7⟩
      go_wp2_with fail
      refine bodyPost_ret (results_tmp rfl _ _ _) rfl ?_
      have hb5' := hbw.trans (hb5.mono hbw.size)
      have hb6' := hb5'.trans (hb6.mono hb5'.size)
      exact ⟨rfl, hb6'.trans (hb7.mono hb6'.size)⟩

end Go.Proofs.YtdoaeapahgmfoaaDoor
