/- Small lemmas that several walks want. -/
import Derived.Test.YtdoaeapahgmfoaaGreatDoorQ1
import Derived.Test.YtdoaeapahgmfoaaGreatDoorB1
import Derived.Test.YtdoaeapahgmfoaaGreatDoorW1
import Derived.BigQuiet
import Derived.Deep.DeepCutAuto
namespace Go.Proofs.YtdoaeapahgmfoaaGreatDoor
open Go.RowKit

theorem m_wrap (k : Nat) (h : k ≤ 100000) : IntKind.i64.wrap (k : Int) = (k : Int) := IntWalk.i64_in _ (by omega)
theorem m_toList (l : List UInt8) : (toBA l).toList = l := by rw [ByteArray.toList_eq]; rfl
theorem m_ne {a b : List UInt8} (h : ¬ a = b) : ((toBA a).toList == b) = false := by rw [m_toList]; simp [h]
theorem m_drewN {B : Nat} {a w : World} (h : Below B a w) (n : Nat) : Below B a (w.drewN n) := ⟨h.os, h.tape, h.output, h.size, h.block⟩
theorem m_row {w : World} {B T n : Nat} {v : Value} {xs : List Value} (h : w.ownsRow B T 1 v n xs) (hn : 0 < n) :
    ∃ g cap, v = .slice (some ⟨g, 0, none⟩) n cap ∧ B ≤ g ∧ g < w.heap.size ∧ n ≤ cap ∧ ∀ j, j < n → w.cell? ⟨g, j, none⟩ = xs[j]? := by
  rcases h.2 with ⟨_, h0⟩ | ⟨g, cap, cur, hv, hB, hg, hn', hc, hsz, htake⟩
  · omega
  refine ⟨g, cap, hv, hB, lt_of_blk hg, hn', fun j hj => ?_⟩
  rw [cell_of_blk hg]
  have h1 : (cur.toList.take (n * 1))[j]? = xs[j]? := by rw [htake]
  rw [List.getElem?_take_of_lt (by omega)] at h1
  rw [← h1, Array.getElem?_toList]

/-- The worlds that have grown out of one. -/
structure GrownOf (w0 : World) where
  world : World
  below : Below w0.heap.size w0 world
theorem m_region {P : Program} {C : World → Prop} {id : Nat} {Q : Exit → Act → World → Prop} {a : Act} {w : World} {l : List Oper} (hm : P.follows .mixedOrders = true) (hB : Region.lexB .any l.toArray = true)
    (hC : C { w with drawn := w.drawn + 1 }) (h : wpQuiet P l.toArray C (fun a' => ∀ w', C w' → Q .normal a' w') l a) : (Code.region id l.toArray true).wp P Q a w :=
  wp_region_quiet (C := C) hm hB hC (by simpa using h)
end Go.Proofs.YtdoaeapahgmfoaaGreatDoor
