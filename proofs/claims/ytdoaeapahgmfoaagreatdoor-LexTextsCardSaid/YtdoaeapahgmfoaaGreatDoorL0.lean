/- The lexer in memory: what its cells hold, what a call of one of its methods leaves alone. -/
import Derived.Test.YtdoaeapahgmfoaaGreatDoorA1
import Derived.BigQuiet
import Derived.Deep.QuietTactic
import Derived.StillTailTactics
import Derived.Deep.RegionHeld3
import Derived.Deep.AppendLies
import Derived.WalkSmall
namespace Go.Proofs.YtdoaeapahgmfoaaGreatDoor
open Go.RowKit

/-- A token, as plain data. -/
structure Tok where
  kind : List UInt8
  text : List UInt8
  at_ : Nat
  deriving DecidableEq

/-- A text's value. -/
def S (l : List UInt8) : Value := .string ⟨l.toArray⟩
theorem S_def (s : ByteArray) : S s.data.toList = .string s := rfl

def Tok.cells (t : Tok) : List Value := [S t.kind, S t.text, .int .i64 t.at_]
def tokCells : List Tok → List Value
  | [] => []
  | t :: l => t.cells ++ tokCells l
theorem tokCells_append (a b : List Tok) : tokCells (a ++ b) = tokCells a ++ tokCells b := by
  induction a with
  | nil => rfl
  | cons t a ih => simp [tokCells, ih]
theorem tokCells_length (a : List Tok) : (tokCells a).length = a.length * 3 := by
  induction a with
  | nil => rfl
  | cons t a ih => simp [tokCells, ih, Tok.cells]; omega
def intCells (l : List Nat) : List Value := l.map fun n : Nat => Value.int .i64 (n : Int)
theorem intCells_append (a b : List Nat) : intCells (a ++ b) = intCells a ++ intCells b := by simp [intCells]

/-- The lexer at block x. -/
structure LexC (w : World) (x : Nat) (s : ByteArray) (i : Nat) (vo vp : Value) (ts : List Tok) (os : List Nat) : Prop where
  blk : w.heap[x]? = some (.cells #[.string s, .int .i64 i, vo, vp] 112 (0, 0))
  out : w.ownsRow (x - 1) 104 3 vo ts.length (tokCells ts)
  opn : w.ownsRow (x - 1) 3 1 vp os.length (intCells os)

/-- A block that is not the lexer's. -/
def Safe (w : World) (x k : Nat) : Prop :=
  k < w.heap.size ∧ k ≠ x ∧ ∀ s i vo vp T, w.heap[x]? = some (.cells #[s, i, vo, vp] T (0, 0)) → vo.ownBlock ≠ some k ∧ vp.ownBlock ≠ some k

/-- What a call of a method of the lexer at x leaves alone. -/
structure Stp (x : Nat) (w w' : World) : Prop where
  os : w'.os = w.os
  tape : w'.tape = w.tape
  output : w'.output = w.output
  size : w.heap.size ≤ w'.heap.size
  safe : ∀ k, Safe w x k → Safe w' x k ∧ w'.heap[k]? = w.heap[k]?

theorem Stp.refl (x : Nat) (w : World) : Stp x w w := ⟨rfl, rfl, rfl, Nat.le_refl _, fun _ h => ⟨h, rfl⟩⟩
theorem Stp.trans {x : Nat} {a b c : World} (h : Stp x a b) (k : Stp x b c) : Stp x a c :=
  ⟨k.os.trans h.os, k.tape.trans h.tape, k.output.trans h.output, Nat.le_trans h.size k.size, fun n hn =>
    let h1 := h.safe n hn; let h2 := k.safe n h1.1; ⟨h2.1, h2.2.trans h1.2⟩⟩
theorem Stp.cell {x : Nat} {w w' : World} (h : Stp x w w') {a : Addr} (hs : Safe w x a.block) : w'.cell? a = w.cell? a :=
  World.cell?_of_block (h.safe _ hs).2
theorem Stp.frozen {x : Nat} {w w' : World} (h : Stp x w w') {a : Addr} (hs : Safe w x a.block) : w'.frozen? a = w.frozen? a :=
  World.frozen?_of_block (h.safe _ hs).2

/-- What is below the lexer is safe. -/
theorem LexC.safe_below {w : World} {x : Nat} {s : ByteArray} {i : Nat} {vo vp : Value} {ts : List Tok} {os : List Nat} (h : LexC w x s i vo vp ts os) {k : Nat} (hk : k < x - 1) : Safe w x k := by
  have hx : x < w.heap.size := by
    have := h.blk
    rcases Nat.lt_or_ge x w.heap.size with h1 | h1
    · exact h1
    · simp [Array.getElem?_eq_none h1] at this
  refine ⟨by omega, by omega, ?_⟩
  intro s' i' vo' vp' T hh
  rw [h.blk] at hh
  injection hh with hh
  injection hh with hh _
  simp only [Array.mk.injEq, List.cons.injEq, and_true] at hh
  obtain ⟨_, _, rfl, rfl⟩ := hh
  refine ⟨?_, ?_⟩
  · intro hb; have := h.out.lt k hb; omega
  · intro hb; have := h.opn.lt k hb; omega

theorem Stp.below {w w' : World} {x : Nat} {s : ByteArray} {i : Nat} {vo vp : Value} {ts : List Tok} {os : List Nat} (h : LexC w x s i vo vp ts os) (hs : Stp x w w') : Below (x - 1) w w' :=
  ⟨hs.os, hs.tape, hs.output, hs.size, fun k hk => (hs.safe k (h.safe_below hk)).2⟩

theorem heap_setCell_at {w : World} {b o : Nat} {cs : Array Value} {T : TypeId} {v : Value} (h : w.heap[b]? = some (.cells cs T (0, 0))) :
    (w.setCell ⟨b, o, none⟩ v).heap[b]? = some (.cells (cs.setIfInBounds o v) T (0, 0)) := by
  simp [World.setCell, Array.getElem?_modify, h]
theorem cell_of_blk {w : World} {b o : Nat} {cs : Array Value} {T : TypeId} (h : w.heap[b]? = some (.cells cs T (0, 0))) : w.cell? ⟨b, o, none⟩ = cs[o]? := by
  simp [World.cell?, h]
theorem frozen_of_blk {w : World} {b o : Nat} {cs : Array Value} {T : TypeId} (h : w.heap[b]? = some (.cells cs T (0, 0))) : w.frozen? ⟨b, o, none⟩ = false := by
  simp [World.frozen?, h]
theorem lt_of_blk {w : World} {b : Nat} {ob : Obj} (h : w.heap[b]? = some ob) : b < w.heap.size := by
  rcases Nat.lt_or_ge b w.heap.size with h1 | h1
  · exact h1
  · simp [Array.getElem?_eq_none h1] at h

section
variable {w w' w1 : World} {x i i' : Nat} {s : ByteArray} {vo vp vo' vp' : Value} {ts ts' : List Tok} {os os' : List Nat}

theorem LexC.c0 (h : LexC w x s i vo vp ts os) : w.cell? ⟨x, 0, none⟩ = some (.string s) := by rw [cell_of_blk h.blk]; rfl
theorem LexC.c1 (h : LexC w x s i vo vp ts os) : w.cell? ⟨x, 1, none⟩ = some (.int .i64 i) := by rw [cell_of_blk h.blk]; rfl
theorem LexC.c2 (h : LexC w x s i vo vp ts os) : w.cell? ⟨x, 2, none⟩ = some vo := by rw [cell_of_blk h.blk]; rfl
theorem LexC.c3 (h : LexC w x s i vo vp ts os) : w.cell? ⟨x, 3, none⟩ = some vp := by rw [cell_of_blk h.blk]; rfl
theorem LexC.f (h : LexC w x s i vo vp ts os) (o : Nat) : w.frozen? ⟨x, o, none⟩ = false := frozen_of_blk h.blk
theorem LexC.lt (h : LexC w x s i vo vp ts os) : x < w.heap.size := lt_of_blk h.blk

/-- The two rows lie in two blocks. -/
theorem LexC.apart (h : LexC w x s i vo vp ts os) {k : Nat} (h1 : vo.ownBlock = some k) (h2 : vp.ownBlock = some k) : False := by
  rcases h.out.2 with ⟨rfl, _⟩ | ⟨g, cap, cur, rfl, _, hg, _⟩
  · simp [Value.ownBlock] at h1
  rcases h.opn.2 with ⟨rfl, _⟩ | ⟨g', cap', cur', rfl, _, hg', _⟩
  · simp [Value.ownBlock] at h2
  simp only [Value.ownBlock, Option.some.injEq] at h1 h2
  subst h1; subst h2
  rw [hg] at hg'
  injection hg' with hh
  injection hh with _ hT _
  cases hT

theorem LexC.next (h : LexC w x s i vo vp ts os) (blk' : w'.heap[x]? = some (.cells #[.string s, .int .i64 i', vo', vp'] 112 (0, 0)))
    (out' : w'.ownsRow (x - 1) 104 3 vo' ts'.length (tokCells ts')) (opn' : w'.ownsRow (x - 1) 3 1 vp' os'.length (intCells os'))
    (hos : w'.os = w.os) (htape : w'.tape = w.tape) (hout : w'.output = w.output) (hsize : w.heap.size ≤ w'.heap.size)
    (keep : ∀ k, k < w.heap.size → k ≠ x → vo.ownBlock ≠ some k → vp.ownBlock ≠ some k → w'.heap[k]? = w.heap[k]?)
    (ho : ∀ k, vo'.ownBlock = some k → vo.ownBlock = some k ∨ w.heap.size ≤ k) (hp : ∀ k, vp'.ownBlock = some k → vp.ownBlock = some k ∨ w.heap.size ≤ k) :
    LexC w' x s i' vo' vp' ts' os' ∧ Stp x w w' := by
  refine ⟨⟨blk', out', opn'⟩, hos, htape, hout, hsize, ?_⟩
  intro k hk
  obtain ⟨hk1, hk2, hk3⟩ := hk
  have hk4 := hk3 _ _ _ _ _ h.blk
  refine ⟨⟨by omega, hk2, ?_⟩, keep k hk1 hk2 hk4.1 hk4.2⟩
  intro s' i'' vo'' vp'' T hh
  rw [blk'] at hh
  injection hh with hh
  injection hh with hh _
  simp only [Array.mk.injEq, List.cons.injEq, and_true] at hh
  obtain ⟨_, _, rfl, rfl⟩ := hh
  refine ⟨fun e => ?_, fun e => ?_⟩
  · rcases ho k e with e | e
    · exact hk4.1 e
    · omega
  · rcases hp k e with e | e
    · exact hk4.2 e
    · omega

/-- A row stays over a store into the lexer's own cells. -/
theorem ownsRow_setCell {B T sz n : Nat} {v : Value} {xs : List Value} (h : w.ownsRow B T sz v n xs) {b o : Nat} {u : Value} (hb : v.ownBlock ≠ some b) : (w.setCell ⟨b, o, none⟩ u).ownsRow B T sz v n xs := by
  refine ⟨h.1, ?_⟩
  rcases h.2 with h2 | ⟨g, cap, cur, rfl, h3, h4, h5⟩
  · exact .inl h2
  · refine .inr ⟨g, cap, cur, rfl, h3, ?_, h5⟩
    rw [Below.heap_setCell _ _ _ _ (by intro e; simp only at e; exact hb (by simp [Value.ownBlock, e]))]
    exact h4

theorem LexC.out_ne (h : LexC w x s i vo vp ts os) : vo.ownBlock ≠ some x := by
  intro e
  rcases h.out.2 with ⟨rfl, _⟩ | ⟨g, cap, cur, rfl, _, hg, _⟩
  · simp [Value.ownBlock] at e
  simp only [Value.ownBlock, Option.some.injEq] at e
  subst e
  have hb := h.blk
  rw [hg] at hb
  injection hb with hh
  injection hh with _ hT _
  cases hT
theorem LexC.opn_ne (h : LexC w x s i vo vp ts os) : vp.ownBlock ≠ some x := by
  intro e
  rcases h.opn.2 with ⟨rfl, _⟩ | ⟨g, cap, cur, rfl, _, hg, _⟩
  · simp [Value.ownBlock] at e
  simp only [Value.ownBlock, Option.some.injEq] at e
  subst e
  have hb := h.blk
  rw [hg] at hb
  injection hb with hh
  injection hh with _ hT _
  cases hT

/-- The place is moved on. -/
theorem LexC.setAt (h : LexC w x s i vo vp ts os) (j : Nat) : LexC (w.setCell ⟨x, 1, none⟩ (.int .i64 j)) x s j vo vp ts os ∧ Stp x w (w.setCell ⟨x, 1, none⟩ (.int .i64 j)) := by
  refine h.next ?_ (ownsRow_setCell h.out h.out_ne) (ownsRow_setCell h.opn h.opn_ne) rfl rfl rfl (by simp) ?_ (fun k e => .inl e) (fun k e => .inl e)
  · rw [heap_setCell_at h.blk]; rfl
  · intro k _ hk _ _
    exact Below.heap_setCell _ _ _ _ hk

theorem LexC.grown_out (h : LexC w x s i vo vp ts os) {ob : Obj} (hg : (w.alloc ob).grownBy w1 vo.ownBlock) : w1.heap[x]? = some (.cells #[.string s, .int .i64 i, vo, vp] 112 (0, 0)) := by
  rw [hg.block x (by have := h.lt; simp; omega) (Ne.symm h.out_ne), Below.heap_alloc _ _ _ h.lt, h.blk]
theorem LexC.grown_out2 (h : LexC w x s i vo vp ts os) {ob : Obj} (hg : (w.alloc ob).grownBy w1 vo.ownBlock) : w1.cell? ⟨x, 2, none⟩ = some vo ∧ w1.frozen? ⟨x, 2, none⟩ = false :=
  ⟨cell_of_blk (h.grown_out hg), frozen_of_blk (h.grown_out hg)⟩

theorem drewN_heap (w : World) (n : Nat) : (w.drewN n).heap = w.heap := rfl
theorem LexC.drewN (h : LexC w x s i vo vp ts os) (n : Nat) : LexC (w.drewN n) x s i vo vp ts os := ⟨h.blk, h.out, h.opn⟩
theorem Stp.drewN (x : Nat) (w : World) (n : Nat) : Stp x w (w.drewN n) := ⟨rfl, rfl, rfl, Nat.le_refl _, fun _ hk => ⟨hk, rfl⟩⟩

/-- A token more. -/
theorem LexC.putOut (h : LexC w x s i vo vp ts os) (t : Tok) {ob : Obj} {g cap : Nat}
    (hown : w1.ownsRow (x - 1) 104 3 (.slice (some ⟨g, 0, none⟩) (ts.length + 1) cap) (ts.length + 1) (tokCells ts ++ t.cells))
    (hg : (w.alloc ob).grownBy w1 vo.ownBlock) (hat : vo.ownBlock = some g ∨ g = w.heap.size + 1) :
    LexC (w1.setCell ⟨x, 2, none⟩ (.slice (some ⟨g, 0, none⟩) (ts.length + 1) cap)) x s i (.slice (some ⟨g, 0, none⟩) (ts.length + 1) cap) vp (ts ++ [t]) os ∧
    Stp x w (w1.setCell ⟨x, 2, none⟩ (.slice (some ⟨g, 0, none⟩) (ts.length + 1) cap)) := by
  have hx := h.lt
  have hgx : (Value.slice (some ⟨g, 0, none⟩) (ts.length + 1) cap).ownBlock ≠ some x := by
    intro e
    simp only [Value.ownBlock, Option.some.injEq] at e
    rcases hat with h2 | h2
    · exact h.out_ne (by rw [h2, e])
    · omega
  have hold : ∀ k, k < w.heap.size → vo.ownBlock ≠ some k → w1.heap[k]? = w.heap[k]? := by
    intro k hk hne
    rw [hg.block k (by simp; omega) (Ne.symm hne), Below.heap_alloc _ _ _ hk]
  have hopn1 : w1.ownsRow (x - 1) 3 1 vp os.length (intCells os) := by
    refine (h.opn.alloc ob).kept hg ?_
    rcases hvp : vp.ownBlock with _ | k
    · exact .inl rfl
    · right; intro e; exact h.apart e.symm hvp
  have hb1 : w1.heap[x]? = some (.cells #[.string s, .int .i64 i, vo, vp] 112 (0, 0)) := by rw [hold x hx h.out_ne, h.blk]
  refine h.next ?_ ?_ (ownsRow_setCell hopn1 h.opn_ne) hg.os hg.tape hg.output (by have := hg.size; simp at this ⊢; omega) ?_ ?_ (fun k e => .inl e)
  · rw [heap_setCell_at hb1]; rfl
  · have := ownsRow_setCell (o := 2) (u := .slice (some ⟨g, 0, none⟩) (ts.length + 1) cap) hown hgx
    rw [tokCells_append, List.length_append]
    simpa [tokCells] using this
  · intro k hk hne hne1 _
    rw [Below.heap_setCell _ _ _ _ hne, hold k hk hne1]
  · intro k e
    simp only [Value.ownBlock, Option.some.injEq] at e
    subst e
    rcases hat with e | e
    · exact .inl e
    · right; omega
end

theorem region_still_tail {P : Program} {id : Nat} {Q : Exit → Act → World → Prop} {a : Act} {w : World} {l : List Oper} (n : Nat) (hm : P.follows .mixedOrders = true) (hB : Region.lexTailB .any l.toArray n = true)
    (h : ∀ w1 : World, w1 = w.drewN 1 → wpStill P l.toArray w1 (fun a' => wpList P l.toArray Q (l.drop n) a' w1) (l.take n) a) : (Code.region id l.toArray true).wp P Q a w :=
  wp_region_still_tail n hm hB (h _ rfl)
end Go.Proofs.YtdoaeapahgmfoaaGreatDoor
