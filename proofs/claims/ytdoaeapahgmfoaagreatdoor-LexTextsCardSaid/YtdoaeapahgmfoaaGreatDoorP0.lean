/- Plain data of the language's words: words, ops, kinds; the token that begins a text. No program stands here but its name. -/
import Derived.Test.YtdoaeapahgmfoaaGreatDoorT1
import Derived.Lib.SlicesS
namespace Go.Proofs.YtdoaeapahgmfoaaGreatDoor
open Go.RowKit

/-- The words of the language. -/
def wordsL : List (List UInt8) := [[97, 110, 100], [98, 114, 101, 97, 107], [99, 111, 110, 116, 105, 110, 117, 101], [100, 101, 102], [100, 101, 108], [101, 108, 105, 102], [101, 108, 115, 101], [101, 120, 99, 101, 112, 116], [70, 97, 108, 115, 101], [102, 111, 114], [103, 108, 111, 98, 97, 108], [105, 102], [105, 110], [105, 115], [108, 97, 109, 98, 100, 97], [78, 111, 110, 101], [110, 111, 110, 108, 111, 99, 97, 108], [110, 111, 116], [111, 114], [112, 97, 115, 115], [114, 97, 105, 115, 101], [114, 101, 116, 117, 114, 110], [84, 114, 117, 101], [116, 114, 121], [119, 104, 105, 108, 101]]
/-- The ops of the language. -/
def opsL : List (List UInt8) := [[61, 61], [33, 61], [60, 61], [62, 61], [47, 47], [60], [62], [61], [43], [45], [42], [37], [40], [41], [91], [93], [123], [125], [44], [58], [46]]
def kName : List UInt8 := [110, 97, 109, 101]
def kWord : List UInt8 := [119, 111, 114, 100]
def kInt : List UInt8 := [105, 110, 116]
def kStr : List UInt8 := [115, 116, 114]
def kOp : List UInt8 := [111, 112]
def kNewline : List UInt8 := [110, 101, 119, 108, 105, 110, 101]
def kIndent : List UInt8 := [105, 110, 100, 101, 110, 116]
def kDedent : List UInt8 := [100, 101, 100, 101, 110, 116]
def kEnd : List UInt8 := [101, 110, 100]


def toBA (l : List UInt8) : ByteArray := ⟨l.toArray⟩
theorem toBA_list (l : List UInt8) : (toBA l).data.toList = l := rfl
theorem toBA_of (s : ByteArray) : toBA s.data.toList = s := rfl

def upB (b : UInt8) : Bool := decide (65 ≤ b.toNat ∧ b.toNat ≤ 90)
/-- Do digits parse as an int64? -/
def parsesInt (t : List UInt8) : Bool := match Lib.parseIntB 64 t with
  | .ok _ => true
  | _ => false

/-- The token that begins a text: kind, text, how many bytes. -/
def tokL (r : List UInt8) : Option (List UInt8 × List UInt8 × Nat) :=
  match r with
  | [] => none
  | c :: _ =>
    if lowB c = true ∨ upB c = true then
      if wordsL.contains (r.take (spanL wordB r 1)) then some (kWord, r.take (spanL wordB r 1), spanL wordB r 1)
      else if lowB c = true ∧ spanL wordB r 1 ≤ 16 then some (kName, r.take (spanL wordB r 1), spanL wordB r 1) else none
    else if digitB c = true then
      if parsesInt (r.take (spanL digitB r 0)) = true ∧ ¬ (1 < spanL digitB r 0 ∧ c.toNat = 48) then some (kInt, r.take (spanL digitB r 0), spanL digitB r 0) else none
    else if c.toNat = 34 then match unqS r with
      | some (t, n) => some (kStr, t, n)
      | none => none
    else match opsL.find? (fun o => o.isPrefixOf r) with
      | some o => some (kOp, o, o.length)
      | none => none

theorem spanL_drop (p : UInt8 → Bool) (l : List UInt8) (i j : Nat) : spanL p l (i + j) = i + spanL p (l.drop i) j := by
  unfold spanL; rw [List.drop_drop]; omega

/-- The program's own variables, below block B. -/
structure Glob (B : Nat) (w : World) : Prop where
  hB : 18 ≤ B
  words : ∃ b o c, w.cell? ⟨8, 0, none⟩ = some (.slice (some ⟨b, o, none⟩) 25 c) ∧ b < B ∧ ∀ j (hj : j < (wordsL.map toBA).length), w.cell? ⟨b, o + j, none⟩ = some (.string (wordsL.map toBA)[j])
  ops : ∃ b o c, w.cell? ⟨9, 0, none⟩ = some (.slice (some ⟨b, o, none⟩) 21 c) ∧ b < B ∧ ∀ j (hj : j < (opsL.map toBA).length), w.cell? ⟨b, o + j, none⟩ = some (.string (opsL.map toBA)[j])
  syn : ∃ te pe, w.cell? ⟨13, 0, none⟩ = some (.iface te pe)
  ran : ∃ te pe, w.cell? ⟨14, 0, none⟩ = some (.iface te pe)

theorem Glob.below {B : Nat} {w w' : World} (h : Glob B w) (hb : Below B w w') : Glob B w' := by
  have hB := h.hB
  refine ⟨h.hB, ?_, ?_, ?_, ?_⟩
  · obtain ⟨b, o, c, h1, h2, h3⟩ := h.words
    exact ⟨b, o, c, (hb.cell (p := ⟨8, 0, none⟩) (by show 8 < B; omega)).trans h1, h2, fun j hj => (hb.cell (p := ⟨b, o + j, none⟩) h2).trans (h3 j hj)⟩
  · obtain ⟨b, o, c, h1, h2, h3⟩ := h.ops
    exact ⟨b, o, c, (hb.cell (p := ⟨9, 0, none⟩) (by show 9 < B; omega)).trans h1, h2, fun j hj => (hb.cell (p := ⟨b, o + j, none⟩) h2).trans (h3 j hj)⟩
  · obtain ⟨te, pe, h1⟩ := h.syn
    exact ⟨te, pe, (hb.cell (p := ⟨13, 0, none⟩) (by show 13 < B; omega)).trans h1⟩
  · obtain ⟨te, pe, h1⟩ := h.ran
    exact ⟨te, pe, (hb.cell (p := ⟨14, 0, none⟩) (by show 14 < B; omega)).trans h1⟩
theorem Glob.stp {x : Nat} {w w' : World} {s : ByteArray} {i : Nat} {vo vp : Value} {ts : List Tok} {os : List Nat} (h : Glob (x - 1) w) (hl : LexC w x s i vo vp ts os) (hs : Stp x w w') : Glob (x - 1) w' := h.below (hs.below hl)

section
variable {w : World} {x i : Nat} {s : ByteArray} {vo vp : Value} {ts : List Tok} {os : List Nat}
theorem LexC.alloc (h : LexC w x s i vo vp ts os) (o : Obj) : LexC (w.alloc o) x s i vo vp ts os ∧ Stp x w (w.alloc o) := by
  refine h.next (by rw [Below.heap_alloc _ _ _ h.lt]; exact h.blk) (h.out.alloc o) (h.opn.alloc o) rfl rfl rfl (by simp) (fun k hk _ _ _ => Below.heap_alloc _ _ _ hk) (fun k e => .inl e) (fun k e => .inl e)
/-- A new block is safe. -/
theorem LexC.safe_new (h : LexC w x s i vo vp ts os) (o : Obj) : Safe (w.alloc o) x w.heap.size := by
  have h1 := (h.alloc o).1
  have hx := h.lt
  refine ⟨by simp, by omega, ?_⟩
  intro s' i' vo' vp' T hh
  rw [h1.blk] at hh
  injection hh with hh
  injection hh with hh _
  simp only [Array.mk.injEq, List.cons.injEq, and_true] at hh
  obtain ⟨_, _, rfl, rfl⟩ := hh
  exact ⟨fun e => by have := h.out.lt _ e; omega, fun e => by have := h.opn.lt _ e; omega⟩
/-- What only makes memory is a step. -/
theorem LexC.grow {w' : World} (h : LexC w x s i vo vp ts os) (hb : Below w.heap.size w w') : LexC w' x s i vo vp ts os ∧ Stp x w w' :=
  h.next (by rw [hb.block x h.lt]; exact h.blk) (own_below h.out hb) (own_below h.opn hb) hb.os hb.tape hb.output hb.size (fun k hk _ _ _ => hb.block k hk) (fun k e => .inl e) (fun k e => .inl e)
end
end Go.Proofs.YtdoaeapahgmfoaaGreatDoor
