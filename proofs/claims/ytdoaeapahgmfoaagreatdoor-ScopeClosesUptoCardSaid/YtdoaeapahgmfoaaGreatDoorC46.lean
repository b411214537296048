/- scope.Scopes, the second loop, in parts. -/
import Derived.Test.YtdoaeapahgmfoaaGreatDoorC45
namespace Go.Proofs.YtdoaeapahgmfoaaGreatDoor
open Go.RowKit
theorem Tryz.infoScope : (Tryz.prog.info? 38).map (fun i => (i.zero, i.size, i.bytes)) = some (some (.agg #[.string ⟨#[]⟩, .int .i64 0, .int .i64 0, .slice none 0 0, .slice none 0 0, .slice none 0 0]), 6, 104) := by kernel_rfl
/-- slices.Sort of a row of texts. -/
theorem sort_any {w : World} {B : Nat} {v : Value} {l : List (List UInt8)} (h : w.ownsRow B 9 1 v l.length (strCs l)) (hl : l.length ≤ 50000000) :
    Calls Tryz.prog 42 #[v] w fun e w' => e = .returned (.tuple #[]) ∧ w.grownBy w' v.ownBlock ∧ w'.ownsRow B 9 1 v (l.mergeSort leL).length (strCs (l.mergeSort leL)) := by
  have hlen : (l.mergeSort leL).length = l.length := List.length_mergeSort l
  rcases h.2 with ⟨rfl, h0⟩ | ⟨g, cap, cur, rfl, hB, hg, hn, hc, hsz, ht⟩
  · refine (Tryz.slices_Sort_string_none none 0 w).mono ?_
    rintro e w' ⟨rfl, rfl⟩
    have e0 : l = [] := List.eq_nil_of_length_eq_zero h0
    subst e0
    refine ⟨rfl, ⟨rfl, rfl, rfl, Nat.le_refl _, fun _ _ _ => rfl⟩, ?_⟩
    rw [show ([] : List (List UInt8)).mergeSort leL = [] from List.eq_nil_of_length_eq_zero hlen]
    exact World.ownsRow_nil _ _ _ _
  · have hH : Go.Sort.Holds Go.Proofs.encStr w g 0 l.toArray := holds_of_block hg (by
      have := ht
      rw [Nat.mul_one] at this
      exact this)
    refine (Tryz.slices_Sort_string g 0 cap l w hH (lt_of_blk hg) (by omega)).mono ?_
    rintro e w' ⟨rfl, n, os, rfl⟩
    have hos := ownsRow_sorted (n := n) (os := os) (ts := l.mergeSort leL) (ss := l) hlen hB hg hn hc hsz
    refine ⟨rfl, grownBy_sorted _, ?_⟩
    rw [hlen]
    exact hos
def locQ (i : Nat) (cs b : List (List UInt8)) : List (List UInt8) := if i = 0 then [] else b.filter fun n => !cs.contains n
def celQ (i : Nat) (cs b : List (List UInt8)) : List (List UInt8) := if i = 0 then [] else b.filter fun n => cs.contains n
theorem locQ_snoc (i : Nat) (cs b : List (List UInt8)) (q : Nat) (hq : q < b.length) : locQ i cs (b.take (q + 1)) = locQ i cs (b.take q) ++ (if i = 0 then [] else if cs.contains b[q] then [] else [b[q]]) := by
  unfold locQ
  rw [List.take_succ_eq_append_getElem hq]
  split
  · rfl
  · rw [List.filter_append]
    congr 1
    rcases h : cs.contains b[q] with _ | _
    · rw [List.filter_cons_of_pos (by rw [h]; rfl)]; rfl
    · rw [List.filter_cons_of_neg (by rw [h]; decide)]; rfl
theorem celQ_snoc (i : Nat) (cs b : List (List UInt8)) (q : Nat) (hq : q < b.length) : celQ i cs (b.take (q + 1)) = celQ i cs (b.take q) ++ (if i = 0 then [] else if cs.contains b[q] then [b[q]] else []) := by
  unfold celQ
  rw [List.take_succ_eq_append_getElem hq]
  split
  · rfl
  · rw [List.filter_append]
    congr 1
    rcases h : cs.contains b[q] with _ | _
    · rw [List.filter_cons_of_neg (by rw [h]; decide)]; rfl
    · rw [List.filter_cons_of_pos (by rw [h])]; rfl
theorem locQ_len (i : Nat) (cs b : List (List UInt8)) : (locQ i cs b).length ≤ b.length := by
  unfold locQ
  split
  · exact Nat.zero_le _
  · exact List.length_filter_le _ _
theorem celQ_len (i : Nat) (cs b : List (List UInt8)) : (celQ i cs b).length ≤ b.length := by
  unfold celQ
  split
  · exact Nat.zero_le _
  · exact List.length_filter_le _ _
theorem scF_eq (fr : List Fr) (C : CF) (i : Nat) : scF fr C i = ⟨(fr.getD i dfr).around, (fr.getD i dfr).params, locQ i (C.cells.getD i []) (fr.getD i dfr).bound, celQ i (C.cells.getD i []) (fr.getD i dfr).bound, (C.frees.getD i []).mergeSort leL⟩ := rfl
/-- A step of the second loop: of what was there only the free names' rows. -/
structure KStp (cc : Cl2) (w w' : World) : Prop where
  os : w'.os = w.os
  tape : w'.tape = w.tape
  output : w'.output = w.output
  size : w.heap.size ≤ w'.heap.size
  keep : ∀ b, b < w.heap.size → (∀ j, cc b ≠ some (2, j + 1)) → w'.heap[b]? = w.heap[b]?
theorem KStp.refl (cc : Cl2) (w : World) : KStp cc w w := ⟨rfl, rfl, rfl, Nat.le_refl _, fun _ _ _ => rfl⟩
/-- The new scope's box, while names are dealt out. -/
structure ScBx (wA w : World) (bs : Nat) (nm : ByteArray) (ar : Int) (pr : Nat) (ll lc : List (List UInt8)) (vL vC : Value) : Prop where
  blk : w.heap[bs]? = some (.cells #[.string nm, .int .i64 ar, .int .i64 (pr : Int), vL, vC, .slice none 0 0] 38 (0, 0))
  oL : w.ownsRow (bs + 1) 9 1 vL ll.length (strCs ll)
  oC : w.ownsRow (bs + 1) 9 1 vC lc.length (strCs lc)
  ne : ∀ b, vL.ownBlock = some b → vC.ownBlock ≠ some b
  stp : YStp bs wA w
section
variable {wA w w1 : World} {bs : Nat} {nm : ByteArray} {ar : Int} {pr : Nat} {ll lc : List (List UInt8)} {vL vC : Value}
/-- A local name more. -/
theorem ScBx.putL (h : ScBx wA w bs nm ar pr ll lc vL vC) (hA : wA.heap.size = bs + 1) {g cap : Nat} {n : List UInt8} {ob : Obj} (hg : (w.alloc ob).grownBy w1 vL.ownBlock) (hown : w1.ownsRow (bs + 1) 9 1 (.slice (some ⟨g, 0, none⟩) (ll.length + 1) cap) (ll.length + 1) (strCs ll ++ [.string (toBA n)]))
    (hat : vL.ownBlock = some g ∨ g = w.heap.size + 1) : ScBx wA (w1.setCell ⟨bs, 3, none⟩ (.slice (some ⟨g, 0, none⟩) (ll.length + 1) cap)) bs nm ar pr (ll ++ [n]) lc (.slice (some ⟨g, 0, none⟩) (ll.length + 1) cap) vC := by
  have hbs := lt_of_blk h.blk
  have hgb : bs + 1 ≤ g := (hown.lt g rfl).1
  have hn1 : some bs ≠ vL.ownBlock := fun e => by have := (h.oL.lt bs e.symm).1; omega
  have hk : ∀ b, b < w.heap.size → some b ≠ vL.ownBlock → w1.heap[b]? = w.heap[b]? := fun b hb hne => (hg.block b (by simp; omega) hne).trans (Below.heap_alloc _ _ _ hb)
  have hCb : ∀ b, vC.ownBlock = some b → w1.heap[b]? = w.heap[b]? := fun b e => hk b (h.oC.lt b e).2 fun e2 => h.ne b e2.symm e
  have hsz := hg.size
  simp at hsz
  refine ⟨?_, ?_, ?_, fun b e => ?_, ?_⟩
  · exact heap_setCell_at (o := 3) ((hk bs hbs hn1).trans h.blk)
  · have : (ll ++ [n]).length = ll.length + 1 := by simp
    rw [this, strCs_snoc]
    exact ownsRow_setCell hown (by intro e; have e1 : g = bs := Option.some.inj e; omega)
  · exact ownsRow_setCell (own_same h.oC hCb) (fun e => by have := (h.oC.lt bs e).1; omega)
  · have e1 : g = b := Option.some.inj e
    subst e1
    intro e2
    rcases hat with h1 | h1
    · exact h.ne g h1 e2
    · have := (h.oC.lt g e2).2; omega
  · refine ⟨hg.os.trans h.stp.os, hg.tape.trans h.stp.tape, hg.output.trans h.stp.output, by have := h.stp.size; simp; omega, fun b hb hne => ?_⟩
    refine (Below.heap_setCell _ _ _ _ hne).trans ((hk b (by have := h.stp.size; omega) fun e => ?_).trans (h.stp.keep b hb hne))
    have := (h.oL.lt b e.symm).1
    omega
/-- A cell more. -/
theorem ScBx.putC (h : ScBx wA w bs nm ar pr ll lc vL vC) (hA : wA.heap.size = bs + 1) {g cap : Nat} {n : List UInt8} {ob : Obj} (hg : (w.alloc ob).grownBy w1 vC.ownBlock) (hown : w1.ownsRow (bs + 1) 9 1 (.slice (some ⟨g, 0, none⟩) (lc.length + 1) cap) (lc.length + 1) (strCs lc ++ [.string (toBA n)]))
    (hat : vC.ownBlock = some g ∨ g = w.heap.size + 1) : ScBx wA (w1.setCell ⟨bs, 4, none⟩ (.slice (some ⟨g, 0, none⟩) (lc.length + 1) cap)) bs nm ar pr ll (lc ++ [n]) vL (.slice (some ⟨g, 0, none⟩) (lc.length + 1) cap) := by
  have hbs := lt_of_blk h.blk
  have hgb : bs + 1 ≤ g := (hown.lt g rfl).1
  have hn1 : some bs ≠ vC.ownBlock := fun e => by have := (h.oC.lt bs e.symm).1; omega
  have hk : ∀ b, b < w.heap.size → some b ≠ vC.ownBlock → w1.heap[b]? = w.heap[b]? := fun b hb hne => (hg.block b (by simp; omega) hne).trans (Below.heap_alloc _ _ _ hb)
  have hLb : ∀ b, vL.ownBlock = some b → w1.heap[b]? = w.heap[b]? := fun b e => hk b (h.oL.lt b e).2 fun e2 => h.ne b e e2.symm
  have hsz := hg.size
  simp at hsz
  refine ⟨?_, ?_, ?_, fun b e => ?_, ?_⟩
  · exact heap_setCell_at (o := 4) ((hk bs hbs hn1).trans h.blk)
  · exact ownsRow_setCell (own_same h.oL hLb) (fun e => by have := (h.oL.lt bs e).1; omega)
  · have : (lc ++ [n]).length = lc.length + 1 := by simp
    rw [this, strCs_snoc]
    exact ownsRow_setCell hown (by intro e; have e1 : g = bs := Option.some.inj e; omega)
  · intro e2
    have e1 : g = b := Option.some.inj e2
    subst e1
    rcases hat with h1 | h1
    · exact h.ne g e h1
    · have := (h.oL.lt g e).2; omega
  · refine ⟨hg.os.trans h.stp.os, hg.tape.trans h.stp.tape, hg.output.trans h.stp.output, by have := h.stp.size; simp; omega, fun b hb hne => ?_⟩
    refine (Below.heap_setCell _ _ _ _ hne).trans ((hk b (by have := h.stp.size; omega) fun e => ?_).trans (h.stp.keep b hb hne))
    have := (h.oC.lt b e.symm).1
    omega
end
theorem ScBx.init {wr : World} {nm : ByteArray} {ar : Int} {pr : Nat} : ScBx (wr.alloc (.cells #[.string nm, .int .i64 ar, .int .i64 (pr : Int), .slice none 0 0, .slice none 0 0, .slice none 0 0] 38)) (wr.alloc (.cells #[.string nm, .int .i64 ar, .int .i64 (pr : Int), .slice none 0 0, .slice none 0 0, .slice none 0 0] 38)) wr.heap.size nm ar pr [] [] (.slice none 0 0) (.slice none 0 0) :=
  ⟨heap_alloc_new wr _, World.ownsRow_nil _ _ _ _, World.ownsRow_nil _ _ _ _, (fun b e => by cases e), YStp.refl _ _⟩
theorem KStp.below {cc : Cl2} {w w' : World} {B t1 t2 : Nat} {C : CF} {v1 v2 : Nat → Value} (h : KStp cc w w') (ht : Tb2 w B t1 t2 cc C v1 v2) (hB : B ≤ w.heap.size) : Below B w w' :=
  ⟨h.os, h.tape, h.output, h.size, fun b hb => h.keep b (by omega) fun j e => by rw [ht.below hb] at e; cases e⟩
/-- The free names of a scope, in order, where they lie. -/
theorem strs_col {w : World} {B t1 t2 i : Nat} {cc : Cl2} {C : CF} {v1 v2 : Nat → Value} (h : Tb2 w B t1 t2 cc C v1 v2) (hi : i < C.frees.length) : StrsAt w (fun b => cc b = some (2, i + 1)) (v2 i) (C.frees.getD i []) := by
  have hcr := h.b.cr i hi
  obtain ⟨a, c, hv, hc, hr⟩ := row_slice (h.b.own i hi)
  refine ⟨a, c, hv, hc, fun hp => ?_⟩
  obtain ⟨b, o, ha, _, hz⟩ := hr hp
  exact ⟨b, o, ha, hcr b (by rw [hv, ha]; rfl), hz⟩
/-- What is done of the scopes, in which blocks. -/
structure DOk (W wc wr : World) (cc : Cl2) (vo : Value) (i : Nat) (D : Nat → Prop) : Prop where
  own : ∀ b, vo.ownBlock = some b → wc.heap.size ≤ b ∧ b < wr.heap.size
  d : ∀ b, D b → W.heap.size ≤ b ∧ b < wr.heap.size ∧ vo.ownBlock ≠ some b ∧ (wc.heap.size ≤ b ∨ ∃ j, j < i ∧ cc b = some (2, j + 1))
/-- The blocks that are done behind a scope more. -/
def Dn (cc : Cl2) (D : Nat → Prop) (i bs S : Nat) (vo' : Value) : Nat → Prop := fun b => D b ∨ (bs ≤ b ∧ b < S ∧ vo'.ownBlock ≠ some b) ∨ cc b = some (2, i + 1)
end Go.Proofs.YtdoaeapahgmfoaaGreatDoor
