/- What the document's LexOf holds: tokens, open indentations; how each step turns it; the tokens' loop in plain words. -/
import Derived.Test.YtdoaeapahgmfoaaGreatDoorS7
import Derived.Deep.AppendLies
namespace Go.Proofs.YtdoaeapahgmfoaaGreatDoor
open Go.RowKit

theorem Tryz.infoRTok : (Tryz.prog.info? 115).map (fun i => (i.zero, i.size, i.bytes)) = some (some (.agg #[.string ⟨#[]⟩, .string ⟨#[]⟩, .int .i64 0]), 3, 40) := by kernel_rfl

theorem tokCells_snoc : ∀ (ts : List Tok) (t : Tok), tokCells (ts ++ [t]) = tokCells ts ++ t.cells
  | [], t => by show t.cells ++ tokCells [] = tokCells [] ++ t.cells; simp [tokCells]
  | u :: r, t => by
    show u.cells ++ tokCells (r ++ [t]) = (u.cells ++ tokCells r) ++ t.cells
    rw [tokCells_snoc r t, List.append_assoc]
/-- Tokens so far (the last ones last), open indentations (the last one first). -/
structure RSt (w wr : World) (vo vp : Value) (ts : List Tok) (st : List Nat) : Prop where
  out : wr.ownsRow w.heap.size 115 3 vo ts.length (tokCells ts)
  opn : wr.ownsRow w.heap.size 3 1 vp st.reverse.length (intCells st.reverse)
  apart : ∀ k, vo.ownBlock = some k → vp.ownBlock ≠ some k
  below : Below w.heap.size w wr
theorem RSt.grow {w wr w' : World} {vo vp : Value} {ts : List Tok} {st : List Nat} (h : RSt w wr vo vp ts st) (hb : Below wr.heap.size wr w') : RSt w w' vo vp ts st :=
  ⟨own_below h.out hb, own_below h.opn hb, h.apart, h.below.trans (hb.mono h.below.size)⟩
/-- A token more. -/
theorem RSt.put {w wr w1 : World} {vo vp : Value} {ts : List Tok} {st : List Nat} {ob : Obj} (h : RSt w wr vo vp ts st) (t : Tok) {g cap : Nat}
    (hown : w1.ownsRow w.heap.size 115 3 (.slice (some ⟨g, 0, none⟩) (ts.length + 1) cap) (ts.length + 1) (tokCells ts ++ t.cells))
    (hg : (wr.alloc ob).grownBy w1 vo.ownBlock) (hat : vo.ownBlock = some g ∨ g = wr.heap.size + 1) :
    RSt w w1 (.slice (some ⟨g, 0, none⟩) (ts.length + 1) cap) vp (ts ++ [t]) st := by
  refine ⟨?_, ?_, ?_, below_app h.below h.out hg h.below.size⟩
  · have e : tokCells (ts ++ [t]) = tokCells ts ++ t.cells := tokCells_snoc ts t
    rw [e]
    simpa using hown
  · refine (h.opn.alloc ob).kept hg ?_
    rcases hvp : vp.ownBlock with _ | k
    · exact .inl rfl
    · right; intro e; exact h.apart k e.symm hvp
  · intro k hk e
    simp only [Value.ownBlock, Option.some.injEq] at hk
    subst hk
    rcases hat with h2 | h2
    · exact h.apart _ h2 e
    · have := (h.opn.lt _ e).2
      omega
/-- An indentation more. -/
theorem RSt.push {w wr w1 : World} {vo vp : Value} {ts : List Tok} {st : List Nat} {ob : Obj} (h : RSt w wr vo vp ts st) (D : Nat) {g cap : Nat}
    (hown : w1.ownsRow w.heap.size 3 1 (.slice (some ⟨g, 0, none⟩) (st.reverse.length + 1) cap) (st.reverse.length + 1) (intCells st.reverse ++ [.int .i64 (D : Int)]))
    (hg : (wr.alloc ob).grownBy w1 vp.ownBlock) (hat : vp.ownBlock = some g ∨ g = wr.heap.size + 1) :
    RSt w w1 vo (.slice (some ⟨g, 0, none⟩) (st.reverse.length + 1) cap) ts (D :: st) := by
  refine ⟨?_, ?_, ?_, below_app h.below h.opn hg h.below.size⟩
  · refine (h.out.alloc ob).kept hg ?_
    rcases hvo : vo.ownBlock with _ | k
    · exact .inl rfl
    · right; intro e; exact h.apart k hvo e.symm
  · have e : intCells (D :: st).reverse = intCells st.reverse ++ [.int .i64 (D : Int)] := by rw [List.reverse_cons, intCells_append]; rfl
    rw [e]
    simpa using hown
  · intro k hk e
    simp only [Value.ownBlock, Option.some.injEq] at e
    subst e
    rcases hat with h2 | h2
    · exact h.apart _ hk h2
    · have := (h.out.lt _ hk).2
      omega
/-- The last indentation. -/
theorem RSt.top {w wr : World} {vo vp : Value} {ts : List Tok} {t : Nat} {r : List Nat} (h : RSt w wr vo vp ts (t :: r)) :
    ∃ g cap, vp = .slice (some ⟨g, 0, none⟩) (r.length + 1) cap ∧ r.length + 1 ≤ cap ∧ g < wr.heap.size ∧ wr.cell? ⟨g, r.length, none⟩ = some (.int .i64 (t : Int)) := by
  have hl : (t :: r).reverse.length = r.length + 1 := by simp
  obtain ⟨g, cap, hv, _, hg, hcap, hc⟩ := m_row h.opn (by rw [hl]; omega)
  rw [hl] at hv hcap hc
  refine ⟨g, cap, hv, hcap, hg, ?_⟩
  rw [hc r.length (by omega)]
  simp [intCells]
/-- The last indentation is closed. -/
theorem RSt.pop {w wr : World} {vo : Value} {ts : List Tok} {t : Nat} {r : List Nat} {g cap : Nat} (h : RSt w wr vo (.slice (some ⟨g, 0, none⟩) (r.length + 1) cap) ts (t :: r)) :
    RSt w wr vo (.slice (some ⟨g, 0, none⟩) r.length cap) ts r := by
  refine ⟨h.out, ?_, fun k hk e => h.apart k hk (by simpa [Value.ownBlock] using e), h.below⟩
  have ho := h.opn
  have hl : (t :: r).reverse.length = r.reverse.length + 1 := by simp
  rw [hl, show (t :: r).reverse = r.reverse ++ [t] from by simp, intCells_append, show r.length = r.reverse.length from by simp] at ho
  have hp := ownsRow_pop (by simp [intCells]) ho
  simpa using hp

/-! The tokens' loop. -/
theorem rTok_start {l : List UInt8} {i : Nat} (hi : i < l.length) (h : (l[i]).toNat ≠ 32) (h2 : (l[i]).toNat ≠ 35) : TokRel l i (skipK l i) [] := by
  rw [skipK_tok hi h h2]; exact TokRel.start l i
theorem rTok_blank {l : List UInt8} {j i : Nat} {ts : List Tok} (h : TokRel l j (skipK l i) ts) (hi : i < l.length) (hb : (l[i]).toNat = 32) : TokRel l j (skipK l (i + 1)) ts := by
  rw [← skipK_blank hi hb]; exact h
theorem rTok_next {l : List UInt8} {j i n : Nat} {ts : List Tok} {kd tx : List UInt8} (h : TokRel l j (skipK l i) ts) (hi : i < l.length) (hn : i < nlAt l i) (hb : (l[i]).toNat ≠ 32) (h35 : (l[i]).toNat ≠ 35)
    (ht : tokL ((l.drop i).take (nlAt l i - i)) = some (kd, tx, n)) : TokRel l j (skipK l (i + n)) (ts ++ [⟨kd, tx, i⟩]) ∧ 0 < n ∧ i + n ≤ nlAt l i := by
  have hp := tokL_pos ht
  have hle := (nlAt_le (l := l) (i := i) (by omega)).2
  simp only [List.length_take, List.length_drop] at hp
  rw [tokL_line hi hn] at ht
  rw [skipK_tok hi hb h35] at h
  exact ⟨h.next (by omega) (endB_no hi hn) ht, hp.1, by omega⟩
theorem rTok_bad {l : List UInt8} {j i : Nat} {ts : List Tok} (h : TokRel l j (skipK l i) ts) (hi : i < l.length) (hn : i < nlAt l i) (hb : (l[i]).toNat ≠ 32) (h35 : (l[i]).toNat ≠ 35)
    (ht : tokL ((l.drop i).take (nlAt l i - i)) = none) : toksT l j = .error i := by
  rw [tokL_line hi hn] at ht
  rw [skipK_tok hi hb h35] at h
  exact h.bad (by omega) (endB_no hi hn) ht
theorem rTok_stop {l : List UInt8} {j i e : Nat} {ts : List Tok} (h : TokRel l j (skipK l i) ts) (hi : i ≤ l.length) (he : e = nlAt l i) (hs : i = e ∨ ∃ hlt : i < l.length, (l[i]).toNat = 35) : toksT l j = .ok (ts, e) := by
  have hk : skipK l i = e := by
    rcases hs with hs | ⟨hlt, hs⟩
    · have := skipK_end hi
      rw [← he, ← hs] at this
      rw [← hs]; exact this
    · rw [skipK_hash hlt hs, he]
  rw [hk] at h
  have hle := (nlAt_le hi).2
  refine h.stop (by omega) ?_
  rw [he]; exact endB_nl hi
end Go.Proofs.YtdoaeapahgmfoaaGreatDoor
