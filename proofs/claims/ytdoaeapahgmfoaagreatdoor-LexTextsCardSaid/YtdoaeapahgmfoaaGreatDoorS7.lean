/- Plain laws of a line as the document's lexer goes through it. -/
import Derived.Test.YtdoaeapahgmfoaaGreatDoorS6
namespace Go.Proofs.YtdoaeapahgmfoaaGreatDoor
open Go.RowKit

theorem nonl_is : (fun b : UInt8 => b.toNat != 10) = noNl := rfl
/-- The line's end. -/
def nlAt (l : List UInt8) (i : Nat) : Nat := spanL noNl l i
theorem nlAt_le {l : List UInt8} {i : Nat} (h : i ≤ l.length) : i ≤ nlAt l i ∧ nlAt l i ≤ l.length := spanL_le _ _ _ h
theorem nlAt_end {l : List UInt8} {i : Nat} (h : i ≤ l.length) : nlAt l i = l.length ∨ ∃ hlt : nlAt l i < l.length, l[nlAt l i] = 10 := by
  have hd := drop_spanL noNl l i
  rcases Nat.lt_or_ge (nlAt l i) l.length with hlt | hge
  · right
    refine ⟨hlt, ?_⟩
    rw [show spanL noNl l i = nlAt l i from rfl, List.drop_eq_getElem_cons hlt] at hd
    have h2 := List.head?_dropWhile_not noNl (l.drop i)
    rw [← hd] at h2
    have h1 : noNl l[nlAt l i] = false := h2
    unfold noNl at h1
    exact byte_of (by simpa using h1)
  · left; have := (nlAt_le h).2; omega
/-- Ahead of the end stands no newline. -/
theorem nlAt_no : ∀ (m : Nat) (l : List UInt8) (i k : Nat), k - i ≤ m → i ≤ k → k < nlAt l i → (hk : k < l.length) → noNl l[k] = true := by
  intro m
  induction m with
  | zero =>
    intro l i k hm hik hkn hk
    have : k = i := by omega
    subst this
    rcases h : noNl l[k] with _ | _
    · have := spanL_no noNl l k hk h
      unfold nlAt at hkn; omega
    · rfl
  | succ m ih =>
    intro l i k hm hik hkn hk
    rcases Nat.lt_or_ge i k with h' | h'
    · have hil : i < l.length := by omega
      rcases h : noNl l[i] with _ | _
      · have := spanL_no noNl l i hil h
        unfold nlAt at hkn; omega
      · have e := spanL_yes noNl l i hil h
        exact ih l (i + 1) k (by omega) (by omega) (by unfold nlAt at hkn ⊢; omega) hk
    · have : k = i := by omega
      subst this
      rcases h : noNl l[k] with _ | _
      · have := spanL_no noNl l k hk h
        unfold nlAt at hkn; omega
      · rfl
theorem nlAt_step {l : List UInt8} {i : Nat} (h : i < nlAt l i) (hi : i < l.length) : nlAt l (i + 1) = nlAt l i := by
  have hn := nlAt_no 0 l i i (by omega) (Nat.le_refl _) h hi
  exact (spanL_yes noNl l i hi hn).symm
theorem nlAt_between : ∀ (m : Nat) (l : List UInt8) (i k : Nat), k - i ≤ m → i ≤ k → k ≤ nlAt l i → i ≤ l.length → nlAt l k = nlAt l i := by
  intro m
  induction m with
  | zero => intro l i k hm hik _ _; have : k = i := by omega
            rw [this]
  | succ m ih =>
    intro l i k hm hik hkn hil
    rcases Nat.lt_or_ge i k with h' | h'
    · have hl := (nlAt_le hil).2
      have e := nlAt_step (l := l) (i := i) (by omega) (by omega)
      rw [← e]
      exact ih l (i + 1) k (by omega) (by omega) (by rw [e]; exact hkn) (by omega)
    · have : k = i := by omega
      rw [this]
theorem nlAt_self {l : List UInt8} {i : Nat} (h : i ≤ l.length) : nlAt l (nlAt l i) = nlAt l i :=
  nlAt_between _ l i (nlAt l i) (Nat.le_refl _) (nlAt_le h).1 (Nat.le_refl _) h

theorem blank35 {b : UInt8} (h : b.toNat = 35) : blankB b = false := by unfold blankB; rw [h]; rfl
/-- Behind blanks and a comment. -/
def skipK (l : List UInt8) (i : Nat) : Nat := commentL l (spanL blankB l i)
theorem endB_nl {l : List UInt8} {i : Nat} (h : i ≤ l.length) : endB l (nlAt l i) = true := by
  unfold endB
  rcases nlAt_end h with e | ⟨hlt, e⟩
  · rw [e, List.getElem?_eq_none (Nat.le_refl _)]
  · rw [List.getElem?_eq_getElem hlt, e]; rfl
theorem skipK_end {l : List UInt8} {i : Nat} (h : i ≤ l.length) : skipK l (nlAt l i) = nlAt l i := by
  unfold skipK
  rcases nlAt_end h with e | ⟨hlt, e⟩
  · rw [e, spanL_end _ _ _ (Nat.le_refl _)]
    unfold commentL; rw [List.getElem?_eq_none (Nat.le_refl _)]
  · have hs : spanL blankB l (nlAt l i) = nlAt l i := spanL_no _ _ _ hlt (by rw [e]; rfl)
    rw [hs]
    unfold commentL; rw [List.getElem?_eq_getElem hlt, e]; rfl
theorem skipK_hash {l : List UInt8} {i : Nat} (hi : i < l.length) (h : (l[i]).toNat = 35) : skipK l i = nlAt l i := by
  have hs : spanL blankB l i = i := spanL_no _ _ _ hi (by unfold blankB; rw [h]; rfl)
  unfold skipK
  rw [hs]
  unfold commentL
  rw [List.getElem?_eq_getElem hi]
  simp only [h, if_true]
  rfl
theorem skipK_blank {l : List UInt8} {i : Nat} (hi : i < l.length) (h : (l[i]).toNat = 32) : skipK l i = skipK l (i + 1) := by
  unfold skipK
  rw [spanL_yes blankB l i hi (by unfold blankB; rw [h]; rfl)]
theorem skipK_tok {l : List UInt8} {i : Nat} (hi : i < l.length) (h : (l[i]).toNat ≠ 32) (h2 : (l[i]).toNat ≠ 35) : skipK l i = i := by
  have hs : spanL blankB l i = i := spanL_no _ _ _ hi (by unfold blankB; simpa using h)
  unfold skipK
  rw [hs]
  unfold commentL
  rw [List.getElem?_eq_getElem hi]
  simp only [if_neg h2]
theorem endB_no {l : List UInt8} {i : Nat} (hi : i < l.length) (h : i < nlAt l i) : endB l i = false := by
  have hn := nlAt_no 0 l i i (by omega) (Nat.le_refl _) h hi
  unfold endB
  rw [List.getElem?_eq_getElem hi]
  unfold noNl at hn
  simpa using hn

/-- A token of the line's rest is a token of the text's rest. -/
theorem tokL_line {l : List UInt8} {i : Nat} (hi : i < l.length) (h : i < nlAt l i) : tokL ((l.drop i).take (nlAt l i - i)) = tokL (l.drop i) := by
  have hE : EndS (l.drop (nlAt l i)) := by
    rcases nlAt_end (l := l) (i := i) (by omega) with e | ⟨hlt, e⟩
    · left; rw [e]; exact List.drop_eq_nil_of_le (Nat.le_refl _)
    · right; exact ⟨l.drop (nlAt l i + 1), by rw [List.drop_eq_getElem_cons hlt, e]⟩
  have hsp : l.drop i = (l.drop i).take (nlAt l i - i) ++ l.drop (nlAt l i) := by
    have h1 := (List.take_append_drop (nlAt l i - i) (l.drop i)).symm
    rw [List.drop_drop, show i + (nlAt l i - i) = nlAt l i by omega] at h1
    exact h1
  rcases ha : (l.drop i).take (nlAt l i - i) with _ | ⟨c, a⟩
  · have hl := congrArg List.length ha
    have := (nlAt_le (l := l) (i := i) (by omega)).2
    simp at hl; omega
  · rw [ha] at hsp
    have := tokL_tail (TailV.nil hE) c a
    rw [List.nil_append] at this
    rw [hsp, this]

theorem popL_head (D b : Nat) : ∀ st : List Nat, (popL D b st).2.headD 0 ≤ D
  | [] => by simp [popL]
  | t :: r => by
    unfold popL
    split
    · exact popL_head D b r
    · simp only [List.headD_cons]; omega
theorem indL_head (D b : Nat) (st : List Nat) : (indL D b st).2.headD 0 ≤ D := by
  unfold indL
  split
  · simp
  · exact popL_head D b st

/-- A line without tokens. -/
theorem lineL_none {l : List UInt8} {at_ : Nat} (st : List Nat) (hat : at_ ≤ l.length) (h : spanL blankB l at_ = nlAt l at_ ∨ ∃ hlt : spanL blankB l at_ < l.length, (l[spanL blankB l at_]).toNat = 35) (hle : spanL blankB l at_ ≤ nlAt l at_) :
    lineL l at_ st = .ok ([], nlAt l at_ + 1, st) := by
  have hb := spanL_le blankB l at_ hat
  have hk : skipK l at_ = nlAt l at_ := by
    rcases h with h | ⟨hlt, h⟩
    · have h1 := skipK_end hat
      have e : skipK l at_ = commentL l (nlAt l at_) := by unfold skipK; rw [h]
      rw [e]
      rcases nlAt_end hat with e | ⟨hl, e⟩
      · unfold commentL; rw [List.getElem?_eq_none (by omega)]
      · unfold commentL; rw [List.getElem?_eq_getElem hl, e]; rfl
    · have h1 := skipK_hash hlt h
      have e : skipK l at_ = skipK l (spanL blankB l at_) := by
        have hs : spanL blankB l (spanL blankB l at_) = spanL blankB l at_ := spanL_no _ _ _ hlt (blank35 h)
        unfold skipK; rw [hs]
      rw [e, h1]
      exact nlAt_between _ l at_ _ (Nat.le_refl _) hb.1 hle hat
  unfold lineL
  rw [show commentL l (spanL blankB l at_) = skipK l at_ from rfl, hk, if_pos (endB_nl hat)]
/-- A line with tokens. -/
theorem lineL_some {l : List UInt8} {at_ i0 : Nat} (st : List Nat) (he : i0 = spanL blankB l at_) (hi : i0 < l.length) (hlt : i0 < nlAt l i0) (h35 : (l[i0]).toNat ≠ 35) :
    lineL l at_ st = if (indL (i0 - at_) i0 st).2.headD 0 ≠ i0 - at_ then .error i0 else match toksT l i0 with
      | .error e => .error e
      | .ok (ts, k) => .ok ((indL (i0 - at_) i0 st).1 ++ ts ++ [⟨kNewline, [], k⟩], k + 1, (indL (i0 - at_) i0 st).2) := by
  have hc : commentL l i0 = i0 := by
    unfold commentL; rw [List.getElem?_eq_getElem hi]; simp only [if_neg h35]
  unfold lineL
  rw [← he, hc, if_neg (by rw [endB_no hi hlt]; decide)]
  have hh := indL_head (i0 - at_) i0 st
  have e : toksL (l.length + 1) l i0 = toksT l i0 := toksL_fuel _ _ l i0 (by omega) (by omega) (by omega)
  rw [e]
  by_cases hd : (indL (i0 - at_) i0 st).2.headD 0 < i0 - at_
  · rw [if_pos hd, if_pos (by omega)]
  · rw [if_neg hd, if_neg (by omega)]
    rfl
theorem blank_nl {l : List UInt8} {at_ : Nat} : spanL blankB l at_ ≤ nlAt l at_ := by
  have key : ∀ r : List UInt8, (r.takeWhile blankB).length ≤ (r.takeWhile noNl).length := by
    intro r
    induction r with
    | nil => simp
    | cons c t ih =>
      rw [List.takeWhile_cons, List.takeWhile_cons]
      by_cases hb : blankB c = true
      · have hn : noNl c = true := by
          unfold blankB at hb; unfold noNl
          have : c.toNat = 32 := by simpa using hb
          rw [this]; rfl
        rw [if_pos hb, if_pos hn]
        simpa using ih
      · rw [if_neg hb]; simp
  have := key (l.drop at_)
  unfold nlAt spanL
  omega
end Go.Proofs.YtdoaeapahgmfoaaGreatDoor
