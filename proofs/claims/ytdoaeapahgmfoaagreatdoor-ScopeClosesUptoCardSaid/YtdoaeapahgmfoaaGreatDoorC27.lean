/- How great the finder becomes: plain bounds. -/
import Derived.Test.YtdoaeapahgmfoaaGreatDoorC08
import Derived.Test.YtdoaeapahgmfoaaGreatDoorC24
namespace Go.Proofs.YtdoaeapahgmfoaaGreatDoor
open Go.RowKit
def Fr.row (x : Fr) : Nat → List (List UInt8)
  | 0 => x.bound
  | 1 => x.used
  | 2 => x.glob
  | _ => x.nonl
/-- All that the finder counts is small. -/
structure Sm (d : Fd) (N : Nat) : Prop where
  fr : d.fr.length ≤ N
  bad : d.bad.length ≤ N
  row : ∀ i k, ((d.fr.getD i dfr).row k).length ≤ N
  loops : ∀ i, (d.fr.getD i dfr).loops ≤ N
  lo : -1 ≤ d.stmt
  hi : d.stmt ≤ N
theorem Sm.mono {d : Fd} {N M : Nat} (h : Sm d N) (hN : N ≤ M) : Sm d M := ⟨by have := h.fr; omega, by have := h.bad; omega, fun i k => by have := h.row i k; omega, fun i => by have := h.loops i; omega, h.lo, by have := h.hi; omega⟩
theorem Sm.failIf {d : Fd} {N : Nat} (h : Sm d N) (b : Bool) : Sm (d.failIf b) (N + 1) := by
  refine ⟨by rw [fail_fr]; have := h.fr; omega, ?_, fun i k => by rw [fail_fr]; have := h.row i k; omega, fun i => by rw [fail_fr]; have := h.loops i; omega, ?_, ?_⟩
  · rw [fail_bad]
    have := h.bad
    split <;> simp <;> omega
  · have : (d.failIf b).stmt = d.stmt := by unfold Fd.failIf Fd.fail; split <;> rfl
    rw [this]; exact h.lo
  · have : (d.failIf b).stmt = d.stmt := by unfold Fd.failIf Fd.fail; split <;> rfl
    rw [this]; have := h.hi; omega
theorem Sm.set {d : Fd} {N M : Nat} (h : Sm d N) (hM : N ≤ M) (i : Nat) (f : Fr → Fr) (hr : ∀ k, ((f (d.fr.getD i dfr)).row k).length ≤ M) (hl : (f (d.fr.getD i dfr)).loops ≤ M) : Sm (d.set i f) M := by
  have h' := h.mono hM
  refine ⟨by simpa [Fd.set] using h'.fr, h'.bad, fun j k => ?_, fun j => ?_, h'.lo, h'.hi⟩
  · show (((d.fr.modify i f).getD j dfr).row k).length ≤ M
    rw [getD_modify]
    split
    · rename_i hc; obtain ⟨rfl, _⟩ := hc; exact hr k
    · exact h'.row j k
  · show ((d.fr.modify i f).getD j dfr).loops ≤ M
    rw [getD_modify]
    split
    · rename_i hc; obtain ⟨rfl, _⟩ := hc; exact hl
    · exact h'.loops j
theorem addL_len (l : List (List UInt8)) (s : List UInt8) : (addL l s).length ≤ l.length + 1 := by unfold addL; split <;> simp
/-- A row of a frame that gets a text more at most. -/
theorem Sm.setRow {d : Fd} {N : Nat} (h : Sm d N) (i : Nat) (f : Fr → Fr) (hr : ∀ x : Fr, ∀ k, ((f x).row k).length ≤ (x.row k).length + 1) (hl : ∀ x : Fr, (f x).loops = x.loops) : Sm (d.set i f) (N + 1) :=
  h.set (by omega) i f (fun k => by have := hr (d.fr.getD i dfr) k; have := h.row i k; omega) (by rw [hl]; have := h.loops i; omega)
theorem sm_openP : ∀ (ps b : List (List UInt8)) (d : Fd) (N : Nat), Sm d N → Sm (openP d b ps) (N + ps.length)
  | [], _, _, _, h => h
  | p :: r, b, d, N, h => by
    unfold openP
    have := sm_openP r (b ++ [p]) _ _ (h.failIf (b.contains p))
    refine this.mono ?_
    simp; omega
theorem Sm.open_ {d : Fd} {N : Nat} (h : Sm d N) (i : Int) (ps : List (List UInt8)) : Sm (d.open_ i ps) (N + ps.length + 1) := by
  have h1 := (sm_openP ps [] d N h).mono (Nat.le_succ _)
  unfold Fd.open_
  refine ⟨?_, h1.bad, fun j k => ?_, fun j => ?_, h1.lo, h1.hi⟩
  · have := (sm_openP ps [] d N h).fr; simp; omega
  · show ((((openP d [] ps).fr ++ [_]).getD j dfr).row k).length ≤ _
    rw [getD_snoc]
    split
    · match k with
      | 0 => show ps.length ≤ _; omega
      | 1 => exact Nat.zero_le _
      | 2 => exact Nat.zero_le _
      | _ + 3 => exact Nat.zero_le _
    · exact h1.row j k
  · show (((openP d [] ps).fr ++ [_]).getD j dfr).loops ≤ _
    rw [getD_snoc]
    split
    · exact Nat.zero_le _
    · exact h1.loops j
theorem Sm.bind {d : Fd} {N : Nat} (h : Sm d N) (i : Nat) (n : List UInt8) : Sm (d.bind i n) (N + 1) := by
  unfold Fd.bind
  split
  · exact h.mono (Nat.le_succ _)
  · refine h.setRow i _ (fun x k => ?_) fun _ => rfl
    match k with
    | 0 => exact addL_len _ _
    | 1 => exact Nat.le_succ _
    | 2 => exact Nat.le_succ _
    | _ + 3 => exact Nat.le_succ _
theorem sm_exs (f : Fd → Ex → Fd) : ∀ (l : List Ex) (_ : ∀ e ∈ l, ∀ N d, Sm d N → Sm (f d e) (N + 8 * e.bulk)) (N : Nat) (d : Fd), Sm d N → Sm (l.foldl f d) (N + 8 * exsBulk l)
  | [], _, N, d, h => by simpa [exsBulk] using h
  | e :: r, hf, N, d, h => by
    have h1 := hf e List.mem_cons_self N d h
    have h2 := sm_exs f r (fun a ha => hf a (List.mem_cons_of_mem _ ha)) _ _ h1
    refine h2.mono ?_
    show _ ≤ N + 8 * (e.bulk + exsBulk r)
    omega
theorem sm_stms (f : Fd → Stm → Fd) : ∀ (l : List Stm) (_ : ∀ e ∈ l, ∀ N d, Sm d N → Sm (f d e) (N + 8 * e.bulk)) (N : Nat) (d : Fd), Sm d N → Sm (l.foldl f d) (N + 8 * stmsBulk l)
  | [], _, N, d, h => by simpa [stmsBulk] using h
  | e :: r, hf, N, d, h => by
    have h1 := hf e List.mem_cons_self N d h
    have h2 := sm_stms f r (fun a ha => hf a (List.mem_cons_of_mem _ ha)) _ _ h1
    refine h2.mono ?_
    show _ ≤ N + 8 * (e.bulk + stmsBulk r)
    omega
theorem sm_use (d : Fd) (N i : Nat) (e : Ex) (h : Sm d N) : Sm (if e.op = oName then d.set i (fun x => { x with used := addL x.used e.s }) else d) (N + 1) := by
  split
  · refine h.setRow i _ (fun x k => ?_) fun _ => rfl
    match k with
    | 0 => exact Nat.le_succ _
    | 1 => exact addL_len _ _
    | 2 => exact Nat.le_succ _
    | _ + 3 => exact Nat.le_succ _
  · exact h.mono (Nat.le_succ _)
theorem sm_term : ∀ (f : Nat) (e : Ex) (i N : Nat) (d : Fd), Sm d N → Sm (termF f e i d) (N + 8 * e.bulk)
  | 0, _, _, _, _, h => h.mono (Nat.le_add_right _ _)
  | f + 1, e, i, N, d, h => by
    have hb := Ex.bulk_eq e
    have hp := strsBulk_len e.p
    have h1 := sm_use d N i e h
    unfold termF
    dsimp only
    generalize (if e.op = oName then d.set i (fun x => { x with used := addL x.used e.s }) else d) = d2 at h1 ⊢
    split
    · have h2 := sm_exs (fun a e => termF f e d2.fr.length a) e.l (fun a _ N d h => sm_term f a _ N d h) _ _ (h1.open_ i e.p)
      exact h2.mono (by omega)
    · have h2 := sm_exs (fun a e => termF f e i a) e.l (fun a _ N d h => sm_term f a _ N d h) _ _ h1
      exact h2.mono (by omega)
theorem sm_said (i : Nat) (g : Bool) : ∀ (ps : List (List UInt8)) (N : Nat) (d : Fd), Sm d N → Sm (saidF d i g ps) (N + 2 * ps.length)
  | [], _, _, h => h
  | n :: r, N, d, h => by
    unfold saidF
    simp only [List.foldl_cons]
    have h1 := h.failIf ((d.at_ i).bound.contains n || (d.at_ i).used.contains n || (d.at_ i).glob.contains n || (d.at_ i).nonl.contains n)
    have h2 : Sm (if g then (d.failIf ((d.at_ i).bound.contains n || (d.at_ i).used.contains n || (d.at_ i).glob.contains n || (d.at_ i).nonl.contains n)).set i (fun x => { x with glob := x.glob ++ [n] }) else (d.failIf ((d.at_ i).bound.contains n || (d.at_ i).used.contains n || (d.at_ i).glob.contains n || (d.at_ i).nonl.contains n)).set i (fun x => { x with nonl := x.nonl ++ [n] })) (N + 1 + 1) := by
      split
      · refine h1.setRow i _ (fun x k => ?_) fun _ => rfl
        match k with
        | 0 => exact Nat.le_succ _
        | 1 => exact Nat.le_succ _
        | 2 => show (x.glob ++ [n]).length ≤ x.glob.length + 1; simp
        | _ + 3 => exact Nat.le_succ _
      · refine h1.setRow i _ (fun x k => ?_) fun _ => rfl
        match k with
        | 0 => exact Nat.le_succ _
        | 1 => exact Nat.le_succ _
        | 2 => exact Nat.le_succ _
        | _ + 3 => show (x.nonl ++ [n]).length ≤ x.nonl.length + 1; simp
    have h3 := sm_said i g r _ _ h2
    refine h3.mono ?_
    simp only [List.length_cons]; omega
/-- A statement, but for what stands within it. -/
theorem sm_stmt {d : Fd} {N : Nat} (h : Sm d N) : Sm { d with stmt := d.stmt + 1 } (N + 1) := by
  have h1 := h.mono (Nat.le_succ N)
  exact ⟨h1.fr, h1.bad, h1.row, h1.loops, by have := h.lo; show -1 ≤ d.stmt + 1; omega, by have := h.hi; show d.stmt + 1 ≤ ((N + 1 : Nat) : Int); omega⟩
/-- What a statement's kind asks, ahead of its terms. -/
def kindF1 (s : Stm) (i : Nat) (d : Fd) : Fd := if s.kind = sBreak ∨ s.kind = sContinue then d.failIf (decide ((d.at_ i).loops = 0))
    else if s.kind = sReturn then d.failIf (decide (i = 0))
    else if s.kind = sGlobal ∨ s.kind = sNonlocal then saidF (d.failIf (decide (i = 0))) i (decide (s.kind = sGlobal)) s.p
    else d
def kindF2 (s : Stm) (i : Nat) (d : Fd) : Fd := if s.kind = sSet ∨ s.kind = sFor ∨ s.kind = sDef then d.bind i s.name else d
def kindF3 (f : Nat) (s : Stm) (i : Nat) (d : Fd) : Fd := if s.kind = sWhile ∨ s.kind = sFor then
      (blockF f s.body i (d.set i fun x => { x with loops := x.loops + 1 })).set i fun x => { x with loops := x.loops - 1 }
    else if s.kind = sDef then blockF f s.body d.fr.length (d.open_ i s.p)
    else blockF f s.els i (if s.kind = sTry then (blockF f s.body i d).bind i s.name else blockF f s.body i d)
theorem headF_eq (s : Stm) (i : Nat) (d : Fd) : headF s i d = kindF2 s i (s.l.foldl (fun a e => termF e.nodes e i a) (kindF1 s i { d with stmt := d.stmt + 1 })) := rfl
theorem blockF_eq (f : Nat) (l : List Stm) (i : Nat) (d : Fd) : blockF (f + 1) l i d = l.foldl (fun d s => kindF3 f s i (headF s i d)) d := rfl
theorem sm_kind1 (s : Stm) (i N : Nat) (d : Fd) (h : Sm d N) : Sm (kindF1 s i d) (N + 1 + 2 * s.p.length) := by
  unfold kindF1
  split
  · exact (h.failIf _).mono (by omega)
  · split
    · exact (h.failIf _).mono (by omega)
    · split
      · exact sm_said i _ s.p _ _ (h.failIf _)
      · exact h.mono (by omega)
theorem sm_kind2 (s : Stm) (i N : Nat) (d : Fd) (h : Sm d N) : Sm (kindF2 s i d) (N + 1) := by
  unfold kindF2
  split
  · exact h.bind _ _
  · exact h.mono (by omega)
theorem sm_head (s : Stm) (i N : Nat) (d : Fd) (h : Sm d N) : Sm (headF s i d) (N + 3 + 2 * s.p.length + 8 * exsBulk s.l) := by
  rw [headF_eq]
  have h1 := sm_kind1 s i _ _ (sm_stmt h)
  have h2 := sm_exs (fun a e => termF e.nodes e i a) s.l (fun e _ N d h => sm_term _ e i N d h) _ _ h1
  exact (sm_kind2 s i _ _ h2).mono (by omega)
theorem sm_block : ∀ (f : Nat) (l : List Stm) (i N : Nat) (d : Fd), Sm d N → Sm (blockF f l i d) (N + 8 * stmsBulk l)
  | 0, _, _, _, _, h => h.mono (Nat.le_add_right _ _)
  | f + 1, l, i, N, d, h => by
    rw [blockF_eq]
    refine sm_stms _ l (fun s _ N d h => ?_) N d h
    have hb := Stm.bulk_eq s
    have hp := strsBulk_len s.p
    have h1 := sm_head s i N d h
    generalize headF s i d = d1 at h1
    unfold kindF3
    split
    · have h2 : Sm (d1.set i fun x => { x with loops := x.loops + 1 }) (N + 3 + 2 * s.p.length + 8 * exsBulk s.l + 1) := h1.set (by omega) i _ (fun k => by
        have := h1.row i k
        match k with
        | 0 => exact Nat.le_succ_of_le this
        | 1 => exact Nat.le_succ_of_le this
        | 2 => exact Nat.le_succ_of_le this
        | _ + 3 => exact Nat.le_succ_of_le this) (by have := h1.loops i; show _ + 1 ≤ _; omega)
      have h3 := sm_block f s.body i _ _ h2
      have h4 := h3.set (Nat.le_refl _) i (fun x => { x with loops := x.loops - 1 }) (fun k => by
        have := h3.row i k
        match k with
        | 0 => exact this
        | 1 => exact this
        | 2 => exact this
        | _ + 3 => exact this) (by have := h3.loops i; show _ - 1 ≤ _; omega)
      exact h4.mono (by omega)
    · split
      · exact (sm_block f s.body _ _ _ (h1.open_ i s.p)).mono (by omega)
      · have h2 := sm_block f s.body i _ _ h1
        have h3 : Sm (if s.kind = sTry then (blockF f s.body i d1).bind i s.name else blockF f s.body i d1) (N + 3 + 2 * s.p.length + 8 * exsBulk s.l + 8 * stmsBulk s.body + 1) := by
          split
          · exact h2.bind _ _
          · exact h2.mono (by omega)
        exact (sm_block f s.els i _ _ h3).mono (by omega)
end Go.Proofs.YtdoaeapahgmfoaaGreatDoor
