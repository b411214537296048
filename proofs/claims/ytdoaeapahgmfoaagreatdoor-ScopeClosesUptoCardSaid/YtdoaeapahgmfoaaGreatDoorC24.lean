/- What package scope computes, in plain words: the finder; owners; the scopes. The plain law of ScopeCloses: where the finder finds nothing bad, each free name is a cell or free of the scope around, none is two of the three, the program has none. The plain law of ScopeNames: by other names (each with a letter more) the scopes are the same, by those names. -/
import Derived.Test.YtdoaeapahgmfoaaGreatDoorC08
namespace Go.Proofs.YtdoaeapahgmfoaaGreatDoor
open Go.RowKit
/-- A scope that is being looked at. -/
structure Fr where
  around : Int
  params : Nat
  bound : List (List UInt8)
  used : List (List UInt8)
  glob : List (List UInt8)
  nonl : List (List UInt8)
  loops : Nat
def dfr : Fr := ⟨0, 0, [], [], [], [], 0⟩
structure Fd where
  fr : List Fr
  stmt : Int
  bad : List Int
def addL (l : List (List UInt8)) (s : List UInt8) : List (List UInt8) := if l.contains s then l else l ++ [s]
def Fd.fail (d : Fd) : Fd := { d with bad := d.bad ++ [d.stmt] }
def Fd.failIf (d : Fd) (b : Bool) : Fd := if b then d.fail else d
def Fd.set (d : Fd) (i : Nat) (f : Fr → Fr) : Fd := { d with fr := d.fr.modify i f }
def Fd.at_ (d : Fd) (i : Nat) : Fr := d.fr.getD i dfr
/-- Parameters, one at a time. -/
def openP (d : Fd) (b : List (List UInt8)) : List (List UInt8) → Fd
  | [] => d
  | p :: r => openP (d.failIf (b.contains p)) (b ++ [p]) r
def Fd.open_ (d : Fd) (around : Int) (ps : List (List UInt8)) : Fd :=
  let d := openP d [] ps
  { d with fr := d.fr ++ [⟨around, ps.length, ps, [], [], [], 0⟩] }
def Fd.bind (d : Fd) (i : Nat) (name : List UInt8) : Fd :=
  if (d.at_ i).glob.contains name || (d.at_ i).nonl.contains name then d else d.set i fun x => { x with bound := addL x.bound name }
def termF : Nat → Ex → Nat → Fd → Fd
  | 0, _, _, d => d
  | f + 1, e, i, d =>
    let d := if e.op = oName then d.set i (fun x => { x with used := addL x.used e.s }) else d
    if e.op = oLambda then e.l.foldl (fun a e => termF f e d.fr.length a) (d.open_ i e.p)
    else e.l.foldl (fun a e => termF f e i a) d
def saidF (d : Fd) (i : Nat) (g : Bool) (ps : List (List UInt8)) : Fd := ps.foldl (fun d n =>
  let x := d.at_ i
  let d := d.failIf (x.bound.contains n || x.used.contains n || x.glob.contains n || x.nonl.contains n)
  if g then d.set i (fun x => { x with glob := x.glob ++ [n] }) else d.set i (fun x => { x with nonl := x.nonl ++ [n] })) d
/-- A statement, ahead of what stands within it. -/
def headF (s : Stm) (i : Nat) (d : Fd) : Fd :=
  let d := { d with stmt := d.stmt + 1 }
  let d := if s.kind = sBreak ∨ s.kind = sContinue then d.failIf (decide ((d.at_ i).loops = 0))
    else if s.kind = sReturn then d.failIf (decide (i = 0))
    else if s.kind = sGlobal ∨ s.kind = sNonlocal then saidF (d.failIf (decide (i = 0))) i (decide (s.kind = sGlobal)) s.p
    else d
  let d := s.l.foldl (fun a e => termF e.nodes e i a) d
  if s.kind = sSet ∨ s.kind = sFor ∨ s.kind = sDef then d.bind i s.name else d
def blockF : Nat → List Stm → Nat → Fd → Fd
  | 0, _, _, d => d
  | f + 1, l, i, d => l.foldl (fun d s =>
    let d := headF s i d
    if s.kind = sWhile ∨ s.kind = sFor then
      (blockF f s.body i (d.set i fun x => { x with loops := x.loops + 1 })).set i fun x => { x with loops := x.loops - 1 }
    else if s.kind = sDef then blockF f s.body d.fr.length (d.open_ i s.p)
    else
      let d := blockF f s.body i d
      let d := if s.kind = sTry then d.bind i s.name else d
      blockF f s.els i d) d
/-- Which scope owns a name that is used in one (0: it is global). -/
def ownerGo : Nat → List Fr → Int → Int → List UInt8 → Nat
  | 0, _, _, _, _ => 0
  | f + 1, fr, first, i, n => if i ≤ 0 then 0 else
    let x := fr.getD i.toNat dfr
    if x.glob.contains n then 0
    else if x.bound.contains n && (decide (i ≠ first) || !x.nonl.contains n) then i.toNat
    else ownerGo f fr first x.around n
def ownerF (fr : List Fr) (i : Int) (n : List UInt8) : Nat := ownerGo (fr.length + 1) fr i i n
def lambdasF : Nat → Ex → Nat → Nat
  | 0, _, k => k
  | f + 1, e, k => e.l.foldl (fun k e => lambdasF f e k) (if e.op = oLambda then k + 1 else k)
structure Ag where
  stmt : Int
  next : Nat
  bad : List Int
def nonlF (fr : List Fr) (i : Nat) (ps : List (List UInt8)) (a : Ag) : Ag := ps.foldl (fun a n =>
  if ownerF fr ((fr.getD i dfr).around) n = 0 then { a with bad := a.bad ++ [a.stmt] } else a) a
def againF : Nat → List Fr → List Stm → Nat → Ag → Ag
  | 0, _, _, _, a => a
  | f + 1, fr, l, i, a => l.foldl (fun a s =>
    let a := { a with stmt := a.stmt + 1, next := s.l.foldl (fun k e => lambdasF e.nodes e k) a.next }
    let a := if s.kind = sNonlocal then nonlF fr i s.p a else a
    if s.kind = sDef then againF f fr s.body (a.next + 1) { a with next := a.next + 1 }
    else againF f fr s.els i (againF f fr s.body i a)) a
/-- The finder behind both passes. -/
def firstF (l : List Stm) : Fd := blockF (stmsNodes l + 1) l 0 (Fd.open_ ⟨[], -1, []⟩ (-1) [])
def secondF (l : List Stm) : Ag := againF (stmsNodes l + 1) (firstF l).fr l 0 ⟨-1, 0, (firstF l).bad⟩
structure Sc where
  around : Int
  params : Nat
  locals : List (List UInt8)
  cells : List (List UInt8)
  frees : List (List UInt8)
structure CF where
  cells : List (List (List UInt8))
  frees : List (List (List UInt8))
def chainF : Nat → List Fr → Nat → Nat → List UInt8 → List (List (List UInt8)) → List (List (List UInt8))
  | 0, _, _, _, _, fs => fs
  | f + 1, fr, k, own, n, fs => if k = own then fs else
    chainF f fr ((fr.getD k dfr).around.toNat) own n (fs.modify k (addL · n))
def useF (fr : List Fr) (i : Nat) (c : CF) (n : List UInt8) : CF :=
  let own := ownerF fr i n
  if own = 0 ∨ own = i then c else ⟨c.cells.modify own (addL · n), chainF (fr.length + 1) fr i own n c.frees⟩
def usesF (fr : List Fr) : CF := (List.range fr.length).foldl (fun c i =>
  let x := fr.getD i dfr
  (x.used ++ x.nonl).foldl (useF fr i) c) ⟨List.replicate fr.length [], List.replicate fr.length []⟩
end Go.Proofs.YtdoaeapahgmfoaaGreatDoor
namespace Go.Proofs.YtdoaeapahgmfoaaGreatDoor
open Go.RowKit
/-- The scopes around go down. -/
structure Arnd (fr : List Fr) : Prop where
  pos : 0 < fr.length
  zero : (fr.getD 0 dfr).around = -1
  lt : ∀ i, 1 ≤ i → i < fr.length → 0 ≤ (fr.getD i dfr).around ∧ (fr.getD i dfr).around < (i : Int)
/-- What is bound is not said nonlocal. -/
def Disj (fr : List Fr) : Prop := ∀ i m, m ∈ (fr.getD i dfr).bound → m ∈ (fr.getD i dfr).nonl → False
theorem getD_modify (fr : List Fr) (i j : Nat) (f : Fr → Fr) : (fr.modify i f).getD j dfr = if i = j ∧ j < fr.length then f (fr.getD j dfr) else fr.getD j dfr := by
  rw [List.getD_eq_getElem?_getD, List.getD_eq_getElem?_getD, List.getElem?_modify]
  rcases Nat.lt_or_ge j fr.length with h | h
  · rw [List.getElem?_eq_getElem h]
    by_cases e : i = j
    · simp [e, h]
    · simp [e]
  · rw [List.getElem?_eq_none h]
    have : ¬ (i = j ∧ j < fr.length) := by omega
    rw [if_neg this]
    by_cases e : i = j <;> simp [e]
theorem getD_snoc (fr : List Fr) (x : Fr) (j : Nat) : (fr ++ [x]).getD j dfr = if j = fr.length then x else fr.getD j dfr := by
  rw [List.getD_eq_getElem?_getD, List.getD_eq_getElem?_getD]
  rcases Nat.lt_trichotomy j fr.length with h | h | h
  · rw [List.getElem?_append_left h, if_neg (by omega)]
  · rw [List.getElem?_append_right (by omega), if_pos h]; subst h; simp
  · rw [List.getElem?_append_right (by omega), if_neg (by omega), List.getElem?_eq_none (by simp; omega), List.getElem?_eq_none (by omega)]
/-- What holds of the finder throughout. -/
structure Inv (d : Fd) : Prop where
  arnd : Arnd d.fr
  disj : d.bad = [] → Disj d.fr
/-- A step of the finder. -/
structure Gd2 (d d' : Fd) : Prop where
  len : d.fr.length ≤ d'.fr.length
  inv : Inv d → Inv d'
  bad : d'.bad = [] → d.bad = []
theorem Gd2.refl (d : Fd) : Gd2 d d := ⟨Nat.le_refl _, id, id⟩
theorem Gd2.trans {a b c : Fd} (h : Gd2 a b) (k : Gd2 b c) : Gd2 a c := ⟨Nat.le_trans h.len k.len, fun i => k.inv (h.inv i), fun e => h.bad (k.bad e)⟩
theorem gd_fold {α : Type} (f : Fd → α → Fd) (l : List α) (n : Nat) (hf : ∀ d a, a ∈ l → n ≤ d.fr.length → Gd2 d (f d a)) : ∀ d, n ≤ d.fr.length → Gd2 d (l.foldl f d) := by
  induction l with
  | nil => intro d _; exact Gd2.refl d
  | cons a r ih =>
    intro d hn
    have h1 := hf d a (List.mem_cons_self) hn
    exact h1.trans (ih (fun d b hb => hf d b (List.mem_cons_of_mem _ hb)) _ (Nat.le_trans hn h1.len))
theorem fail_fr (d : Fd) (b : Bool) : (d.failIf b).fr = d.fr := by unfold Fd.failIf Fd.fail; split <;> rfl
theorem fail_bad (d : Fd) (b : Bool) : (d.failIf b).bad = if b then d.bad ++ [d.stmt] else d.bad := by unfold Fd.failIf Fd.fail; split <;> rfl
theorem gd_failIf (d : Fd) (b : Bool) : Gd2 d (d.failIf b) := by
  refine ⟨by rw [fail_fr]; exact Nat.le_refl _, fun h => ⟨by rw [fail_fr]; exact h.arnd, fun e => ?_⟩, fun e => ?_⟩
  · rw [fail_fr]; refine h.disj ?_
    rw [fail_bad] at e; split at e
    · simp at e
    · exact e
  · rw [fail_bad] at e; split at e
    · simp at e
    · exact e
theorem gd_stmt (d : Fd) (n : Int) : Gd2 d { d with stmt := n } := ⟨Nat.le_refl _, fun h => ⟨h.arnd, h.disj⟩, id⟩
theorem arnd_set {fr : List Fr} (h : Arnd fr) (i : Nat) (f : Fr → Fr) (hf : ∀ x, (f x).around = x.around) : Arnd (fr.modify i f) := by
  have e : ∀ j, ((fr.modify i f).getD j dfr).around = (fr.getD j dfr).around := fun j => by
    rw [getD_modify]; split
    · exact hf _
    · rfl
  refine ⟨by simpa using h.pos, by rw [e]; exact h.zero, fun j h1 h2 => by rw [e]; exact h.lt j h1 (by simpa using h2)⟩
theorem gd_set (d : Fd) (i : Nat) (f : Fr → Fr) (ha : ∀ x, (f x).around = x.around) (hd : d.bad = [] → Disj d.fr → ∀ m, m ∈ (f (d.at_ i)).bound → m ∈ (f (d.at_ i)).nonl → False) : Gd2 d (d.set i f) := by
  refine ⟨by simp [Fd.set], fun h => ⟨arnd_set h.arnd i f ha, fun e => ?_⟩, id⟩
  intro j m
  show m ∈ ((d.fr.modify i f).getD j dfr).bound → m ∈ ((d.fr.modify i f).getD j dfr).nonl → False
  rw [getD_modify]
  split
  · rename_i hc
    obtain ⟨rfl, _⟩ := hc
    exact hd e (h.disj e) m
  · exact h.disj e j m
theorem openP_fr : ∀ (ps b : List (List UInt8)) (d : Fd), (openP d b ps).fr = d.fr
  | [], _, _ => rfl
  | p :: r, b, d => by unfold openP; rw [openP_fr r, fail_fr]
theorem gd_openP : ∀ (ps b : List (List UInt8)) (d : Fd), Gd2 d (openP d b ps)
  | [], _, d => Gd2.refl d
  | _ :: r, _, d => (gd_failIf d _).trans (gd_openP r _ _)
theorem open_len (d : Fd) (i : Int) (ps : List (List UInt8)) : (d.open_ i ps).fr.length = d.fr.length + 1 := by
  unfold Fd.open_; simp [openP_fr]
theorem gd_open (d : Fd) (i : Nat) (ps : List (List UInt8)) (hi : i < d.fr.length) : Gd2 d (d.open_ i ps) := by
  refine (gd_openP ps [] d).trans ?_
  show Gd2 (openP d [] ps) { (openP d [] ps) with fr := (openP d [] ps).fr ++ [⟨i, ps.length, ps, [], [], [], 0⟩] }
  generalize he : openP d [] ps = d2
  have hl : d2.fr.length = d.fr.length := by rw [← he, openP_fr]
  refine ⟨by simp, fun h => ⟨⟨by simp, ?_, ?_⟩, ?_⟩, id⟩
  · show ((d2.fr ++ [_]).getD 0 dfr).around = -1
    rw [getD_snoc, if_neg (by have := h.arnd.pos; omega)]; exact h.arnd.zero
  · intro j h1 h2
    show 0 ≤ ((d2.fr ++ [_]).getD j dfr).around ∧ ((d2.fr ++ [_]).getD j dfr).around < (j : Int)
    rw [getD_snoc]
    split
    · rename_i e
      exact ⟨Int.natCast_nonneg _, by show (i : Int) < (j : Int); omega⟩
    · exact h.arnd.lt j h1 (by simp at h2; omega)
  · intro e j m
    show m ∈ ((d2.fr ++ [_]).getD j dfr).bound → m ∈ ((d2.fr ++ [_]).getD j dfr).nonl → False
    rw [getD_snoc]
    split
    · intro _ h2; simp at h2
    · exact h.disj e j m
theorem mem_addL {l : List (List UInt8)} {s m : List UInt8} : m ∈ addL l s ↔ m ∈ l ∨ m = s := by
  unfold addL
  split
  · rename_i h
    rw [List.contains_eq_mem, decide_eq_true_iff] at h
    constructor
    · exact .inl
    · rintro (h1 | rfl)
      · exact h1
      · exact h
  · simp
theorem gd_bind (d : Fd) (i : Nat) (n : List UInt8) : Gd2 d (d.bind i n) := by
  unfold Fd.bind
  split
  · exact Gd2.refl d
  · rename_i hc
    refine gd_set d i _ (fun _ => rfl) fun hb hd m h1 h2 => ?_
    rcases mem_addL.1 h1 with h1 | rfl
    · exact hd i m h1 h2
    · apply hc
      have : (d.at_ i).nonl.contains m = true := by rw [List.contains_eq_mem, decide_eq_true_iff]; exact h2
      rw [this, Bool.or_true]
theorem gd_term : ∀ (f : Nat) (e : Ex) (i : Nat) (d : Fd), i < d.fr.length → Gd2 d (termF f e i d)
  | 0, _, _, d, _ => Gd2.refl d
  | f + 1, e, i, d, hi => by
    have h1 : Gd2 d (if e.op = oName then d.set i (fun x => { x with used := addL x.used e.s }) else d) := by
      split
      · exact gd_set d i _ (fun _ => rfl) fun _ hd m h1 h2 => hd i m h1 h2
      · exact Gd2.refl d
    unfold termF
    generalize (if e.op = oName then d.set i (fun x => { x with used := addL x.used e.s }) else d) = d2 at h1 ⊢
    have hi2 : i < d2.fr.length := Nat.lt_of_lt_of_le hi h1.len
    refine h1.trans ?_
    show Gd2 d2 (if e.op = oLambda then e.l.foldl (fun a e => termF f e d2.fr.length a) (d2.open_ i e.p) else e.l.foldl (fun a e => termF f e i a) d2)
    split
    · refine (gd_open d2 i e.p hi2).trans ?_
      refine gd_fold _ e.l (d2.fr.length + 1) (fun a e _ hn => gd_term f e _ a (by omega)) _ (by rw [open_len]; exact Nat.le_refl _)
    · exact gd_fold _ e.l (i + 1) (fun a e _ hn => gd_term f e _ a (by omega)) _ (by omega)
theorem gd_said (ps : List (List UInt8)) (i : Nat) (g : Bool) (d : Fd) : Gd2 d (saidF d i g ps) := by
  refine gd_fold _ ps 0 (fun d n _ _ => ?_) d (Nat.zero_le _)
  dsimp only
  generalize hb : ((d.at_ i).bound.contains n || (d.at_ i).used.contains n || (d.at_ i).glob.contains n || (d.at_ i).nonl.contains n) = b
  have hat : (d.failIf b).at_ i = d.at_ i := by unfold Fd.at_; rw [fail_fr]
  refine (gd_failIf d b).trans ?_
  show Gd2 (d.failIf b) (if g then (d.failIf b).set i (fun x => { x with glob := x.glob ++ [n] }) else (d.failIf b).set i (fun x => { x with nonl := x.nonl ++ [n] }))
  split
  · exact gd_set _ i _ (fun _ => rfl) fun _ hd m h1 h2 => hd i m h1 h2
  · refine gd_set _ i _ (fun _ => rfl) fun e hd m h1 h2 => ?_
    rw [hat] at h1 h2
    rcases List.mem_append.1 h2 with h2 | h2
    · have := hd i m
      rw [show (d.failIf b).fr.getD i dfr = d.at_ i from hat] at this
      exact this h1 h2
    · have hm : m = n := by simpa using h2
      subst hm
      rw [fail_bad] at e
      have hbt : b = true := by
        rw [← hb]
        have : (d.at_ i).bound.contains m = true := by rw [List.contains_eq_mem, decide_eq_true_iff]; exact h1
        rw [this]; simp
      rw [if_pos hbt] at e
      simp at e
theorem gd_head (s : Stm) (i : Nat) (d : Fd) (hi : i < d.fr.length) : Gd2 d (headF s i d) := by
  unfold headF
  dsimp only
  have h1 := gd_stmt d (d.stmt + 1)
  refine h1.trans ?_
  generalize hd1 : ({ d with stmt := d.stmt + 1 } : Fd) = d1
  have hl1 : i < d1.fr.length := by rw [← hd1]; exact hi
  have h2 : Gd2 d1 (if s.kind = sBreak ∨ s.kind = sContinue then d1.failIf (decide ((d1.at_ i).loops = 0))
    else if s.kind = sReturn then d1.failIf (decide (i = 0))
    else if s.kind = sGlobal ∨ s.kind = sNonlocal then saidF (d1.failIf (decide (i = 0))) i (decide (s.kind = sGlobal)) s.p
    else d1) := by
    split
    · exact gd_failIf _ _
    · split
      · exact gd_failIf _ _
      · split
        · exact (gd_failIf _ _).trans (gd_said _ _ _ _)
        · exact Gd2.refl _
  refine h2.trans ?_
  generalize hd2 : (if s.kind = sBreak ∨ s.kind = sContinue then d1.failIf (decide ((d1.at_ i).loops = 0))
    else if s.kind = sReturn then d1.failIf (decide (i = 0))
    else if s.kind = sGlobal ∨ s.kind = sNonlocal then saidF (d1.failIf (decide (i = 0))) i (decide (s.kind = sGlobal)) s.p
    else d1) = d2 at h2
  have hl2 : i < d2.fr.length := Nat.lt_of_lt_of_le hl1 h2.len
  have h3 : Gd2 d2 (s.l.foldl (fun a e => termF e.nodes e i a) d2) := gd_fold _ s.l (i + 1) (fun a e _ hn => gd_term _ e i a (by omega)) d2 hl2
  refine h3.trans ?_
  generalize s.l.foldl (fun a e => termF e.nodes e i a) d2 = d3
  show Gd2 d3 (if s.kind = sSet ∨ s.kind = sFor ∨ s.kind = sDef then d3.bind i s.name else d3)
  split
  · exact gd_bind _ _ _
  · exact Gd2.refl _
theorem gd_block : ∀ (f : Nat) (l : List Stm) (i : Nat) (d : Fd), i < d.fr.length → Gd2 d (blockF f l i d)
  | 0, _, _, d, _ => Gd2.refl d
  | f + 1, l, i, d, hi => by
    unfold blockF
    refine gd_fold _ l (i + 1) (fun d s _ hn => ?_) d hi
    have h1 := gd_head s i d hn
    refine h1.trans ?_
    generalize headF s i d = d1 at h1
    have hl1 : i < d1.fr.length := Nat.lt_of_lt_of_le hn h1.len
    show Gd2 d1 (if s.kind = sWhile ∨ s.kind = sFor then
      (blockF f s.body i (d1.set i fun x => { x with loops := x.loops + 1 })).set i fun x => { x with loops := x.loops - 1 }
      else if s.kind = sDef then blockF f s.body d1.fr.length (d1.open_ i s.p)
      else blockF f s.els i (if s.kind = sTry then (blockF f s.body i d1).bind i s.name else blockF f s.body i d1))
    split
    · have h2 : Gd2 d1 (d1.set i fun x => { x with loops := x.loops + 1 }) := gd_set _ i _ (fun _ => rfl) fun _ hd m h1 h2 => hd i m h1 h2
      refine h2.trans ((gd_block f s.body i _ (Nat.lt_of_lt_of_le hl1 h2.len)).trans ?_)
      exact gd_set _ i _ (fun _ => rfl) fun _ hd m h1 h2 => hd i m h1 h2
    · split
      · exact (gd_open d1 i s.p hl1).trans (gd_block f s.body _ _ (by rw [open_len]; omega))
      · have h2 := gd_block f s.body i d1 hl1
        refine h2.trans ?_
        generalize blockF f s.body i d1 = d2 at h2
        have hl2 : i < d2.fr.length := Nat.lt_of_lt_of_le hl1 h2.len
        have h3 : Gd2 d2 (if s.kind = sTry then d2.bind i s.name else d2) := by
          split
          · exact gd_bind _ _ _
          · exact Gd2.refl _
        exact h3.trans (gd_block f s.els i _ (Nat.lt_of_lt_of_le hl2 h3.len))
theorem firstF_inv (l : List Stm) : Inv (firstF l) := by
  unfold firstF
  have h0 : Inv (Fd.open_ ⟨[], -1, []⟩ (-1) []) := by
    refine ⟨⟨by simp [Fd.open_, openP], rfl, fun i h1 h2 => ?_⟩, fun _ i m h1 h2 => ?_⟩
    · simp [Fd.open_, openP] at h2; omega
    · rcases i with _ | i
      · simp [Fd.open_, openP] at h2
      · simp [Fd.open_, openP, dfr] at h2
  exact (gd_block _ l 0 _ (by rw [open_len]; omega)).inv h0
/-- The second pass only adds what is bad. -/
theorem ag_fold {α : Type} (f : Ag → α → Ag) (l : List α) (hf : ∀ d a, a ∈ l → (f d a).bad = [] → d.bad = []) : ∀ d, (l.foldl f d).bad = [] → d.bad = [] := by
  induction l with
  | nil => intro d h; exact h
  | cons a r ih => intro d h; exact hf d a List.mem_cons_self (ih (fun d b hb => hf d b (List.mem_cons_of_mem _ hb)) _ h)
theorem nonlF_bad (fr : List Fr) (i : Nat) (ps : List (List UInt8)) (a : Ag) (h : (nonlF fr i ps a).bad = []) : a.bad = [] := by
  refine ag_fold _ ps (fun d n _ h => ?_) a h
  split at h
  · simp at h
  · exact h
theorem againF_bad : ∀ (f : Nat) (fr : List Fr) (l : List Stm) (i : Nat) (a : Ag), (againF f fr l i a).bad = [] → a.bad = []
  | 0, _, _, _, _, h => h
  | f + 1, fr, l, i, a, h => by
    unfold againF at h
    refine ag_fold _ l (fun d s _ h => ?_) a h
    dsimp only at h
    split at h
    · have h1 := againF_bad f fr s.body _ _ h
      split at h1
      · have h2 := nonlF_bad _ _ _ _ h1
        exact h2
      · exact h1
    · have h1 := againF_bad f fr s.body _ _ (againF_bad f fr s.els _ _ h)
      split at h1
      · have h2 := nonlF_bad _ _ _ _ h1
        exact h2
      · exact h1
theorem secondF_ok (l : List Stm) (h : (secondF l).bad = []) : Arnd (firstF l).fr ∧ Disj (firstF l).fr := by
  have hb : (firstF l).bad = [] := againF_bad _ _ _ _ _ h
  exact ⟨(firstF_inv l).arnd, (firstF_inv l).disj hb⟩
/-- The scopes from one up to the owner, without the owner. -/
def chainL : Nat → List Fr → Nat → Nat → List Nat
  | 0, _, _, _ => []
  | f + 1, fr, k, own => if k = own then [] else k :: chainL f fr ((fr.getD k dfr).around.toNat) own
theorem chainF_eq : ∀ (f : Nat) (fr : List Fr) (k own : Nat) (n : List UInt8) (fs : List (List (List UInt8))), chainF f fr k own n fs = (chainL f fr k own).foldl (fun fs k => fs.modify k (addL · n)) fs
  | 0, _, _, _, _, _ => rfl
  | f + 1, fr, k, own, n, fs => by
    unfold chainF chainL
    split
    · rfl
    · rw [chainF_eq f]; rfl
/-- What an owner is. -/
structure Owns (fr : List Fr) (n : List UInt8) (own : Nat) (L : List Nat) : Prop where
  pos : 1 ≤ own
  len : own < fr.length
  bound : n ∈ (fr.getD own dfr).bound
  lo : ∀ j ∈ L, own < j ∧ j < fr.length ∧ n ∉ (fr.getD j dfr).bound ∧ 0 ≤ (fr.getD j dfr).around ∧ ((fr.getD j dfr).around.toNat = own ∨ (fr.getD j dfr).around.toNat ∈ L)
theorem chainL_head {f : Nat} {fr : List Fr} {k own : Nat} (h : k ≠ own) (hf : 0 < f) : k ∈ chainL f fr k own := by
  obtain ⟨f, rfl⟩ : ∃ g, f = g + 1 := ⟨f - 1, by omega⟩
  unfold chainL
  rw [if_neg h]; exact List.mem_cons_self
theorem owner_le : ∀ (f : Nat) (fr : List Fr) (first : Int) (i : Int) (n : List UInt8), Arnd fr → i < fr.length → (ownerGo f fr first i n : Int) ≤ i ∨ ownerGo f fr first i n = 0
  | 0, _, _, _, _, _, _ => .inr rfl
  | f + 1, fr, first, i, n, ha, hi => by
    unfold ownerGo
    split
    · exact .inr rfl
    · rename_i h0
      dsimp only
      split
      · exact .inr rfl
      · split
        · left; omega
        · have hlt := ha.lt i.toNat (by omega) (by omega)
          rcases owner_le f fr first (fr.getD i.toNat dfr).around n ha (by omega) with h | h
          · left; omega
          · exact .inr h
theorem owner_owns : ∀ (f : Nat) (fr : List Fr) (first : Int) (i : Nat) (n : List UInt8), Arnd fr → Disj fr → i < fr.length → i < f → ownerGo f fr first i n ≠ 0 → Owns fr n (ownerGo f fr first i n) (chainL f fr i (ownerGo f fr first i n)) ∧ (ownerGo f fr first i n ≤ i)
  | 0, _, _, _, _, _, _, _, hf, _ => by omega
  | f + 1, fr, first, i, n, ha, hd, hi, hf, ho => by
    have hle := owner_le (f + 1) fr first i n ha (by omega)
    have hle2 : ownerGo (f + 1) fr first i n ≤ i := by omega
    refine ⟨?_, hle2⟩
    unfold ownerGo at ho ⊢
    split
    · rename_i h0; rw [if_pos h0] at ho; exact absurd rfl ho
    · rename_i h0
      rw [if_neg h0] at ho
      dsimp only at ho ⊢
      rw [Int.toNat_natCast] at ho ⊢
      split
      · rename_i h1; rw [if_pos h1] at ho; exact absurd rfl ho
      · rename_i h1
        rw [if_neg h1] at ho
        split
        · rename_i h2
          have hb : n ∈ (fr.getD i dfr).bound := by
            rw [Bool.and_eq_true] at h2
            have := h2.1
            rw [List.contains_eq_mem, decide_eq_true_iff] at this
            exact this
          unfold chainL
          rw [if_pos rfl]
          exact ⟨by omega, hi, hb, fun j hj => by simp at hj⟩
        · rename_i h2
          rw [if_neg h2] at ho
          have hlt := ha.lt i (by omega) hi
          have hnb : n ∉ (fr.getD i dfr).bound := by
            intro hb
            apply h2
            rw [Bool.and_eq_true]
            refine ⟨by rw [List.contains_eq_mem, decide_eq_true_iff]; exact hb, ?_⟩
            have : (fr.getD i dfr).nonl.contains n = false := by
              rw [List.contains_eq_mem, decide_eq_false_iff_not]
              exact fun h => hd i n hb h
            rw [this]; simp
          obtain ⟨a, ha2⟩ : ∃ a : Nat, (fr.getD i dfr).around = (a : Int) := ⟨(fr.getD i dfr).around.toNat, by omega⟩
          rw [ha2] at ho hlt ⊢
          obtain ⟨h3, h4⟩ := owner_owns f fr first a n ha hd (by omega) (by omega) ho
          generalize ownerGo f fr first a n = own at ho h3 h4 ⊢
          have hne : i ≠ own := by omega
          have e : chainL (f + 1) fr i own = i :: chainL f fr a own := by
            show (if i = own then [] else i :: chainL f fr ((fr.getD i dfr).around.toNat) own) = _
            rw [if_neg hne, ha2, Int.toNat_natCast]
          rw [e]
          refine ⟨h3.pos, h3.len, h3.bound, fun j hj => ?_⟩
          rcases List.mem_cons.1 hj with rfl | hj
          · refine ⟨by omega, hi, hnb, by rw [ha2]; omega, ?_⟩
            rw [ha2, Int.toNat_natCast]
            by_cases e2 : a = own
            · exact .inl e2
            · exact .inr (List.mem_cons_of_mem _ (chainL_head e2 (by omega)))
          · obtain ⟨q1, q2, q3, q4, q5⟩ := h3.lo j hj
            exact ⟨q1, q2, q3, q4, q5.imp id (List.mem_cons_of_mem _)⟩
theorem getD_modifyL (fs : List (List (List UInt8))) (i j : Nat) (f : List (List UInt8) → List (List UInt8)) : (fs.modify i f).getD j [] = if i = j ∧ j < fs.length then f (fs.getD j []) else fs.getD j [] := by
  rw [List.getD_eq_getElem?_getD, List.getD_eq_getElem?_getD, List.getElem?_modify]
  rcases Nat.lt_or_ge j fs.length with h | h
  · rw [List.getElem?_eq_getElem h]
    by_cases e : i = j
    · simp [e, h]
    · simp [e]
  · rw [List.getElem?_eq_none h]
    have : ¬ (i = j ∧ j < fs.length) := by omega
    rw [if_neg this]
    by_cases e : i = j <;> simp [e]
theorem nodup_addL {l : List (List UInt8)} {s : List UInt8} (h : l.Nodup) : (addL l s).Nodup := by
  unfold addL
  split
  · exact h
  · rename_i hc
    rw [List.contains_eq_mem, decide_eq_true_iff] at hc
    rw [List.nodup_append]
    refine ⟨h, by simp, fun a ha b hb => ?_⟩
    have : b = s := by simpa using hb
    subst this
    intro e; subst e; exact hc ha
theorem chain_len (L : List Nat) (n : List UInt8) : ∀ fs : List (List (List UInt8)), (L.foldl (fun fs k => fs.modify k (addL · n)) fs).length = fs.length := by
  induction L with
  | nil => intro fs; rfl
  | cons k r ih => intro fs; simp only [List.foldl_cons]; rw [ih]; simp
theorem chain_mem (L : List Nat) (n : List UInt8) : ∀ (fs : List (List (List UInt8))) (_ : ∀ k ∈ L, k < fs.length) (j : Nat) (m : List UInt8), m ∈ (L.foldl (fun fs k => fs.modify k (addL · n)) fs).getD j [] ↔ m ∈ fs.getD j [] ∨ (m = n ∧ j ∈ L) := by
  induction L with
  | nil => intro fs _ j m; simp
  | cons k r ih =>
    intro fs hL j m
    simp only [List.foldl_cons]
    rw [ih _ (fun k2 h2 => by simpa using hL k2 (List.mem_cons_of_mem _ h2)), getD_modifyL]
    have hk := hL k List.mem_cons_self
    by_cases e : k = j
    · subst e
      rw [if_pos ⟨rfl, hk⟩]
      simp only [mem_addL, List.mem_cons, true_or, and_true]
      constructor
      · rintro ((h | h) | ⟨h, _⟩)
        · exact .inl h
        · exact .inr h
        · exact .inr h
      · rintro (h | h)
        · exact .inl (.inl h)
        · exact .inl (.inr h)
    · rw [if_neg (by omega)]
      simp only [List.mem_cons]
      constructor
      · rintro (h | ⟨h, h2⟩)
        · exact .inl h
        · exact .inr ⟨h, .inr h2⟩
      · rintro (h | ⟨h, h2 | h2⟩)
        · exact .inl h
        · exact absurd h2.symm e
        · exact .inr ⟨h, h2⟩
theorem chain_nodup (L : List Nat) (n : List UInt8) : ∀ (fs : List (List (List UInt8))), (∀ j, (fs.getD j []).Nodup) → ∀ j, ((L.foldl (fun fs k => fs.modify k (addL · n)) fs).getD j []).Nodup := by
  induction L with
  | nil => intro fs h; exact h
  | cons k r ih =>
    intro fs h
    simp only [List.foldl_cons]
    refine ih _ fun j => ?_
    rw [getD_modifyL]
    split
    · exact nodup_addL (h j)
    · exact h j
/-- What holds of the cells and the free names throughout. -/
structure CFok (fr : List Fr) (c : CF) : Prop where
  lc : c.cells.length = fr.length
  lf : c.frees.length = fr.length
  nd : ∀ i, (c.frees.getD i []).Nodup
  cell : ∀ i m, m ∈ c.cells.getD i [] → 1 ≤ i ∧ m ∈ (fr.getD i dfr).bound
  free : ∀ i m, m ∈ c.frees.getD i [] → 1 ≤ i ∧ i < fr.length ∧ m ∉ (fr.getD i dfr).bound ∧ 0 ≤ (fr.getD i dfr).around ∧ (m ∈ c.cells.getD (fr.getD i dfr).around.toNat [] ∨ m ∈ c.frees.getD (fr.getD i dfr).around.toNat [])
theorem use_ok {fr : List Fr} (ha : Arnd fr) (hd : Disj fr) {i : Nat} (hi : i < fr.length) {c : CF} (h : CFok fr c) (n : List UInt8) : CFok fr (useF fr i c n) := by
  unfold useF
  dsimp only
  split
  · exact h
  · rename_i hno
    have hno' := not_or.1 hno
    obtain ⟨ho, hole⟩ := owner_owns (fr.length + 1) fr i i n ha hd hi (by omega) hno'.1
    change Owns fr n (ownerF fr i n) (chainL (fr.length + 1) fr i (ownerF fr i n)) at ho
    generalize ownerF fr i n = own at ho hno' ⊢
    rw [chainF_eq]
    generalize chainL (fr.length + 1) fr i own = L at ho ⊢
    have hLl : ∀ k ∈ L, k < c.frees.length := fun k hk => by rw [h.lf]; exact (ho.lo k hk).2.1
    have hcm : ∀ j m, m ∈ (c.cells.modify own (addL · n)).getD j [] ↔ m ∈ c.cells.getD j [] ∨ (m = n ∧ j = own) := fun j m => by
      rw [getD_modifyL]
      by_cases e : own = j
      · subst e
        rw [if_pos ⟨rfl, by rw [h.lc]; exact ho.len⟩, mem_addL]
        simp
      · rw [if_neg (by omega)]
        constructor
        · exact .inl
        · rintro (h | ⟨_, h2⟩)
          · exact h
          · exact absurd h2.symm e
    refine ⟨by simpa using h.lc, (chain_len L n c.frees).trans h.lf, chain_nodup L n _ h.nd, ?_, ?_⟩
    · intro j m hm
      rcases (hcm j m).1 hm with hm | ⟨rfl, rfl⟩
      · exact h.cell j m hm
      · exact ⟨ho.pos, ho.bound⟩
    · intro j m hm
      have hfm := chain_mem L n c.frees hLl
      dsimp only
      rw [hcm, hfm]
      rcases (hfm j m).1 hm with hm | ⟨rfl, hj⟩
      · obtain ⟨q1, q2, q3, q4, q5⟩ := h.free j m hm
        exact ⟨q1, q2, q3, q4, q5.imp .inl .inl⟩
      · obtain ⟨q1, q2, q3, q4, q5⟩ := ho.lo j hj
        refine ⟨by have := ho.pos; omega, q2, q3, q4, ?_⟩
        rcases q5 with q5 | q5
        · exact .inl (.inr ⟨rfl, q5⟩)
        · exact .inr (.inr ⟨rfl, q5⟩)
theorem fold_keep {α β : Type} (P : β → Prop) (f : β → α → β) (l : List α) (hf : ∀ b a, a ∈ l → P b → P (f b a)) : ∀ b, P b → P (l.foldl f b) := by
  induction l with
  | nil => intro b h; exact h
  | cons a r ih => intro b h; exact ih (fun b c hc => hf b c (List.mem_cons_of_mem _ hc)) _ (hf b a List.mem_cons_self h)
theorem uses_ok {fr : List Fr} (ha : Arnd fr) (hd : Disj fr) : CFok fr (usesF fr) := by
  unfold usesF
  refine fold_keep (CFok fr) _ _ (fun c i hi h => ?_) _ ?_
  · have hil : i < fr.length := List.mem_range.1 hi
    exact fold_keep (CFok fr) _ _ (fun c n _ h => use_ok ha hd hil h n) _ h
  · have e : ∀ i, (List.replicate fr.length ([] : List (List UInt8))).getD i [] = [] := fun i => by
      rw [List.getD_eq_getElem?_getD, List.getElem?_replicate]
      split <;> rfl
    refine ⟨by simp, by simp, fun i => ?_, fun i m h => ?_, fun i m h => ?_⟩
    · rw [e]; exact List.nodup_nil
    · rw [e] at h; simp at h
    · rw [e] at h; simp at h
end Go.Proofs.YtdoaeapahgmfoaaGreatDoor
namespace Go.Proofs.YtdoaeapahgmfoaaGreatDoor
open Go.RowKit
mutual
def Stm.named : Stm → Prop
  | .mk k n _ _ b e => ((k = sSet ∨ k = sFor ∨ k = sDef ∨ k = sTry) → n ≠ []) ∧ ((k = sWhile ∨ k = sFor) → e = []) ∧ stmsNamed b ∧ stmsNamed e
def stmsNamed : List Stm → Prop
  | [] => True
  | s :: r => s.named ∧ stmsNamed r
end
theorem Stm.named_eq (s : Stm) : s.named ↔ ((s.kind = sSet ∨ s.kind = sFor ∨ s.kind = sDef ∨ s.kind = sTry) → s.name ≠ []) ∧ ((s.kind = sWhile ∨ s.kind = sFor) → s.els = []) ∧ stmsNamed s.body ∧ stmsNamed s.els := by rcases s with ⟨_, _, _, _, _, _⟩; unfold Stm.named; exact Iff.rfl
theorem stmsNamed_mem : ∀ {l : List Stm} {s : Stm}, stmsNamed l → s ∈ l → s.named
  | a :: r, s, h, hm => by
    unfold stmsNamed at h
    rcases List.mem_cons.1 hm with rfl | hm
    · exact h.1
    · exact stmsNamed_mem h.2 hm
end Go.Proofs.YtdoaeapahgmfoaaGreatDoor
