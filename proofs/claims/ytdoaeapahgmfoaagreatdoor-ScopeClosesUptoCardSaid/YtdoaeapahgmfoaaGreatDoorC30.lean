/- How long the rows of the cells and of the free names become. finder.open: the walk. -/
import Derived.Test.YtdoaeapahgmfoaaGreatDoorC29
namespace Go.Proofs.YtdoaeapahgmfoaaGreatDoor
open Go.RowKit
theorem nodup_le : ∀ {l L : List (List UInt8)}, l.Nodup → (∀ m ∈ l, m ∈ L) → l.length ≤ L.length
  | [], _, _, _ => Nat.zero_le _
  | a :: r, L, h, hs => by
    have ha : a ∈ L := hs a List.mem_cons_self
    have h1 := List.nodup_cons.1 h
    have h2 : r.length ≤ (L.erase a).length := nodup_le h1.2 fun m hm => by
      have hne : m ≠ a := fun e => h1.1 (e ▸ hm)
      exact (List.mem_erase_of_ne hne).2 (hs m (List.mem_cons_of_mem _ hm))
    have h3 := List.length_erase_of_mem ha
    have h4 : 0 < L.length := List.length_pos_of_mem ha
    simp only [List.length_cons]; omega
/-- Rows of names out of L, each once. -/
def RowsIn (L : List (List UInt8)) (fs : List (List (List UInt8))) : Prop := ∀ j, (fs.getD j []).Nodup ∧ ∀ m ∈ fs.getD j [], m ∈ L
theorem RowsIn.len {L : List (List UInt8)} {fs : List (List (List UInt8))} (h : RowsIn L fs) (j : Nat) : (fs.getD j []).length ≤ L.length := nodup_le (h j).1 (h j).2
theorem RowsIn.mod {L : List (List UInt8)} {fs : List (List (List UInt8))} (h : RowsIn L fs) (k : Nat) {n : List UInt8} (hn : n ∈ L) : RowsIn L (fs.modify k (addL · n)) := fun j => by
  rw [getD_modifyL]
  split
  · refine ⟨nodup_addL (h j).1, fun m hm => ?_⟩
    rcases mem_addL.1 hm with h1 | h1
    · exact (h j).2 m h1
    · rw [h1]; exact hn
  · exact h j
theorem rowsIn_nil (L : List (List UInt8)) (n : Nat) : RowsIn L (List.replicate n []) := fun j => by
  have e : (List.replicate n ([] : List (List UInt8))).getD j [] = [] := by
    rw [List.getD_eq_getElem?_getD, List.getElem?_replicate]
    split <;> rfl
  rw [e]
  exact ⟨List.nodup_nil, fun m hm => by cases hm⟩
/-- All names that are used, or said nonlocal. -/
def allNames (fr : List Fr) : List (List UInt8) := (fr.map fun x => x.used ++ x.nonl).flatten
theorem mem_allNames {fr : List Fr} {i : Nat} (hi : i < fr.length) {m : List UInt8} (hm : m ∈ (fr.getD i dfr).used ++ (fr.getD i dfr).nonl) : m ∈ allNames fr := by
  refine List.mem_flatten.2 ⟨_, List.mem_map.2 ⟨fr.getD i dfr, ?_, rfl⟩, hm⟩
  rw [List.getD_eq_getElem?_getD, List.getElem?_eq_getElem hi]
  exact List.getElem_mem hi
def tot (fr : List Fr) : Nat := (fr.map fun x => x.used.length + x.nonl.length).sum
theorem allNames_len (fr : List Fr) : (allNames fr).length = tot fr := by
  unfold allNames tot
  induction fr with
  | nil => rfl
  | cons x r ih => simp only [List.map_cons, List.flatten_cons, List.length_append, List.sum_cons, ih]
theorem tot_modify (f : Fr → Fr) (k : Nat) (hf : ∀ x, (f x).used.length + (f x).nonl.length ≤ x.used.length + x.nonl.length + k) : ∀ (fr : List Fr) (i : Nat), tot (fr.modify i f) ≤ tot fr + k
  | [], i => by cases i <;> simp [tot]
  | x :: r, 0 => by
    have := hf x
    simp only [List.modify_zero_cons, tot, List.map_cons, List.sum_cons]; omega
  | x :: r, i + 1 => by
    have h := tot_modify f k hf r i
    simp only [tot] at h
    simp only [List.modify_succ_cons, tot, List.map_cons, List.sum_cons]; omega
theorem tot_set (d : Fd) (i k : Nat) (f : Fr → Fr) (hf : ∀ x, (f x).used.length + (f x).nonl.length ≤ x.used.length + x.nonl.length + k) : tot (d.set i f).fr ≤ tot d.fr + k := tot_modify f k hf d.fr i
theorem tot_open (d : Fd) (a : Int) (ps : List (List UInt8)) : tot (d.open_ a ps).fr = tot d.fr := by
  show tot ((openP d [] ps).fr ++ [_]) = _
  rw [openP_fr]
  simp [tot]
theorem tot_bind (d : Fd) (i : Nat) (n : List UInt8) : tot (d.bind i n).fr ≤ tot d.fr := by
  unfold Fd.bind
  split
  · exact Nat.le_refl _
  · exact tot_set d i 0 _ fun _ => Nat.le_refl _
theorem tot_exs (f : Fd → Ex → Fd) : ∀ (l : List Ex) (_ : ∀ e ∈ l, ∀ d, tot (f d e).fr ≤ tot d.fr + e.bulk) (d : Fd), tot (l.foldl f d).fr ≤ tot d.fr + exsBulk l
  | [], _, _ => Nat.le_refl _
  | e :: r, hf, d => by
    have h1 := hf e List.mem_cons_self d
    have h2 := tot_exs f r (fun a ha => hf a (List.mem_cons_of_mem _ ha)) (f d e)
    simp only [List.foldl_cons, exsBulk]; omega
theorem tot_stms (f : Fd → Stm → Fd) : ∀ (l : List Stm) (_ : ∀ e ∈ l, ∀ d, tot (f d e).fr ≤ tot d.fr + e.bulk) (d : Fd), tot (l.foldl f d).fr ≤ tot d.fr + stmsBulk l
  | [], _, _ => Nat.le_refl _
  | e :: r, hf, d => by
    have h1 := hf e List.mem_cons_self d
    have h2 := tot_stms f r (fun a ha => hf a (List.mem_cons_of_mem _ ha)) (f d e)
    simp only [List.foldl_cons, stmsBulk]; omega
theorem tot_term : ∀ (f : Nat) (e : Ex) (i : Nat) (d : Fd), tot (termF f e i d).fr ≤ tot d.fr + e.bulk
  | 0, _, _, _ => Nat.le_add_right _ _
  | f + 1, e, i, d => by
    have hb := Ex.bulk_eq e
    unfold termF
    dsimp only
    have h1 : tot (if e.op = oName then d.set i (fun x => { x with used := addL x.used e.s }) else d).fr ≤ tot d.fr + 1 := by
      split
      · exact tot_set d i 1 _ fun x => by have := addL_len x.used e.s; show (addL x.used e.s).length + x.nonl.length ≤ _; omega
      · exact Nat.le_succ _
    generalize (if e.op = oName then d.set i (fun x => { x with used := addL x.used e.s }) else d) = d1 at h1 ⊢
    split
    · have h2 := tot_exs (fun a e => termF f e d1.fr.length a) e.l (fun a _ d => tot_term f a _ d) (d1.open_ i e.p)
      rw [tot_open] at h2
      omega
    · have h2 := tot_exs (fun a e => termF f e i a) e.l (fun a _ d => tot_term f a _ d) d1
      omega
theorem tot_fail (d : Fd) (b : Bool) : tot (d.failIf b).fr = tot d.fr := by rw [fail_fr]
theorem tot_said (i : Nat) (g : Bool) : ∀ (ps : List (List UInt8)) (d : Fd), tot (saidF d i g ps).fr ≤ tot d.fr + ps.length
  | [], _ => Nat.le_refl _
  | n :: r, d => by
    unfold saidF
    simp only [List.foldl_cons, List.length_cons]
    refine Nat.le_trans (tot_said i g r _) ?_
    have h : ∀ b : Bool, tot (if g then (d.failIf b).set i (fun x => { x with glob := x.glob ++ [n] }) else (d.failIf b).set i (fun x => { x with nonl := x.nonl ++ [n] })).fr ≤ tot d.fr + 1 := fun b => by
      split
      · have := tot_set (d.failIf b) i 0 (fun x => { x with glob := x.glob ++ [n] }) fun _ => Nat.le_refl _
        rw [tot_fail] at this; omega
      · have := tot_set (d.failIf b) i 1 (fun x => { x with nonl := x.nonl ++ [n] }) fun x => by show x.used.length + (x.nonl ++ [n]).length ≤ _; simp; omega
        rw [tot_fail] at this; omega
    have := h ((d.at_ i).bound.contains n || (d.at_ i).used.contains n || (d.at_ i).glob.contains n || (d.at_ i).nonl.contains n)
    omega
theorem tot_head (s : Stm) (i : Nat) (d : Fd) : tot (headF s i d).fr ≤ tot d.fr + s.p.length + exsBulk s.l := by
  rw [headF_eq]
  have h0 : tot ({ d with stmt := d.stmt + 1 } : Fd).fr = tot d.fr := rfl
  generalize ({ d with stmt := d.stmt + 1 } : Fd) = d1 at h0 ⊢
  have h1 : tot (kindF1 s i d1).fr ≤ tot d1.fr + s.p.length := by
    unfold kindF1
    split
    · rw [tot_fail]; omega
    · split
      · rw [tot_fail]; omega
      · split
        · have := tot_said i (decide (s.kind = sGlobal)) s.p (d1.failIf (decide (i = 0)))
          rw [tot_fail] at this; exact this
        · omega
  have h2 := tot_exs (fun a e => termF e.nodes e i a) s.l (fun a _ d => tot_term a.nodes a i d) (kindF1 s i d1)
  generalize s.l.foldl (fun a e => termF e.nodes e i a) (kindF1 s i d1) = d2 at h2 ⊢
  unfold kindF2
  split
  · have := tot_bind d2 i s.name; omega
  · omega
theorem tot_block : ∀ (f : Nat) (l : List Stm) (i : Nat) (d : Fd), tot (blockF f l i d).fr ≤ tot d.fr + stmsBulk l
  | 0, _, _, _ => Nat.le_add_right _ _
  | f + 1, l, i, d => by
    rw [blockF_eq]
    refine tot_stms _ l (fun s _ d => ?_) d
    have hb := Stm.bulk_eq s
    have hp := strsBulk_len s.p
    have hh := tot_head s i d
    generalize headF s i d = d1 at hh ⊢
    unfold kindF3
    split
    · have h1 := tot_set d1 i 0 (fun x => { x with loops := x.loops + 1 }) fun _ => Nat.le_refl _
      have h2 := tot_block f s.body i (d1.set i fun x => { x with loops := x.loops + 1 })
      have h3 := tot_set (blockF f s.body i (d1.set i fun x => { x with loops := x.loops + 1 })) i 0 (fun x => { x with loops := x.loops - 1 }) fun _ => Nat.le_refl _
      omega
    · split
      · have h2 := tot_block f s.body d1.fr.length (d1.open_ i s.p)
        rw [tot_open] at h2; omega
      · have h2 := tot_block f s.body i d1
        have h3 : tot (if s.kind = sTry then (blockF f s.body i d1).bind i s.name else blockF f s.body i d1).fr ≤ tot (blockF f s.body i d1).fr := by
          split
          · exact tot_bind _ _ _
          · exact Nat.le_refl _
        have h4 := tot_block f s.els i (if s.kind = sTry then (blockF f s.body i d1).bind i s.name else blockF f s.body i d1)
        omega
theorem allNames_first (ss : List Stm) : (allNames (firstF ss).fr).length ≤ stmsBulk ss := by
  rw [allNames_len]
  have h := tot_block (stmsNodes ss + 1) ss 0 (Fd.open_ ⟨[], -1, []⟩ (-1) [])
  rw [tot_open] at h
  have e : tot (⟨[], -1, []⟩ : Fd).fr = 0 := rfl
  rw [e, Nat.zero_add] at h
  exact h
end Go.Proofs.YtdoaeapahgmfoaaGreatDoor
namespace Go.Proofs.YtdoaeapahgmfoaaGreatDoor
open Go.RowKit
theorem openP_snoc : ∀ (ps b : List (List UInt8)) (d : Fd) (p : List UInt8), openP d b (ps ++ [p]) = (openP d b ps).failIf ((b ++ ps).contains p)
  | [], b, d, p => by simp [openP]
  | q :: r, b, d, p => by
    simp only [List.cons_append]
    unfold openP
    rw [openP_snoc r]
    simp
/-- The finder, a scope being opened, so many parameters seen. -/
def openD (d : Fd) (a : Int) (ps : List (List UInt8)) (j : Nat) : Fd := { openP d [] (ps.take j) with fr := d.fr ++ [⟨a, ps.length, ps.take j, [], [], [], 0⟩] }
theorem openD_all (d : Fd) (a : Int) (ps : List (List UInt8)) : openD d a ps ps.length = d.open_ a ps := by
  unfold openD Fd.open_
  rw [List.take_of_length_le (Nat.le_refl _)]
  simp only [openP_fr]
theorem openD_len (d : Fd) (a : Int) (ps : List (List UInt8)) (j : Nat) : (openD d a ps j).fr.length = d.fr.length + 1 := by simp [openD]
theorem openD_at (d : Fd) (a : Int) (ps : List (List UInt8)) (j : Nat) : (openD d a ps j).fr.getD d.fr.length dfr = ⟨a, ps.length, ps.take j, [], [], [], 0⟩ := by
  show (d.fr ++ [_]).getD d.fr.length dfr = _
  rw [getD_snocF, if_pos rfl]
theorem openD_step (d : Fd) (a : Int) (ps : List (List UInt8)) (j : Nat) (hj : j < ps.length) : openD d a ps (j + 1) = ((openD d a ps j).failIf ((ps.take j).contains ps[j])).set d.fr.length (fun x => { x with bound := x.bound ++ [ps[j]] }) := by
  have e1 : openP d [] (ps.take (j + 1)) = (openP d [] (ps.take j)).failIf ((ps.take j).contains ps[j]) := by
    rw [List.take_succ_eq_append_getElem hj, openP_snoc]; rfl
  have e2 : ∀ x : Fr, ∀ f : Fr → Fr, (d.fr ++ [x]).modify d.fr.length f = d.fr ++ [f x] := by
    intro x f
    apply List.ext_getElem?
    intro k
    rw [List.getElem?_modify]
    rcases Nat.lt_trichotomy k d.fr.length with h | h | h
    · rw [List.getElem?_append_left h, List.getElem?_append_left h, List.getElem?_eq_getElem h]
      have : ¬ d.fr.length = k := by omega
      simp [this]
    · subst h; simp
    · rw [List.getElem?_eq_none (by simp; omega), List.getElem?_eq_none (by simp; omega)]; rfl
  unfold openD
  rw [e1]
  generalize openP d [] (ps.take j) = q
  unfold Fd.failIf Fd.fail Fd.set
  rw [List.take_succ_eq_append_getElem hj]
  split <;> simp [e2]
theorem openD_stepB {d : Fd} {a : Int} {ps : List (List UInt8)} {j : Nat} {b : Bool} (hj : j < ps.length) (hb : (ps.take j).contains ps[j] = b) : openD d a ps (j + 1) = ((openD d a ps j).failIf b).set d.fr.length (fun x => { x with bound := x.bound ++ [ps[j]] }) := by
  rw [← hb]; exact openD_step d a ps j hj
theorem sm_openD {d : Fd} {N : Nat} (h : Sm d N) (a : Int) (ps : List (List UInt8)) (j : Nat) (hj : j ≤ ps.length) : Sm (openD d a ps j) (N + ps.length + 1) := by
  have h1 := (sm_openP (ps.take j) [] d N h).mono (show N + (ps.take j).length ≤ N + ps.length + 1 by simp; omega)
  refine ⟨by rw [openD_len]; have := h.fr; omega, h1.bad, fun i k => ?_, fun i => ?_, h1.lo, h1.hi⟩
  · show (((d.fr ++ [_]).getD i dfr).row k).length ≤ _
    rw [getD_snocF]
    split
    · match k with
      | 0 => show (ps.take j).length ≤ _; simp; omega
      | 1 => exact Nat.zero_le _
      | 2 => exact Nat.zero_le _
      | _ + 3 => exact Nat.zero_le _
    · have := h.row i k; omega
  · show ((d.fr ++ [_]).getD i dfr).loops ≤ _
    rw [getD_snocF]
    split
    · exact Nat.zero_le _
    · have := h.loops i; omega
theorem Tryz.infoPtrFr : (Tryz.prog.info? 95).map (fun i => (i.zero, i.size, i.bytes)) = some (some (.pointer none), 1, 8) := by kernel_rfl
set_option maxRecDepth 100000 in
set_option maxHeartbeats 20000000 in
theorem open_any {w : World} {x B m : Nat} {c : Clr} {d : Fd} {vl vb : Value} {ys : List Nat} {vss : Nat → Nat → Value} (h : FdC w x c B d m vl vb ys vss) (hm : m = d.fr.length) (nm : ByteArray) (a : Int) (ps : List (List UInt8)) (vp : Value) (hp : StrsAt w (Un w c) vp ps) (hpl : ps.length ≤ 2000000) {N : Nat} (hN : Sm d N) (hN2 : N ≤ 30000000) (hB : B ≤ w.heap.size) :
    Calls Tryz.prog 72 #[.pointer (some ⟨x, 0, none⟩), .string nm, .int .i64 a, vp] w (FdPost w x B c (d.open_ a ps) (.int .i64 (m : Int))) := by
  obtain ⟨ap, cp, rfl, hcap, hps⟩ := hp
  obtain ⟨nF, sF⟩ := h.newFrame nm a ps.length
  have hm2 : m ≤ 30000000 := by have := hN.fr; omega
  have hx := h.x_lt
  obtain ⟨i0, hi, hz0, hz1, hz2⟩ := info_parts Tryz.infoStrg
  obtain ⟨p0, hpi, hpz0, hpz1, hpz2⟩ := info_parts Tryz.infoPtrFr
  have hlen := h.len
  have HN := Lib.hid hN; have Hps := Lib.hid hps; have Hm := Lib.hid hm; have Hlen := Lib.hid hlen
  clear hps hN h hlen hm
  go_enter Tryz.func72, Tryz.ntmps72
  have hbW : (w.alloc (.cells (frCells nm (newFr a ps.length) nilVs) 97 (0, 0))).heap.size = w.heap.size + 1 := by simp
  go_wp2_with fail
  change FdC (w.alloc (.cells #[.string nm, .int .i64 a, .int .i64 (ps.length : Int), .slice none 0 0, .slice none 0 0, .slice none 0 0, .slice none 0 0, .slice none 0 0, .slice none 0 0, .slice none 0 0, .int .i64 0] 97 (0, 0))) x _ B (openD d a ps 0) m vl vb (ys ++ [w.heap.size]) _ at nF
  change FStp _ _ w (w.alloc (.cells #[.string nm, .int .i64 a, .int .i64 (ps.length : Int), .slice none 0 0, .slice none 0 0, .slice none 0 0, .slice none 0 0, .slice none 0 0, .slice none 0 0, .slice none 0 0, .int .i64 0] 97 (0, 0))) at sF
  generalize w.alloc (.cells #[.string nm, .int .i64 a, .int .i64 (ps.length : Int), .slice none 0 0, .slice none 0 0, .slice none 0 0, .slice none 0 0, .slice none 0 0, .slice none 0 0, .slice none 0 0, .int .i64 0] 97 (0, 0)) = W at nF sF ⊢
  clear hbW
  have hY : w.heap.size = (ys ++ [w.heap.size]).getD d.fr.length 0 := by rw [getD_snocN, Hlen.out, if_pos rfl]
  have hyl := sF.size
  generalize hYn : w.heap.size = Y at hY nF sF ⊢
  have HsF := Lib.hid sF; have HnF := Lib.hid nF; have HY := Lib.hid hY
  have HYn := Lib.hid hYn; clear hY hYn nF sF
  go_loopw [11, 21] (fun _ i wr => ∃ (j : Nat) (c1 : Clr) (vb1 : Value) (vss1 : Nat → Nat → Value), j ≤ ps.length ∧ i = .int .i64 j ∧ FdC wr x c1 B (openD d a ps j) m vl vb1 (ys ++ [Y]) vss1 ∧ FStp c c1 w wr) (fun _ i _ => ps.length - (intOf i).toNat)
  case atStart => exact ⟨0, _, _, _, by omega, rfl, HnF.out, HsF.out⟩
  case round =>
    obtain ⟨j, c1, vb1, vss1, hj, rfl, hF, sF⟩ := hrel
    by_cases hjl : j < ps.length
    · have t1 : decide ((j : Int) < (ps.length : Int)) = true := by simp; omega
      obtain ⟨b, o, rfl, hbU, hz⟩ := Hps.out (by omega)
      have q := (sF.cell hbU).trans (hz j hjl)
      have hn1 : d.fr.length < (openD d a ps j).fr.length := by rw [openD_len]; omega
      have hFn := hF.frs d.fr.length hn1
      rw [openD_at, ← HY.out] at hFn
      obtain ⟨nm1, hblk⟩ := hFn.blk
      have y6 : wr.cell? ⟨Y, 6, none⟩ = some (vss1 d.fr.length 0) := by rw [cell_of_blk hblk]; rfl
      have hjp : j ≤ 2000000 := by omega
      have hown0 := hFn.own 0 (by decide)
      have hq := has_any (ps.take j) (vss1 d.fr.length 0) ps[j] _ (own_strs hown0) (by simp; omega)
      have hsm := sm_openD HN.out a ps j hj
      have hszr : w.heap.size ≤ wr.heap.size := sF.size
      have HF := Lib.hid hF; have HS := Lib.hid sF; have Hsm := Lib.hid hsm; have Hn1 := Lib.hid hn1; have Hzl := Lib.hid hszr
      have hBr : B ≤ wr.heap.size := by omega
      clear hF sF hsm hFn hown0 hz hblk hn1 hszr
      rcases hb : (ps.take j).contains ps[j] with _ | _
      · rw [hb] at hq
        have Hq := Lib.hid hq; have Hb := Lib.hid hb
        clear hq hb
        have H2 : Hid (FdC wr x c1 B ((openD d a ps j).failIf false) m vl vb1 (ys ++ [Y]) vss1) := Lib.hid HF.out
        have S2 : Hid (FStp c c1 w wr) := HS
        go_wp2_with fail
        refine Hq.out.mono ?_
        rintro _ w2 ⟨rfl, rfl⟩
        clear y6
        have hn2 : d.fr.length < ((openD d a ps j).failIf false).fr.length := by rw [fail_fr]; exact Hn1.out
        have hF2 := H2.out.frs d.fr.length hn2
        rw [fail_fr, openD_at, ← HY.out] at hF2
        obtain ⟨nm2, hblk⟩ := hF2.blk
        have y6 : wr.cell? ⟨Y, 6, none⟩ = some (vss1 d.fr.length 0) := by rw [cell_of_blk hblk]; rfl
        have hown0 := hF2.own 0 (by decide)
        have hown1 : wr.ownsRow B 9 1 (vss1 d.fr.length 0) j (strCs (ps.take j)) := by
          have e : (ps.take j).length = j := by simp; omega
          have h0 : wr.ownsRow B 9 1 (vss1 d.fr.length 0) (ps.take j).length (strCs (ps.take j)) := hown0
          rwa [e] at h0
        have hfar : ∀ w1, wr.grownBy w1 (vss1 d.fr.length 0).ownBlock → w1.heap[Y]? = wr.heap[Y]? := fun w1 hg => H2.out.y_far HY.out hn2 (row := (vss1 d.fr.length 0).ownBlock) (fun b e => ⟨_, hF2.cr 0 (by decide) b e, by simp⟩) hg
        have Hfar := Lib.hid hfar; have Hblk := Lib.hid hblk; have Hn2 := Lib.hid hn2
        have hs2l := S2.out.size
        clear hfar hblk hF2 hown0 hn2
        go_wp2_with (at_builtin; refine wpList_append_lies (wr.alloc (.cells #[.string (toBA ps[j])] 9)) rfl (.tmp 37) (.tmp 39) 36 rfl B 9 i0 _ 1 16 Tryz.underlying36 hi hz0 hz1 hz2 rfl (by decide) (vss1 d.fr.length 0) j (strCs (ps.take j)) rfl (hown1.alloc _) ⟨wr.heap.size, 0, none⟩ 1 1 [.string (toBA ps[j])] rfl rfl (World.news_of_block (cs := #[.string (toBA ps[j])]) (heap_alloc_new wr _)) (by simp [Value.oneCell']) (by decide) (by unfold maxLen; omega) (by omega) (by simp; omega) (wr.heap.size + 1) (by simp) ?_; intro g5 cap5 w5 hown5 hg5 hat5 hlt5; have hb5 := (Hfar.out w5 (grown_alloc hg5)).trans Hblk.out; have z6 := (cell_of_blk (o := 6) hb5); have f6 := frozen_of_blk (o := 6) hb5; have zl := lt_of_blk hb5)
        have hs2 := H2.out.setRow d.fr.length 0 HY.out Hn2.out (by decide) (.slice (some ⟨g5, 0, none⟩) (j + 1) cap5) (fun x => { x with bound := x.bound ++ [ps[j]] }) (grown_alloc hg5) (by
          rw [fail_fr, openD_at]
          show w5.ownsRow B 9 1 _ (ps.take j ++ [ps[j]]).length (strCs (ps.take j ++ [ps[j]]))
          have e : (ps.take j ++ [ps[j]]).length = j + 1 := by simp; omega
          rw [strCs_snoc, e]; exact hown5) (by
          rcases hat5 with e | e
          · exact .inl e.symm
          · exact .inr fun b hb => by
              have : g5 = b := Option.some.inj hb
              omega) ⟨rfl, rfl, rfl⟩ (fun j hj hne => match j, hj with
            | 0, _ => absurd rfl hne
            | 1, _ => rfl
            | 2, _ => rfl
            | 3, _ => rfl)
        rw [← openD_stepB hjl Hb.out] at hs2
        have Hs2 := Lib.hid hs2
        clear hs2 hown5 hg5 hat5 hb5 z6 f6 zl hown1 y6
        go_roundw
        case rel => exact ⟨j + 1, _, _, _, by omega, by go_num, Hs2.out.1, S2.out.trans Hs2.out.2⟩
        case measure => simp [intOf]; omega
      · rw [hb] at hq
        have hcall := fail_any HF.out (by have := Hsm.out.bad; omega) hBr
        have Hq := Lib.hid hq; have Hb := Lib.hid hb; have Hcall := Lib.hid hcall
        clear hq hb hcall
        go_wp2_with fail
        refine Hq.out.mono ?_
        rintro _ w2 ⟨rfl, rfl⟩
        go_wp2_with fail
        refine Hcall.out.mono ?_
        rintro _ w2 ⟨rfl, c2, vb2, hF2', sF2'⟩
        have H2 : Hid (FdC w2 x c2 B ((openD d a ps j).failIf true) m vl vb2 (ys ++ [Y]) vss1) := Lib.hid hF2'
        have S2 : Hid (FStp c c2 w w2) := Lib.hid (HS.out.trans sF2')
        have hBw2 : B ≤ w2.heap.size := by have := S2.out.size; omega
        clear y6 q Hq Hcall hF2' sF2' HF HS hBr
        have hn2 : d.fr.length < ((openD d a ps j).failIf true).fr.length := by rw [fail_fr]; exact Hn1.out
        have hF2 := H2.out.frs d.fr.length hn2
        rw [fail_fr, openD_at, ← HY.out] at hF2
        obtain ⟨nm2, hblk⟩ := hF2.blk
        have y6 : w2.cell? ⟨Y, 6, none⟩ = some (vss1 d.fr.length 0) := by rw [cell_of_blk hblk]; rfl
        have hown0 := hF2.own 0 (by decide)
        have hown1 : w2.ownsRow B 9 1 (vss1 d.fr.length 0) j (strCs (ps.take j)) := by
          have e : (ps.take j).length = j := by simp; omega
          have h0 : w2.ownsRow B 9 1 (vss1 d.fr.length 0) (ps.take j).length (strCs (ps.take j)) := hown0
          rwa [e] at h0
        have hfar : ∀ w1, w2.grownBy w1 (vss1 d.fr.length 0).ownBlock → w1.heap[Y]? = w2.heap[Y]? := fun w1 hg => H2.out.y_far HY.out hn2 (row := (vss1 d.fr.length 0).ownBlock) (fun b e => ⟨_, hF2.cr 0 (by decide) b e, by simp⟩) hg
        have Hfar := Lib.hid hfar; have Hblk := Lib.hid hblk; have Hn2 := Lib.hid hn2
        have hs2l := S2.out.size
        clear hfar hblk hF2 hown0 hn2
        go_wp2_with (at_builtin; refine wpList_append_lies (w2.alloc (.cells #[.string (toBA ps[j])] 9)) rfl (.tmp 37) (.tmp 39) 36 rfl B 9 i0 _ 1 16 Tryz.underlying36 hi hz0 hz1 hz2 rfl (by decide) (vss1 d.fr.length 0) j (strCs (ps.take j)) rfl (hown1.alloc _) ⟨w2.heap.size, 0, none⟩ 1 1 [.string (toBA ps[j])] rfl rfl (World.news_of_block (cs := #[.string (toBA ps[j])]) (heap_alloc_new w2 _)) (by simp [Value.oneCell']) (by decide) (by unfold maxLen; omega) (by omega) (by simp; omega) (w2.heap.size + 1) (by simp) ?_; intro g5 cap5 w5 hown5 hg5 hat5 hlt5; have hb5 := (Hfar.out w5 (grown_alloc hg5)).trans Hblk.out; have z6 := (cell_of_blk (o := 6) hb5); have f6 := frozen_of_blk (o := 6) hb5; have zl := lt_of_blk hb5)
        have hs2 := H2.out.setRow d.fr.length 0 HY.out Hn2.out (by decide) (.slice (some ⟨g5, 0, none⟩) (j + 1) cap5) (fun x => { x with bound := x.bound ++ [ps[j]] }) (grown_alloc hg5) (by
          rw [fail_fr, openD_at]
          show w5.ownsRow B 9 1 _ (ps.take j ++ [ps[j]]).length (strCs (ps.take j ++ [ps[j]]))
          have e : (ps.take j ++ [ps[j]]).length = j + 1 := by simp; omega
          rw [strCs_snoc, e]; exact hown5) (by
          rcases hat5 with e | e
          · exact .inl e.symm
          · exact .inr fun b hb => by
              have : g5 = b := Option.some.inj hb
              omega) ⟨rfl, rfl, rfl⟩ (fun j hj hne => match j, hj with
            | 0, _ => absurd rfl hne
            | 1, _ => rfl
            | 2, _ => rfl
            | 3, _ => rfl)
        rw [← openD_stepB hjl Hb.out] at hs2
        have Hs2 := Lib.hid hs2
        clear hs2 hown5 hg5 hat5 hb5 z6 f6 zl hown1 y6
        go_roundw
        case rel => exact ⟨j + 1, _, _, _, by omega, by go_num, Hs2.out.1, S2.out.trans Hs2.out.2⟩
        case measure => simp [intOf]; omega
    · have t1 : decide ((j : Int) < (ps.length : Int)) = false := by simp; omega
      obtain rfl : j = ps.length := by omega
      rw [openD_all] at hF
      have hln : (d.open_ a ps).fr.length = m + 1 := by rw [← openD_all, openD_len, Hm.out]
      have hYm : (ys ++ [Y]).getD m 0 = Y := by rw [Hm.out, ← HY.out]
      have c0 := cell_of_blk (o := 0) hF.blk
      have f0 := frozen_of_blk (o := 0) hF.blk
      have hxr := hF.x_lt
      have hlo := hF.lown
      have hfar : ∀ w1, wr.grownBy w1 vl.ownBlock → w1.heap[x]? = some (.cells #[vl, .int .i64 (d.open_ a ps).stmt, vb1] 94 (0, 0)) := fun w1 hg => hF.x_far (row := vl.ownBlock) (fun b e => ⟨_, hF.lc b e, by simp⟩) hg
      have hszr : w.heap.size ≤ wr.heap.size := sF.size
      have HF := Lib.hid hF; have HS := Lib.hid sF; have Hln := Lib.hid hln; have HYm := Lib.hid hYm; have Hfar := Lib.hid hfar
      clear hF sF hln hYm hfar
      go_wp2_with (at_builtin; refine wpList_append_lies (wr.alloc (.cells #[.pointer (some ⟨Y, 0, none⟩)] 95)) rfl (.tmp 48) (.tmp 50) 91 rfl B 95 p0 _ 1 8 Tryz.underlying91 hpi hpz0 hpz1 hpz2 rfl (by decide) vl m (ptrCs ((ys ++ [Y]).take m)) rfl (hlo.alloc _) ⟨wr.heap.size, 0, none⟩ 1 1 [.pointer (some ⟨Y, 0, none⟩)] rfl rfl (World.news_of_block (cs := #[.pointer (some ⟨Y, 0, none⟩)]) (heap_alloc_new wr _)) (by simp [Value.oneCell']) (by decide) (by unfold maxLen; omega) (by omega) (by simp; omega) (wr.heap.size + 1) (by simp) ?_; intro g5 cap5 w5 hown5 hg5 hat5 hlt5; have hb5 := Hfar.out w5 (grown_alloc hg5); have z0 := (cell_of_blk (o := 0) hb5); have f5 := frozen_of_blk (o := 0) hb5; have zl := lt_of_blk hb5)
      have hs2 := HF.out.push (.slice (some ⟨g5, 0, none⟩) (m + 1) cap5) (by have := Hln.out; omega) (grown_alloc hg5) (by rw [HYm.out]; exact hown5) (by
        rcases hat5 with e | e
        · exact .inl e.symm
        · exact .inr fun b hb => by
            have : g5 = b := Option.some.inj hb
            omega)
      have Hs2 := Lib.hid hs2
      clear hs2
      refine bodyPost_ret (results_tmp rfl _ _ _) rfl ?_
      exact fdPost_ofR (by go_num) Hs2.out.1 Hln.out.symm (HS.out.trans Hs2.out.2)
end Go.Proofs.YtdoaeapahgmfoaaGreatDoor
