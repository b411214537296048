/- scope.add, finder.fail, finder.bind: the walks. Tables of rows of texts (the cells, the free names): what they hold; a text more in a row. The scopes that are handed back, in plain words: each free name is a cell or free of the scope around; none is two of the three; the program has none; the free names are in order, each once. The finder's passes leave each frame's loops as they were. -/
import Derived.Deep.DrawnRows
import Derived.Deep.OwnRows
import Derived.Test.YtdoaeapahgmfoaaGreatDoorC13
import Derived.Test.YtdoaeapahgmfoaaGreatDoorC24
import Derived.Test.YtdoaeapahgmfoaaGreatDoorC27
import Derived.Test.YtdoaeapahgmfoaaGreatDoorC28
namespace Go.Proofs.YtdoaeapahgmfoaaGreatDoor
open Go.RowKit
theorem grown_alloc {w w1 : World} {ob : Obj} {row : Option Nat} (h : (w.alloc ob).grownBy w1 row) : w.grownBy w1 row :=
  ⟨h.os, h.tape, h.output, by have := h.size; simp at this; omega, fun k hk hne => (h.block k (by simp; omega) hne).trans (Below.heap_alloc _ _ _ hk)⟩
theorem grown_drew {w w1 : World} {row : Option Nat} (h : w.drew.grownBy w1 row) : w.grownBy w1 row := ⟨h.os, h.tape, h.output, h.size, h.block⟩
/-- A row of texts, a text more perhaps. -/
def RowPost (w : World) (B : Nat) (v : Value) (l : List (List UInt8)) (e : Ending) (w' : World) : Prop :=
  ∃ ao cp, e = .returned (.slice ao l.length cp) ∧ w'.ownsRow B 9 1 (.slice ao l.length cp) l.length (strCs l) ∧ w.grownBy w' v.ownBlock ∧ ((Value.slice ao l.length cp).ownBlock = v.ownBlock ∨ ∀ b, (Value.slice ao l.length cp).ownBlock = some b → w.heap.size ≤ b)
theorem own_strs {B : Nat} {w : World} {v : Value} {l : List (List UInt8)} (h : w.ownsRow B 9 1 v l.length (strCs l)) : StrsAt w (fun b => B ≤ b ∧ b < w.heap.size) v l := strs_own h
set_option maxRecDepth 100000 in
set_option maxHeartbeats 20000000 in
theorem add_any {w : World} {B : Nat} {v : Value} {l : List (List UInt8)} (h : w.ownsRow B 9 1 v l.length (strCs l)) (s : List UInt8) (hl : l.length ≤ 50000000) (hB : B ≤ w.heap.size) :
    Calls Tryz.prog 40 #[v, .string (toBA s)] w (RowPost w B v (addL l s)) := by
  have hcall := has_any l v s _ (own_strs h) (by omega)
  obtain ⟨i0, hi, hz0, hz1, hz2⟩ := info_parts Tryz.infoStrg
  rcases hb : l.contains s with _ | _
  · rw [hb] at hcall
    have he : addL l s = l ++ [s] := by unfold addL; rw [hb]; rfl
    have Hcall := Lib.hid hcall; have He := Lib.hid he
    clear hcall he hb
    go_enter Tryz.func40, Tryz.ntmps40
    go_wp2_with fail
    refine Hcall.out.mono ?_
    rintro _ w2 ⟨rfl, rfl⟩
    go_wp2_with (at_builtin; refine wpList_append_lies (w.alloc (.cells #[.string (toBA s)] 9)) rfl (.tmp 9) (.tmp 11) 36 rfl B 9 i0 _ 1 16 Tryz.underlying36 hi hz0 hz1 hz2 rfl (by decide) v l.length (strCs l) rfl (h.alloc _) ⟨w.heap.size, 0, none⟩ 1 1 [.string (toBA s)] rfl rfl (World.news_of_block (cs := #[.string (toBA s)]) (heap_alloc_new w _)) (by simp [Value.oneCell']) (by decide) (by unfold maxLen; omega) (by omega) (by simp; omega) (w.heap.size + 1) (by simp) ?_; intro g cap w1 hown hg hat hlt)
    refine bodyPost_ret (results_tmp rfl _ _ _) rfl ?_
    have hl1 : (addL l s).length = l.length + 1 := by rw [He.out, List.length_append]; rfl
    have hs1 : strCs (addL l s) = strCs l ++ [.string (toBA s)] := by rw [He.out, strCs_snoc]
    refine ⟨some ⟨g, 0, none⟩, cap, by rw [hl1]; rfl, by rw [hl1, hs1]; exact hown, grown_alloc hg, ?_⟩
    · rcases hat with e | e
      · exact .inl (by rw [e]; rfl)
      · exact .inr fun b hb => by
          have : g = b := Option.some.inj hb
          omega
  · rw [hb] at hcall
    have he : addL l s = l := by unfold addL; rw [hb]; rfl
    have Hcall := Lib.hid hcall; have He := Lib.hid he
    clear hcall he hb
    go_enter Tryz.func40, Tryz.ntmps40
    go_wp2_with fail
    refine Hcall.out.mono ?_
    rintro _ w2 ⟨rfl, rfl⟩
    go_wp2_with fail
    refine bodyPost_ret (results_tmp rfl _ _ _) rfl ?_
    obtain ⟨ao, cp, hv⟩ : ∃ ao cp, v = .slice ao l.length cp := by
      rcases h.2 with ⟨e, h0⟩ | ⟨g, cap, cur, e, _⟩
      · exact ⟨none, 0, by rw [e, h0]⟩
      · exact ⟨_, _, e⟩
    subst hv
    exact ⟨ao, cp, by rw [He.out]; rfl, by rw [He.out]; exact h, ⟨rfl, rfl, rfl, Nat.le_refl _, fun _ _ _ => rfl⟩, by rw [He.out]; exact .inl rfl⟩
/-- A call of a method of the finder: what becomes of it. -/
def FdPost (w : World) (x B : Nat) (c : Clr) (d' : Fd) (r : Value) (e : Ending) (w' : World) : Prop :=
  e = .returned r ∧ ∃ (c' : Clr) (vl vb : Value) (ys : List Nat) (vss : Nat → Nat → Value), FdC w' x c' B d' d'.fr.length vl vb ys vss ∧ FStp c c' w w'
theorem intCs_snoc (l : List Int) (n : Int) : intCs (l ++ [n]) = intCs l ++ [.int .i64 n] := by simp [intCs]
/-- The finder's cells over an append to one of its rows. -/
theorem FdC.x_far {w w1 : World} {x B m : Nat} {c : Clr} {d : Fd} {vl vb : Value} {ys : List Nat} {vss : Nat → Nat → Value} (h : FdC w x c B d m vl vb ys vss) {row : Option Nat} (hr : ∀ b, row = some b → ∃ r, c b = some r ∧ r ≠ .fin) (hg : w.grownBy w1 row) :
    w1.heap[x]? = some (.cells #[vl, .int .i64 d.stmt, vb] 94 (0, 0)) := by
  refine (hg.block x h.x_lt fun e => ?_).trans h.blk
  obtain ⟨r, h1, h2⟩ := hr x e.symm
  rw [h.cx] at h1
  exact h2 (Option.some.inj h1).symm
theorem FdC.y_far {w w1 : World} {x B m : Nat} {c : Clr} {d : Fd} {vl vb : Value} {ys : List Nat} {vss : Nat → Nat → Value} (h : FdC w x c B d m vl vb ys vss) {i Y : Nat} (hY : Y = ys.getD i 0) (hi : i < d.fr.length) {row : Option Nat} (hr : ∀ b, row = some b → ∃ r, c b = some r ∧ r ≠ .fr i) (hg : w.grownBy w1 row) :
    w1.heap[Y]? = w.heap[Y]? := by
  subst hY
  have hF := h.frs i hi
  obtain ⟨nm, hb⟩ := hF.blk
  refine hg.block _ (lt_of_blk hb) fun e => ?_
  obtain ⟨r, h1, h2⟩ := hr _ e.symm
  rw [hF.cy] at h1
  exact h2 (Option.some.inj h1).symm
set_option maxRecDepth 100000 in
set_option maxHeartbeats 20000000 in
theorem fail_any {w : World} {x B m : Nat} {c : Clr} {d : Fd} {vl vb : Value} {ys : List Nat} {vss : Nat → Nat → Value} (h : FdC w x c B d m vl vb ys vss) (hl : d.bad.length ≤ 50000000) (hB : B ≤ w.heap.size) :
    Calls Tryz.prog 109 #[.pointer (some ⟨x, 0, none⟩)] w fun e w' => e = .returned (.tuple #[]) ∧ ∃ (c' : Clr) (vb' : Value), FdC w' x c' B d.fail m vl vb' ys vss ∧ FStp c c' w w' := by
  obtain ⟨i0, hi, hz0, hz1, hz2⟩ := info_parts Tryz.infoInt
  have c1 := cell_of_blk (o := 1) h.blk
  have c2 := cell_of_blk (o := 2) h.blk
  have f2 := frozen_of_blk (o := 2) h.blk
  have hx := h.x_lt
  have Hh := Lib.hid h
  have hbo := h.bown
  generalize hst : d.stmt = sn at c1
  have Hst := Lib.hid hst
  clear h hst
  go_enter Tryz.func109, Tryz.ntmps109
  go_region_law ((refine step_append_lies _ (by rfl) _ _ _ (by rfl) B 3 i0 _ 1 8 Tryz.underlying92 hi hz0 hz1 hz2 rfl (by decide) vb d.bad.length (intCs d.bad) (by rfl) (hbo.drew.alloc _) ⟨w.heap.size, 0, none⟩ 1 1 [.int .i64 sn] (by rfl) (by rfl) (World.news_of_block (cs := #[.int .i64 sn]) (t := 3) (fr := (0, 0)) (heap_alloc_new w.drew _)) (by simp [Value.oneCell']) (by decide) (by unfold maxLen; omega) (by omega) (by simp; omega) (w.heap.size + 1) (by simp) ?_; intro g cap w1 hown hg hat hlt; have hx1 := Hh.out.x_far (row := vb.ownBlock) (fun b e => ⟨_, Hh.out.bc b e, by simp⟩) (grown_drew (grown_alloc hg)); have d2 := cell_of_blk (o := 2) hx1; have e2 := frozen_of_blk (o := 2) hx1; have z2 := lt_of_blk hx1))
  all_goals
    go_end0
    have hgr := grown_drew (grown_alloc hg)
    have hs := Hh.out.setBad (.slice (some ⟨g, 0, none⟩) (d.bad.length + 1) cap) (d.bad ++ [d.stmt]) hgr (by rw [intCs_snoc, List.length_append, Hst.out]; exact hown) (by
      rcases hat with e | e
      · exact .inl e.symm
      · exact .inr fun b hb => by
          have : g = b := Option.some.inj hb
          omega)
    exact ⟨rfl, _, _, hs.1, hs.2⟩
theorem fdPost_of {w w' : World} {x B m : Nat} {c c' : Clr} {d' : Fd} {vl vb : Value} {ys : List Nat} {vss : Nat → Nat → Value} (h : FdC w' x c' B d' m vl vb ys vss) (hm : m = d'.fr.length) (hs : FStp c c' w w') : FdPost w x B c d' (.tuple #[]) (.returned (.tuple #[])) w' := by
  subst hm
  exact ⟨rfl, c', vl, vb, ys, vss, h, hs⟩
theorem fdPost_ofR {w w' : World} {x B m : Nat} {c c' : Clr} {d' : Fd} {vl vb r : Value} {e : Ending} {ys : List Nat} {vss : Nat → Nat → Value} (he : e = .returned r) (h : FdC w' x c' B d' m vl vb ys vss) (hm : m = d'.fr.length) (hs : FStp c c' w w') : FdPost w x B c d' r e w' := by
  subst hm
  exact ⟨he, c', vl, vb, ys, vss, h, hs⟩
/-- The cells of a frame that the list has. -/
theorem FdC.look {w : World} {x B m : Nat} {c : Clr} {d : Fd} {vl vb : Value} {ys : List Nat} {vss : Nat → Nat → Value} (h : FdC w x c B d m vl vb ys vss) {i : Nat} (hi : i < m) :
    ∃ g cap nm Y, Y = ys.getD i 0 ∧ vl = .slice (some ⟨g, 0, none⟩) m cap ∧ m ≤ cap ∧ w.cell? ⟨g, i, none⟩ = some (.pointer (some ⟨Y, 0, none⟩)) ∧ w.heap[Y]? = some (.cells (frCells nm (d.fr.getD i dfr) (vss i)) 97 (0, 0)) := by
  obtain ⟨g, cap, hv, hn, _, hc⟩ := h.ptr hi
  obtain ⟨nm, hb⟩ := (h.frs i (Nat.lt_of_lt_of_le hi h.hm)).blk
  exact ⟨g, cap, nm, _, rfl, hv, hn, hc, hb⟩
set_option maxRecDepth 100000 in
set_option maxHeartbeats 20000000 in
theorem bind_any {w : World} {x B m : Nat} {c : Clr} {d : Fd} {vl vb : Value} {ys : List Nat} {vss : Nat → Nat → Value} (h : FdC w x c B d m vl vb ys vss) (hm : m = d.fr.length) (i : Nat) (hi : i < m) (s : List UInt8) {N : Nat} (hN : Sm d N) (hN2 : N ≤ 40000000) (hB : B ≤ w.heap.size) :
    Calls Tryz.prog 112 #[.pointer (some ⟨x, 0, none⟩), .int .i64 (i : Int), .string (toBA s)] w (FdPost w x B c (d.bind i s) (.tuple #[])) := by
  obtain ⟨g, cap, nm, Y, hY, rfl, hcap, cg, hblk⟩ := h.look hi
  have hid : i < d.fr.length := by omega
  have hF := h.frs i hid
  have c0 := cell_of_blk (o := 0) h.blk
  have hx := h.x_lt
  have y6 : w.cell? ⟨Y, 6, none⟩ = some (vss i 0) := by rw [cell_of_blk hblk]; rfl
  have y8 : w.cell? ⟨Y, 8, none⟩ = some (vss i 2) := by rw [cell_of_blk hblk]; rfl
  have y9 : w.cell? ⟨Y, 9, none⟩ = some (vss i 3) := by rw [cell_of_blk hblk]; rfl
  have r0 := hN.row i 0
  have r2 := hN.row i 2
  have r3 := hN.row i 3
  have hNf := hN.fr
  have q2 := has_any _ (vss i 2) s _ (own_strs (hF.own 2 (by decide))) (by omega)
  have q3 := has_any _ (vss i 3) s _ (own_strs (hF.own 3 (by decide))) (by omega)
  have q0 := add_any (hF.own 0 (by decide)) s (by omega) hB
  have hfar : ∀ w1, w.grownBy w1 (vss i 0).ownBlock → w1.heap[Y]? = w.heap[Y]? := fun w1 hg => h.y_far hY hid (row := (vss i 0).ownBlock) (fun b e => ⟨_, hF.cr 0 (by decide) b e, by simp⟩) hg
  have HY := Lib.hid hY; have Hh := Lib.hid h; have HF := Lib.hid hF; have Hfar := Lib.hid hfar; have Hblk := Lib.hid hblk; have Hm := Lib.hid hm; have Hid2 := Lib.hid hid; have Q0 := Lib.hid q0
  have i0 : (0 : Int) ≤ (i : Int) := Int.natCast_nonneg _
  have i1 : (i : Int) < (m : Int) := by omega
  have hm2 : m ≤ 40000000 := by omega
  clear hY h hF hfar hblk hm hid q0 hN r0 r2 r3 hNf
  have hbind : d.bind i s = if ((d.fr.getD i dfr).row 2).contains s || ((d.fr.getD i dfr).row 3).contains s then d else d.set i fun x => { x with bound := addL x.bound s } := rfl
  rcases b2 : ((d.fr.getD i dfr).row 2).contains s with _ | _
  · rw [b2] at q2 hbind
    rcases b3 : ((d.fr.getD i dfr).row 3).contains s with _ | _
    · rw [b3] at q3 hbind
      rw [if_neg (by simp)] at hbind
      have Hb := Lib.hid hbind; have Q2 := Lib.hid q2; have Q3 := Lib.hid q3
      clear hbind q2 q3 b2 b3
      go_enter Tryz.func112, Tryz.ntmps112
      go_wp2_with fail
      refine Q2.out.mono ?_
      rintro _ w2 ⟨rfl, rfl⟩
      go_wp2_with fail
      refine Q3.out.mono ?_
      rintro _ w2 ⟨rfl, rfl⟩
      go_wp2_with fail
      refine Q0.out.mono ?_
      rintro _ w1 ⟨ao, cp, rfl, hown, hgr, hat⟩
      have hb1 := (Hfar.out w1 hgr).trans Hblk.out
      have f6 := frozen_of_blk (o := 6) hb1
      have z6 : w1.cell? ⟨Y, 6, none⟩ = some (vss i 0) := by rw [cell_of_blk hb1]; rfl
      have zl := lt_of_blk hb1
      have hs := Hh.out.setRow i 0 HY.out Hid2.out (by decide) _ (fun x => { x with bound := addL x.bound s }) hgr hown hat ⟨rfl, rfl, rfl⟩ (fun j hj hne => match j, hj with
        | 0, _ => absurd rfl hne
        | 1, _ => rfl
        | 2, _ => rfl
        | 3, _ => rfl)
      have Hs := Lib.hid hs
      clear hs hown hgr hat hb1
      go_wp2_with fail
      go_end0
      rw [Hb.out]
      exact fdPost_of Hs.out.1 (by rw [Hm.out]; simp [Fd.set]) Hs.out.2
    · rw [b3] at q3 hbind
      rw [if_pos (by simp)] at hbind
      have Hb := Lib.hid hbind; have Q2 := Lib.hid q2; have Q3 := Lib.hid q3
      clear hbind q2 q3 b2 b3
      go_enter Tryz.func112, Tryz.ntmps112
      go_wp2_with fail
      refine Q2.out.mono ?_
      rintro _ w2 ⟨rfl, rfl⟩
      go_wp2_with fail
      refine Q3.out.mono ?_
      rintro _ w2 ⟨rfl, rfl⟩
      go_wp2_with fail
      go_end0
      rw [Hb.out]
      exact fdPost_of Hh.out Hm.out (FStp.refl _ _)
  · rw [b2] at q2 hbind
    rw [if_pos (by simp)] at hbind
    have Hb := Lib.hid hbind; have Q2 := Lib.hid q2
    clear hbind q2 q3 b2
    go_enter Tryz.func112, Tryz.ntmps112
    go_wp2_with fail
    refine Q2.out.mono ?_
    rintro _ w2 ⟨rfl, rfl⟩
    go_wp2_with fail
    go_end0
    rw [Hb.out]
    exact fdPost_of Hh.out Hm.out (FStp.refl _ _)
end Go.Proofs.YtdoaeapahgmfoaaGreatDoor
namespace Go.Proofs.YtdoaeapahgmfoaaGreatDoor
open Go.RowKit
/-- Whose a block is: a table's (k, 0), or its row's (k, i + 1). -/
def Cl2 := Nat → Option (Nat × Nat)
def Cl2.put (c : Cl2) (o : Option Nat) (r : Nat × Nat) : Cl2 := fun b => if o = some b then some r else c b
/-- A table at block t. -/
structure TbC (w : World) (B k t : Nat) (c : Cl2) (ls : List (List (List UInt8))) (vs : Nat → Value) : Prop where
  row : w.rowIs t 36 ls.length vs
  ct : c t = some (k, 0)
  own : ∀ i, i < ls.length → w.ownsRow B 9 1 (vs i) (ls.getD i []).length (strCs (ls.getD i []))
  cr : ∀ i, i < ls.length → ∀ b, (vs i).ownBlock = some b → c b = some (k, i + 1)
/-- A step over tables. -/
structure TStp (c c' : Cl2) (w w' : World) : Prop where
  os : w'.os = w.os
  tape : w'.tape = w.tape
  output : w'.output = w.output
  size : w.heap.size ≤ w'.heap.size
  keep : ∀ b, b < w.heap.size → c' b = c b ∧ (c b = none → w'.heap[b]? = w.heap[b]?)
theorem TStp.refl (c : Cl2) (w : World) : TStp c c w w := ⟨rfl, rfl, rfl, Nat.le_refl _, fun _ _ => ⟨rfl, fun _ => rfl⟩⟩
theorem TStp.trans {c1 c2 c3 : Cl2} {a b d : World} (h : TStp c1 c2 a b) (k : TStp c2 c3 b d) : TStp c1 c3 a d :=
  ⟨k.os.trans h.os, k.tape.trans h.tape, k.output.trans h.output, Nat.le_trans h.size k.size, fun n hn =>
    let h1 := h.keep n hn; let h2 := k.keep n (Nat.lt_of_lt_of_le hn h.size)
    ⟨h2.1.trans h1.1, fun e => (h2.2 (h1.1.trans e)).trans (h1.2 e)⟩⟩
/-- Both tables: the cells, the free names; they were made behind B. -/
structure Tb2 (w : World) (B t1 t2 : Nat) (c : Cl2) (C : CF) (v1 v2 : Nat → Value) : Prop where
  a : TbC w B 1 t1 c C.cells v1
  b : TbC w B 2 t2 c C.frees v2
  lo : ∀ b r, c b = some r → B ≤ b ∧ b < w.heap.size
/-- What is not the tables'. -/
def Un2 (w : World) (c : Cl2) : Nat → Prop := fun b => b < w.heap.size ∧ c b = none
theorem TStp.un {c c' : Cl2} {w w' : World} (h : TStp c c' w w') {b : Nat} (hb : Un2 w c b) : Un2 w' c' b := ⟨Nat.lt_of_lt_of_le hb.1 h.size, ((h.keep b hb.1).1).trans hb.2⟩
theorem TStp.blk {c c' : Cl2} {w w' : World} (h : TStp c c' w w') {b : Nat} (hb : Un2 w c b) : w'.heap[b]? = w.heap[b]? := (h.keep b hb.1).2 hb.2
theorem TStp.cell {c c' : Cl2} {w w' : World} (h : TStp c c' w w') {b o : Nat} (hb : Un2 w c b) : w'.cell? ⟨b, o, none⟩ = w.cell? ⟨b, o, none⟩ := World.cell?_of_block (h.blk hb)
theorem TStp.strs {c c' : Cl2} {w w' : World} (h : TStp c c' w w') {v : Value} {l : List (List UInt8)} (hs : StrsAt w (Un2 w c) v l) : StrsAt w' (Un2 w' c') v l := hs.mono (fun _ _ hb => h.cell hb) fun _ hb => h.un hb
section
variable {w w' w1 : World} {B k t t1 t2 : Nat} {c c' : Cl2} {ls : List (List (List UInt8))} {vs v1 v2 : Nat → Value} {C : CF}
theorem Tb2.fresh (h : Tb2 w B t1 t2 c C v1 v2) {b : Nat} (hb : w.heap.size ≤ b) : c b = none := by
  rcases e : c b with _ | r
  · rfl
  · have := (h.lo b r e).2; omega
theorem Tb2.below (h : Tb2 w B t1 t2 c C v1 v2) {b : Nat} (hb : b < B) : c b = none := by
  rcases e : c b with _ | r
  · rfl
  · have := (h.lo b r e).1; omega
theorem TStp.below (h : TStp c c' w w') (ht : Tb2 w B t1 t2 c C v1 v2) (hB : B ≤ w.heap.size) : Below B w w' :=
  ⟨h.os, h.tape, h.output, h.size, fun b hb => (h.keep b (by omega)).2 (ht.below hb)⟩
theorem TbC.keep (h : TbC w B k t c ls vs) (hc : ∀ b r, c b = some r → c' b = some r) (hb : ∀ b i, c b = some (k, i) → w'.heap[b]? = w.heap[b]?) : TbC w' B k t c' ls vs :=
  ⟨h.row.of_block (hb t 0 h.ct), hc _ _ h.ct, fun i hi => own_same (h.own i hi) fun b e => hb b _ (h.cr i hi b e), fun i hi b e => hc _ _ (h.cr i hi b e)⟩
/-- What only makes memory. -/
theorem Tb2.grow (h : Tb2 w B t1 t2 c C v1 v2) (hb : Below w.heap.size w w') : Tb2 w' B t1 t2 c C v1 v2 ∧ TStp c c w w' :=
  ⟨⟨h.a.keep (fun _ _ e => e) fun b _ e => hb.block b (h.lo b _ e).2, h.b.keep (fun _ _ e => e) fun b _ e => hb.block b (h.lo b _ e).2, fun b r e => ⟨(h.lo b r e).1, Nat.lt_of_lt_of_le (h.lo b r e).2 hb.size⟩⟩,
    hb.os, hb.tape, hb.output, hb.size, fun b hlt => ⟨rfl, fun _ => hb.block b hlt⟩⟩
theorem Tb2.same (h : Tb2 w B t1 t2 c C v1 v2) (hs : w.heap.size ≤ w'.heap.size) (hk : ∀ b r, c b = some r → w'.heap[b]? = w.heap[b]?) : Tb2 w' B t1 t2 c C v1 v2 :=
  ⟨h.a.keep (fun _ _ e => e) fun b _ e => hk b _ e, h.b.keep (fun _ _ e => e) fun b _ e => hk b _ e, fun b r e => ⟨(h.lo b r e).1, Nat.lt_of_lt_of_le (h.lo b r e).2 hs⟩⟩
theorem getD_mod (fs : List (List (List UInt8))) (i j : Nat) (f : List (List UInt8) → List (List UInt8)) (hj : j < fs.length) : (fs.modify i f).getD j [] = if i = j then f (fs.getD j []) else fs.getD j [] := by
  rw [getD_modifyL]
  by_cases e : i = j <;> simp [e, hj]
/-- A row of a table gets another value: the table itself, and the other. -/
theorem TbC.setRow (h : TbC w B k t c ls vs) (hlo : ∀ b r, c b = some r → B ≤ b ∧ b < w.heap.size) (i : Nat) (hi : i < ls.length) (v' : Value) (f : List (List UInt8) → List (List UInt8))
    (hg : w.grownBy w1 (vs i).ownBlock) (hown : w1.ownsRow B 9 1 v' (f (ls.getD i [])).length (strCs (f (ls.getD i [])))) (hat : v'.ownBlock = (vs i).ownBlock ∨ ∀ b, v'.ownBlock = some b → w.heap.size ≤ b) :
    TbC (w1.setCell ⟨t, i, none⟩ v') B k t (c.put v'.ownBlock (k, i + 1)) (ls.modify i f) (fun j => if j = i then v' else vs j) ∧
      TStp c (c.put v'.ownBlock (k, i + 1)) w (w1.setCell ⟨t, i, none⟩ v') ∧
      (∀ b r, (c.put v'.ownBlock (k, i + 1)) b = some r → B ≤ b ∧ b < (w1.setCell ⟨t, i, none⟩ v').heap.size) ∧
      (∀ b r, c b = some r → (c.put v'.ownBlock (k, i + 1)) b = some r) ∧
      (∀ b r, c b = some r → r ≠ (k, 0) → r ≠ (k, i + 1) → (w1.setCell ⟨t, i, none⟩ v').heap[b]? = w.heap[b]?) := by
  have hcr := h.cr i hi
  have hsz : w.heap.size ≤ (w1.setCell ⟨t, i, none⟩ v').heap.size := by simpa using hg.size
  have hfr : ∀ b, w.heap.size ≤ b → c b = none := fun b hb => by
    rcases e : c b with _ | r
    · rfl
    · have := (hlo b r e).2; omega
  have hho : ∀ b, v'.ownBlock = some b → c b = some (k, i + 1) ∨ (w.heap.size ≤ b ∧ B ≤ b ∧ b < (w1.setCell ⟨t, i, none⟩ v').heap.size) := fun b e => by
    have h3 := hown.lt b e
    rcases hat with h2 | h2
    · exact .inl (hcr b (h2.symm.trans e))
    · exact .inr ⟨h2 b e, h3.1, by simpa using h3.2⟩
  have c1 : ∀ b r, c b = some r → (c.put v'.ownBlock (k, i + 1)) b = some r := fun b r e => by
    unfold Cl2.put
    split
    · rename_i h2
      rcases hho b h2 with h3 | h3
      · rw [h3] at e; exact e
      · rw [hfr b h3.1] at e; cases e
    · exact e
  have c2 : ∀ b r, (c.put v'.ownBlock (k, i + 1)) b = some r → B ≤ b ∧ b < (w1.setCell ⟨t, i, none⟩ v').heap.size := fun b r e => by
    unfold Cl2.put at e
    split at e
    · rename_i h2
      rcases hho b h2 with h3 | h3
      · have := hlo b _ h3; omega
      · exact h3.2
    · have := hlo b _ e; omega
  have c3 : ∀ b, b < w.heap.size → (c.put v'.ownBlock (k, i + 1)) b = c b := fun b hb => by
    unfold Cl2.put
    split
    · rename_i h2
      rcases hho b h2 with h3 | h3
      · exact h3.symm
      · omega
    · rfl
  have hkeep : ∀ b r, c b = some r → r ≠ (k, 0) → r ≠ (k, i + 1) → (w1.setCell ⟨t, i, none⟩ v').heap[b]? = w.heap[b]? := fun b r e n1 n2 => by
    rw [Below.heap_setCell _ _ _ _ (by intro e2; subst e2; rw [h.ct] at e; exact n1 (Option.some.inj e).symm)]
    refine hg.block b (hlo b r e).2 fun e2 => ?_
    rw [hcr b e2.symm] at e
    exact n2 (Option.some.inj e).symm
  have htl := (hlo t _ h.ct).2
  have htv : v'.ownBlock ≠ some t := fun e => by
    rcases hho _ e with h2 | h2
    · rw [h.ct] at h2; cases h2
    · omega
  have ht1 : w1.heap[t]? = w.heap[t]? := hg.block _ htl fun e2 => by
    have := hcr _ e2.symm
    rw [h.ct] at this; cases this
  refine ⟨⟨?_, c1 _ _ h.ct, fun j hj => ?_, fun j hj b e => ?_⟩, ⟨hg.os, hg.tape, hg.output, hsz, fun b hb => ⟨c3 b hb, fun e => ?_⟩⟩, c2, c1, hkeep⟩
  · rw [List.length_modify]
    exact (h.row.of_block ht1).set i v'
  · rw [List.length_modify] at hj
    rw [getD_mod _ _ _ _ hj]
    by_cases e : j = i
    · subst e
      rw [if_pos rfl, if_pos rfl]
      exact ownsRow_setCell hown htv
    · rw [if_neg e, if_neg (Ne.symm e)]
      refine own_same (h.own j hj) fun b e2 => hkeep b _ (h.cr j hj b e2) (by simp) ?_
      intro e3
      simp only [Prod.mk.injEq, Nat.add_right_cancel_iff, true_and] at e3
      exact e e3
  · rw [List.length_modify] at hj
    by_cases e3 : j = i
    · subst e3
      rw [if_pos rfl] at e
      show (if v'.ownBlock = some b then some (k, j + 1) else c b) = some (k, j + 1)
      rw [if_pos e]
    · rw [if_neg e3] at e
      exact c1 _ _ (h.cr j hj b e)
  · rw [Below.heap_setCell _ _ _ _ (by intro e2; subst e2; rw [h.ct] at e; cases e)]
    refine hg.block b hb fun e2 => ?_
    rw [hcr b e2.symm] at e; cases e
theorem Tb2.setCell1 (h : Tb2 w B t1 t2 c C v1 v2) (i : Nat) (hi : i < C.cells.length) (v' : Value) (f : List (List UInt8) → List (List UInt8))
    (hg : w.grownBy w1 (v1 i).ownBlock) (hown : w1.ownsRow B 9 1 v' (f (C.cells.getD i [])).length (strCs (f (C.cells.getD i [])))) (hat : v'.ownBlock = (v1 i).ownBlock ∨ ∀ b, v'.ownBlock = some b → w.heap.size ≤ b) :
    Tb2 (w1.setCell ⟨t1, i, none⟩ v') B t1 t2 (c.put v'.ownBlock (1, i + 1)) ⟨C.cells.modify i f, C.frees⟩ (fun j => if j = i then v' else v1 j) v2 ∧ TStp c (c.put v'.ownBlock (1, i + 1)) w (w1.setCell ⟨t1, i, none⟩ v') := by
  obtain ⟨q1, q2, q3, q4, q5⟩ := h.a.setRow h.lo i hi v' f hg hown hat
  exact ⟨⟨q1, h.b.keep q4 fun b j e => q5 b _ e (by simp) (by simp), q3⟩, q2⟩
theorem Tb2.setCell2 (h : Tb2 w B t1 t2 c C v1 v2) (i : Nat) (hi : i < C.frees.length) (v' : Value) (f : List (List UInt8) → List (List UInt8))
    (hg : w.grownBy w1 (v2 i).ownBlock) (hown : w1.ownsRow B 9 1 v' (f (C.frees.getD i [])).length (strCs (f (C.frees.getD i [])))) (hat : v'.ownBlock = (v2 i).ownBlock ∨ ∀ b, v'.ownBlock = some b → w.heap.size ≤ b) :
    Tb2 (w1.setCell ⟨t2, i, none⟩ v') B t1 t2 (c.put v'.ownBlock (2, i + 1)) ⟨C.cells, C.frees.modify i f⟩ v1 (fun j => if j = i then v' else v2 j) ∧ TStp c (c.put v'.ownBlock (2, i + 1)) w (w1.setCell ⟨t2, i, none⟩ v') := by
  obtain ⟨q1, q2, q3, q4, q5⟩ := h.b.setRow h.lo i hi v' f hg hown hat
  exact ⟨⟨h.a.keep q4 fun b j e => q5 b _ e (by simp) (by simp), q1, q3⟩, q2⟩
end
end Go.Proofs.YtdoaeapahgmfoaaGreatDoor
namespace Go.Proofs.YtdoaeapahgmfoaaGreatDoor
open Go.RowKit
def leL (x y : List UInt8) : Bool := decide (x ≤ y)
theorem leL_trans (a b c : List UInt8) (h1 : leL a b = true) (h2 : leL b c = true) : leL a c = true := by
  simp only [leL, decide_eq_true_eq] at *; exact List.le_trans h1 h2
theorem leL_total (a b : List UInt8) : (leL a b || leL b a) = true := by
  simp only [leL, Bool.or_eq_true, decide_eq_true_eq]; exact List.le_total a b
/-- A scope, as it is handed back. -/
def scF (fr : List Fr) (c : CF) (i : Nat) : Sc := ⟨(fr.getD i dfr).around, (fr.getD i dfr).params,
  if i = 0 then [] else (fr.getD i dfr).bound.filter fun n => !(c.cells.getD i []).contains n,
  if i = 0 then [] else (fr.getD i dfr).bound.filter fun n => (c.cells.getD i []).contains n,
  (c.frees.getD i []).mergeSort leL⟩
def scsF (fr : List Fr) : List Sc := (List.range fr.length).map (scF fr (usesF fr))
theorem scsF_len (fr : List Fr) : (scsF fr).length = fr.length := by simp [scsF]
theorem scsF_at (fr : List Fr) (i : Nat) (hi : i < (scsF fr).length) : (scsF fr)[i] = scF fr (usesF fr) i := by simp [scsF]
/-- What ScopeCloses asks of a scope. -/
structure Closed (s : Nat → Sc) (i : Nat) : Prop where
  zero : i = 0 → (s i).locals = [] ∧ (s i).cells = [] ∧ (s i).frees = []
  pos : 0 < i → 0 ≤ (s i).around ∧ (s i).around < (i : Int)
  free : ∀ m ∈ (s i).frees, (m ∈ (s (s i).around.toNat).cells ∨ m ∈ (s (s i).around.toNat).frees) ∧ m ∉ (s i).cells ∧ m ∉ (s i).locals
  up : ∀ k (hk : k + 1 < (s i).frees.length), (s i).frees[k] < (s i).frees[k + 1]
  cell : ∀ m ∈ (s i).cells, m ∉ (s i).locals
theorem closed_of {fr : List Fr} (ha : Arnd fr) {c : CF} (h : CFok fr c) (i : Nat) (hi : i < fr.length) : Closed (scF fr c) i := by
  have hmem : ∀ j m, m ∈ (scF fr c j).frees ↔ m ∈ c.frees.getD j [] := fun j m => List.mem_mergeSort
  refine ⟨?_, fun h0 => ha.lt i h0 hi, fun m hm => ?_, fun k hk => ?_, fun m hm hl => ?_⟩
  · rintro rfl
    refine ⟨rfl, rfl, ?_⟩
    apply List.eq_nil_iff_forall_not_mem.2
    intro m hm
    have := (h.free 0 m ((hmem 0 m).1 hm)).1
    omega
  · obtain ⟨h1, h2, h3, h4, h5⟩ := h.free i m ((hmem i m).1 hm)
    refine ⟨?_, ?_, ?_⟩
    · show m ∈ (scF fr c (fr.getD i dfr).around.toNat).cells ∨ m ∈ (scF fr c (fr.getD i dfr).around.toNat).frees
      rw [hmem]
      refine h5.imp (fun h5 => ?_) id
      obtain ⟨h6, h7⟩ := h.cell _ m h5
      unfold scF
      dsimp only
      rw [if_neg (by omega), List.mem_filter]
      exact ⟨h7, List.contains_iff_mem.2 h5⟩
    · intro h6
      unfold scF at h6
      dsimp only at h6
      rw [if_neg (by omega), List.mem_filter] at h6
      exact h3 h6.1
    · intro h6
      unfold scF at h6
      dsimp only at h6
      rw [if_neg (by omega), List.mem_filter] at h6
      exact h3 h6.1
  · have hs : List.Pairwise (fun a b => leL a b = true) (scF fr c i).frees := List.pairwise_mergeSort leL_trans leL_total _
    have hnd : (scF fr c i).frees.Nodup := (List.mergeSort_perm _ _).nodup_iff.2 (h.nd i)
    have h1 := List.pairwise_iff_getElem.1 hs k (k + 1) (by omega) hk (Nat.lt_succ_self k)
    have h2 := List.pairwise_iff_getElem.1 hnd k (k + 1) (by omega) hk (Nat.lt_succ_self k)
    simp only [leL, decide_eq_true_eq] at h1
    rcases List.le_iff_lt_or_eq.1 h1 with h3 | h3
    · exact h3
    · exact absurd h3 h2
  · unfold scF at hm hl
    dsimp only at hm hl
    by_cases e : i = 0
    · rw [if_pos e] at hm; cases hm
    · rw [if_neg e, List.mem_filter] at hm hl
      rw [hm.2] at hl
      exact absurd hl.2 (by decide)
theorem closes_of {fr : List Fr} (ha : Arnd fr) (hd : Disj fr) (i : Nat) (hi : i < fr.length) : Closed (scF fr (usesF fr)) i := closed_of ha (uses_ok ha hd) i hi
end Go.Proofs.YtdoaeapahgmfoaaGreatDoor
namespace Go.Proofs.YtdoaeapahgmfoaaGreatDoor
open Go.RowKit
/-- The frames that were there loop as they did. -/
structure KL (d d' : Fd) : Prop where
  len : d.fr.length ≤ d'.fr.length
  lp : ∀ j, j < d.fr.length → (d'.fr.getD j dfr).loops = (d.fr.getD j dfr).loops
theorem KL.refl (d : Fd) : KL d d := ⟨Nat.le_refl _, fun _ _ => rfl⟩
theorem KL.trans {a b c : Fd} (h : KL a b) (k : KL b c) : KL a c := ⟨Nat.le_trans h.len k.len, fun j hj => (k.lp j (Nat.lt_of_lt_of_le hj h.len)).trans (h.lp j hj)⟩
theorem kl_fold {α : Type} (f : Fd → α → Fd) (l : List α) (hf : ∀ d a, a ∈ l → KL d (f d a)) : ∀ d, KL d (l.foldl f d) := by
  induction l with
  | nil => intro d; exact KL.refl d
  | cons a r ih => intro d; exact (hf d a List.mem_cons_self).trans (ih (fun d b hb => hf d b (List.mem_cons_of_mem _ hb)) _)
theorem kl_fail (d : Fd) (b : Bool) : KL d (d.failIf b) := ⟨by rw [fail_fr]; exact Nat.le_refl _, fun j _ => by rw [fail_fr]⟩
theorem setF_len (d : Fd) (i : Nat) (f : Fr → Fr) : (d.set i f).fr.length = d.fr.length := by simp [Fd.set]
theorem setF_at (d : Fd) (i j : Nat) (f : Fr → Fr) (hj : j < d.fr.length) : (d.set i f).fr.getD j dfr = if i = j then f (d.fr.getD j dfr) else d.fr.getD j dfr := by
  show (d.fr.modify i f).getD j dfr = _
  rw [getD_modify]
  by_cases e : i = j <;> simp [e, hj]
theorem setF_congr (d : Fd) (i : Nat) (f g : Fr → Fr) (h : f (d.fr.getD i dfr) = g (d.fr.getD i dfr)) : d.set i f = d.set i g := by
  have e : d.fr.modify i f = d.fr.modify i g := by
    apply List.ext_getElem?
    intro k
    rw [List.getElem?_modify, List.getElem?_modify]
    by_cases e : i = k
    · subst e
      rw [List.getD_eq_getElem?_getD] at h
      rcases h2 : d.fr[i]? with _ | v
      · rfl
      · rw [h2] at h
        simp only [Option.getD_some] at h
        simp [h]
    · simp [e]
  unfold Fd.set
  rw [e]
theorem kl_set (d : Fd) (i : Nat) (f : Fr → Fr) (hf : ∀ x, (f x).loops = x.loops) : KL d (d.set i f) := by
  refine ⟨by rw [setF_len]; exact Nat.le_refl _, fun j hj => ?_⟩
  rw [setF_at d i j f hj]
  split
  · exact hf _
  · rfl
theorem kl_open (d : Fd) (a : Int) (ps : List (List UInt8)) : KL d (d.open_ a ps) := by
  refine ⟨by rw [open_len]; omega, fun j hj => ?_⟩
  show (((openP d [] ps).fr ++ [_]).getD j dfr).loops = _
  rw [openP_fr, getD_snoc, if_neg (by omega)]
theorem kl_bind (d : Fd) (i : Nat) (n : List UInt8) : KL d (d.bind i n) := by
  unfold Fd.bind
  split
  · exact KL.refl _
  · exact kl_set _ _ _ fun _ => rfl
theorem kl_term : ∀ (f : Nat) (e : Ex) (i : Nat) (d : Fd), KL d (termF f e i d)
  | 0, _, _, d => KL.refl d
  | f + 1, e, i, d => by
    unfold termF
    dsimp only
    have h1 : KL d (if e.op = oName then d.set i (fun x => { x with used := addL x.used e.s }) else d) := by
      split
      · exact kl_set _ _ _ fun _ => rfl
      · exact KL.refl _
    refine h1.trans ?_
    generalize (if e.op = oName then d.set i (fun x => { x with used := addL x.used e.s }) else d) = d1
    split
    · exact (kl_open _ _ _).trans (kl_fold _ _ (fun d a _ => kl_term f a _ d) _)
    · exact kl_fold _ _ (fun d a _ => kl_term f a _ d) _
theorem kl_said (i : Nat) (g : Bool) (ps : List (List UInt8)) (d : Fd) : KL d (saidF d i g ps) := by
  unfold saidF
  refine kl_fold _ _ (fun d n _ => ?_) _
  dsimp only
  split
  · exact (kl_fail d _).trans (kl_set _ _ _ fun _ => rfl)
  · exact (kl_fail d _).trans (kl_set _ _ _ fun _ => rfl)
theorem kl_head (s : Stm) (i : Nat) (d : Fd) : KL d (headF s i d) := by
  rw [headF_eq]
  have h1 : KL d { d with stmt := d.stmt + 1 } := ⟨Nat.le_refl _, fun _ _ => rfl⟩
  refine h1.trans ?_
  generalize ({ d with stmt := d.stmt + 1 } : Fd) = d1
  have h2 : KL d1 (kindF1 s i d1) := by
    unfold kindF1
    split
    · exact kl_fail _ _
    · split
      · exact kl_fail _ _
      · split
        · exact (kl_fail _ _).trans (kl_said _ _ _ _)
        · exact KL.refl _
  refine h2.trans ?_
  refine (kl_fold _ s.l (fun d a _ => kl_term a.nodes a i d) _).trans ?_
  unfold kindF2
  split
  · exact kl_bind _ _ _
  · exact KL.refl _
theorem kl_block : ∀ (f : Nat) (l : List Stm) (i : Nat) (d : Fd), KL d (blockF f l i d)
  | 0, _, _, d => KL.refl d
  | f + 1, l, i, d => by
    rw [blockF_eq]
    refine kl_fold _ l (fun d s _ => ?_) d
    refine (kl_head s i d).trans ?_
    generalize headF s i d = d1
    unfold kindF3
    split
    · have h := kl_block f s.body i (d1.set i fun x => { x with loops := x.loops + 1 })
      refine ⟨by have := h.len; rw [setF_len] at this ⊢; exact this, fun j hj => ?_⟩
      have hl := h.len
      rw [setF_len] at hl
      have h2 := h.lp j (by rw [setF_len]; exact hj)
      rw [setF_at _ _ _ _ hj] at h2
      rw [setF_at _ _ _ _ (Nat.lt_of_lt_of_le hj hl)]
      by_cases e : i = j
      · rw [if_pos e] at h2 ⊢
        show _ - 1 = _
        rw [h2]
        exact Nat.add_sub_cancel _ _
      · rw [if_neg e] at h2 ⊢
        exact h2
    · split
      · exact (kl_open _ _ _).trans (kl_block f s.body _ _)
      · refine (kl_block f s.body i d1).trans ?_
        refine KL.trans ?_ (kl_block f s.els i _)
        split
        · exact kl_bind _ _ _
        · exact KL.refl _
/-- A loop is entered. -/
theorem sm_loops {d : Fd} {N : Nat} (h : Sm d N) (i : Nat) : Sm (d.set i fun x => { x with loops := x.loops + 1 }) (N + 1) := h.set (by omega) i _ (fun k => by
  have := h.row i k
  match k with
  | 0 => exact Nat.le_succ_of_le this
  | 1 => exact Nat.le_succ_of_le this
  | 2 => exact Nat.le_succ_of_le this
  | _ + 3 => exact Nat.le_succ_of_le this) (by have := h.loops i; show _ + 1 ≤ _; omega)
end Go.Proofs.YtdoaeapahgmfoaaGreatDoor
