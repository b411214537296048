/- scope.lambdas: the walk. -/
import Derived.Test.YtdoaeapahgmfoaaGreatDoorC33
namespace Go.Proofs.YtdoaeapahgmfoaaGreatDoor
open Go.RowKit
/-- The number of the scope that was opened last, at block y. -/
def NxC (w : World) (y k : Nat) : Prop := w.heap[y]? = some (.cells #[.int .i64 (k : Int)] 3 (0, 0))
/-- Only y, and new memory. -/
structure YStp (y : Nat) (w w' : World) : Prop where
  os : w'.os = w.os
  tape : w'.tape = w.tape
  output : w'.output = w.output
  size : w.heap.size ≤ w'.heap.size
  keep : ∀ b, b < w.heap.size → b ≠ y → w'.heap[b]? = w.heap[b]?
def NotY (w : World) (y : Nat) : Nat → Prop := fun b => b < w.heap.size ∧ b ≠ y
section
variable {w w' : World} {y : Nat}
theorem YStp.refl (y : Nat) (w : World) : YStp y w w := ⟨rfl, rfl, rfl, Nat.le_refl _, fun _ _ _ => rfl⟩
theorem YStp.trans {a b d : World} (h : YStp y a b) (k : YStp y b d) : YStp y a d :=
  ⟨k.os.trans h.os, k.tape.trans h.tape, k.output.trans h.output, Nat.le_trans h.size k.size, fun n hn hy => (k.keep n (Nat.lt_of_lt_of_le hn h.size) hy).trans (h.keep n hn hy)⟩
theorem YStp.grow (h : Below w.heap.size w w') : YStp y w w' := ⟨h.os, h.tape, h.output, h.size, fun b hb _ => h.block b hb⟩
theorem YStp.un (h : YStp y w w') {b : Nat} (hb : NotY w y b) : NotY w' y b := ⟨Nat.lt_of_lt_of_le hb.1 h.size, hb.2⟩
theorem YStp.cell (h : YStp y w w') {b o : Nat} (hb : NotY w y b) : w'.cell? ⟨b, o, none⟩ = w.cell? ⟨b, o, none⟩ := World.cell?_of_block (h.keep b hb.1 hb.2)
theorem YStp.strs (h : YStp y w w') {v : Value} {l : List (List UInt8)} (hs : StrsAt w (NotY w y) v l) : StrsAt w' (NotY w' y) v l := hs.mono (fun _ _ hb => h.cell hb) fun _ hb => h.un hb
theorem YStp.exs (h : YStp y w w') {v : Value} {l : List Ex} (hs : ExsAt w (NotY w y) v l) : ExsAt w' (NotY w' y) v l := hs.mono (fun _ _ hb => h.cell hb) fun _ hb => h.un hb
theorem NxC.below {k : Nat} (h : NxC w y k) (hb : Below w.heap.size w w') : NxC w' y k := (hb.block y (lt_of_blk h)).trans h
/-- The number is set. -/
theorem NxC.set {k : Nat} (h : NxC w y k) (n : Nat) (v : Int) (hv : v = (n : Int)) : NxC (w.setCell ⟨y, 0, none⟩ (.int .i64 v)) y n ∧ YStp y w (w.setCell ⟨y, 0, none⟩ (.int .i64 v)) := by
  subst hv
  exact ⟨heap_setCell_at (o := 0) h, rfl, rfl, rfl, by simp, fun b _ hne => Below.heap_setCell _ _ _ _ hne⟩
end
theorem exsNodes_len (l : List Ex) : l.length ≤ exsNodes l := by
  induction l with
  | nil => exact Nat.le_refl _
  | cons e r ih => have := Ex.nodes_l e; simp only [List.length_cons, exsNodes]; omega
theorem lamF_fold (g : Nat → Ex → Nat) : ∀ (l : List Ex) (_ : ∀ e ∈ l, ∀ k, g k e ≤ k + e.nodes) (k : Nat), l.foldl g k ≤ k + exsNodes l
  | [], _, k => Nat.le_refl _
  | e :: r, h, k => by
    simp only [List.foldl_cons, exsNodes]
    have h1 := lamF_fold g r (fun a ha => h a (List.mem_cons_of_mem _ ha)) (g k e)
    have h2 := h e List.mem_cons_self k
    omega
theorem lamF_le : ∀ (f : Nat) (e : Ex) (k : Nat), lambdasF f e k ≤ k + e.nodes
  | 0, _, _ => Nat.le_add_right _ _
  | f + 1, e, k => by
    have hn := Ex.nodes_l e
    unfold lambdasF
    have h1 := lamF_fold (fun k e => lambdasF f e k) e.l (fun a _ k => lamF_le f a k) (if e.op = oLambda then k + 1 else k)
    have h2 : (if e.op = oLambda then k + 1 else k) ≤ k + 1 := by split <;> omega
    omega
/-- What lambdas does, for terms of so many nodes. -/
def LamC (f : Nat) : Prop := ∀ (e : Ex) (w : World) (y k : Nat) (vp vz : Value), e.nodes ≤ f → NxC w y k → k + e.nodes ≤ 100000000 → StrsAt w (NotY w y) vp e.p → ExsAt w (NotY w y) vz e.l →
  Calls Tryz.prog 113 #[.agg #[.string (toBA e.op), .int .i64 e.n, .string (toBA e.s), vp, vz], .pointer (some ⟨y, 0, none⟩)] w fun r w' => r = .returned (.tuple #[]) ∧ NxC w' y (lambdasF f e k) ∧ YStp y w w'
set_option maxRecDepth 100000 in
set_option maxHeartbeats 20000000 in
theorem lam_step {f : Nat} (hf : LamC f) : LamC (f + 1) := by
  intro e w y k vp vz hnd hy hk hp hx
  obtain ⟨ap, cp, rfl, hpcap, hpr⟩ := id hp
  obtain ⟨al, cl, rfl, hlcap, hlr⟩ := id hx
  have hbA := (Below.refl w.heap.size w).alloc (Nat.le_refl _) (.cells #[.string (toBA e.op), .int .i64 e.n, .string (toBA e.s), .slice ap e.p.length cp, .slice al e.l.length cl] 140)
  have hyA := hy.below hbA
  have sA : YStp y w _ := YStp.grow hbA
  have hne := Ex.nodes_l e
  have hblk := heap_alloc_new w (.cells #[.string (toBA e.op), .int .i64 e.n, .string (toBA e.s), .slice ap e.p.length cp, .slice al e.l.length cl] 140)
  have hyl := lt_of_blk hy
  have hbU : NotY (w.alloc (.cells #[.string (toBA e.op), .int .i64 e.n, .string (toBA e.s), .slice ap e.p.length cp, .slice al e.l.length cl] 140)) y w.heap.size := ⟨by simp, by omega⟩
  have hT : lambdasF (f + 1) e k = e.l.foldl (fun k e => lambdasF f e k) (if e.op = oLambda then k + 1 else k) := rfl
  have c0 := cell_of_blk (o := 0) hblk
  have c4 := cell_of_blk (o := 4) hblk
  have hel : e.l.length ≤ 100000000 := by have := exsNodes_len e.l; omega
  have Hrow := Lib.hid hlr; have Hf := Lib.hid hf; have Hnd := Lib.hid (show exsNodes e.l ≤ f by omega)
  by_cases h1 : e.op = oLambda
  · have u2 : ((toBA e.op).toList == [108, 97, 109, 98, 100, 97]) = true := by rw [m_toList]; simp [h1, oLambda]
    rw [if_pos h1] at hT
    have wk : IntKind.i64.wrap ((k : Int) + 1) = (k : Int) + 1 := IntWalk.i64_in _ (by omega)
    have y0 := cell_of_blk (o := 0) hyA
    have f0 := frozen_of_blk (o := 0) hyA
    have yl := lt_of_blk hyA
    obtain ⟨hY1, s1⟩ := hy.set (k + 1) ((k : Int) + 1) (by omega)
    have hbA2 := (Below.refl _ (w.setCell ⟨y, 0, none⟩ (.int .i64 ((k : Int) + 1)))).alloc (Nat.le_refl _) (.cells #[.string (toBA e.op), .int .i64 e.n, .string (toBA e.s), .slice ap e.p.length cp, .slice al e.l.length cl] 140)
    have hblk2 := heap_alloc_new (w.setCell ⟨y, 0, none⟩ (.int .i64 ((k : Int) + 1))) (.cells #[.string (toBA e.op), .int .i64 e.n, .string (toBA e.s), .slice ap e.p.length cp, .slice al e.l.length cl] 140)
    have hsz2 : (w.setCell ⟨y, 0, none⟩ (.int .i64 ((k : Int) + 1))).heap.size = w.heap.size := by simp
    rw [hsz2] at hblk2
    have c4 := cell_of_blk (o := 4) hblk2
    have HY0 := Lib.hid (hY1.below hbA2); have HS0 := Lib.hid (s1.trans (YStp.grow hbA2)); have HT := Lib.hid hT
    clear hlr hf hpr hblk hbU hbA hp hx h1 hy hyA hY1 s1 sA hT hbA2 hblk2 hsz2
    go_enter Tryz.func113, Tryz.ntmps113
    go_wp2_with fail
    skip
    go_loopw [17] (fun t wr => ∃ (j : Nat), j ≤ e.l.length ∧ t = .int .i64 j ∧ NxC wr y ((e.l.take j).foldl (fun k e => lambdasF f e k) (k + 1)) ∧ YStp y w wr) (fun t _ => e.l.length - (intOf t).toNat)
    case atStart => exact ⟨0, by omega, rfl, HY0.out, HS0.out⟩
    case round =>
      obtain ⟨j, hj, rfl, hY, sS⟩ := hrel
      by_cases hjl : j < e.l.length
      · have t1 : decide ((j : Int) < (e.l.length : Int)) = true := by simp; omega
        obtain ⟨b, o, rfl, hbU, hrow⟩ := Hrow.out (by omega)
        obtain ⟨vp1, vz1, q0, q1, q2, q3, q4, hp1, hx1⟩ := (hrow.at_ _ _ _ j hjl).open_
        have Hp1 := Lib.hid hp1; have Hx1 := Lib.hid hx1
        obtain ⟨ap1, cp1, rfl, _⟩ := hp1
        obtain ⟨al1, cl1, rfl, _⟩ := hx1
        have q0 := (sS.cell hbU).trans q0
        have q1 := (sS.cell hbU).trans q1
        have q2 := (sS.cell hbU).trans q2
        have q3 := (sS.cell hbU).trans q3
        have q4 := (sS.cell hbU).trans q4
        have hbA := (Below.refl wr.heap.size wr).alloc (Nat.le_refl _) (.cells #[.string (toBA e.l[j].op), .int .i64 e.l[j].n, .string (toBA e.l[j].s), .slice ap1 e.l[j].p.length cp1, .slice al1 e.l[j].l.length cl1] 140)
        have hsA := sS.trans (YStp.grow hbA)
        have hm := exs_mem (List.getElem_mem hjl)
        have hbt := exsNodes_take e.l j hjl
        have hbl : exsNodes (e.l.take (j + 1)) ≤ exsNodes e.l := exsNodes_le _ _
        have hle := lamF_fold (fun k e => lambdasF f e k) (e.l.take j) (fun a _ k => lamF_le f a k) (k + 1)
        have hcall := Hf.out e.l[j] _ y _ _ _ (by have := Hnd.out; omega) (hY.below hbA) (by omega) (hsA.strs Hp1.out) (hsA.exs Hx1.out)
        rw [← fold_take (fun k e => lambdasF f e k) e.l (k + 1) j hjl] at hcall
        have Hcall := Lib.hid hcall; have HsA := Lib.hid hsA
        clear hcall hsA hY sS hrow hm hbt hbl hle hbA
        go_wp2_with fail
        refine Hcall.out.mono ?_
        rintro _ w2 ⟨rfl, hY2, s2⟩
        have HY2 := Lib.hid hY2; have HS2 := Lib.hid (HsA.out.trans s2)
        clear hY2 s2 Hcall q0 q1 q2 q3 q4
        go_wp2_with fail
        go_roundw
        case rel => exact ⟨j + 1, by omega, by go_num, HY2.out, HS2.out⟩
        case measure => simp [intOf]; omega
      · have t1 : decide ((j : Int) < (e.l.length : Int)) = false := by simp; omega
        obtain rfl : j = e.l.length := by omega
        rw [List.take_of_length_le (Nat.le_refl _)] at hY
        have HYe := Lib.hid hY; have HSe := Lib.hid sS
        clear hY sS
        go_wp2_with fail
        go_end0
        exact ⟨rfl, by rw [HT.out]; exact HYe.out, HSe.out⟩
  · have u2 : ((toBA e.op).toList == [108, 97, 109, 98, 100, 97]) = false := m_ne h1
    rw [if_neg h1] at hT
    have HY0 := Lib.hid hyA; have HS0 := Lib.hid sA; have HT := Lib.hid hT
    clear hlr hf hpr hblk hbU hbA hp hx h1 hy hyA sA hT
    go_enter Tryz.func113, Tryz.ntmps113
    go_wp2_with fail
    skip
    go_loopw [17] (fun t wr => ∃ (j : Nat), j ≤ e.l.length ∧ t = .int .i64 j ∧ NxC wr y ((e.l.take j).foldl (fun k e => lambdasF f e k) k) ∧ YStp y w wr) (fun t _ => e.l.length - (intOf t).toNat)
    case atStart => exact ⟨0, by omega, rfl, HY0.out, HS0.out⟩
    case round =>
      obtain ⟨j, hj, rfl, hY, sS⟩ := hrel
      by_cases hjl : j < e.l.length
      · have t1 : decide ((j : Int) < (e.l.length : Int)) = true := by simp; omega
        obtain ⟨b, o, rfl, hbU, hrow⟩ := Hrow.out (by omega)
        obtain ⟨vp1, vz1, q0, q1, q2, q3, q4, hp1, hx1⟩ := (hrow.at_ _ _ _ j hjl).open_
        have Hp1 := Lib.hid hp1; have Hx1 := Lib.hid hx1
        obtain ⟨ap1, cp1, rfl, _⟩ := hp1
        obtain ⟨al1, cl1, rfl, _⟩ := hx1
        have q0 := (sS.cell hbU).trans q0
        have q1 := (sS.cell hbU).trans q1
        have q2 := (sS.cell hbU).trans q2
        have q3 := (sS.cell hbU).trans q3
        have q4 := (sS.cell hbU).trans q4
        have hbA := (Below.refl wr.heap.size wr).alloc (Nat.le_refl _) (.cells #[.string (toBA e.l[j].op), .int .i64 e.l[j].n, .string (toBA e.l[j].s), .slice ap1 e.l[j].p.length cp1, .slice al1 e.l[j].l.length cl1] 140)
        have hsA := sS.trans (YStp.grow hbA)
        have hm := exs_mem (List.getElem_mem hjl)
        have hbt := exsNodes_take e.l j hjl
        have hbl : exsNodes (e.l.take (j + 1)) ≤ exsNodes e.l := exsNodes_le _ _
        have hle := lamF_fold (fun k e => lambdasF f e k) (e.l.take j) (fun a _ k => lamF_le f a k) k
        have hcall := Hf.out e.l[j] _ y _ _ _ (by have := Hnd.out; omega) (hY.below hbA) (by omega) (hsA.strs Hp1.out) (hsA.exs Hx1.out)
        rw [← fold_take (fun k e => lambdasF f e k) e.l k j hjl] at hcall
        have Hcall := Lib.hid hcall; have HsA := Lib.hid hsA
        clear hcall hsA hY sS hrow hm hbt hbl hle hbA
        go_wp2_with fail
        refine Hcall.out.mono ?_
        rintro _ w2 ⟨rfl, hY2, s2⟩
        have HY2 := Lib.hid hY2; have HS2 := Lib.hid (HsA.out.trans s2)
        clear hY2 s2 Hcall q0 q1 q2 q3 q4
        go_wp2_with fail
        go_roundw
        case rel => exact ⟨j + 1, by omega, by go_num, HY2.out, HS2.out⟩
        case measure => simp [intOf]; omega
      · have t1 : decide ((j : Int) < (e.l.length : Int)) = false := by simp; omega
        obtain rfl : j = e.l.length := by omega
        rw [List.take_of_length_le (Nat.le_refl _)] at hY
        have HYe := Lib.hid hY; have HSe := Lib.hid sS
        clear hY sS
        go_wp2_with fail
        go_end0
        exact ⟨rfl, by rw [HT.out]; exact HYe.out, HSe.out⟩
theorem lam_all : ∀ f, LamC f
  | 0 => fun e w y k vp vz hnd => by have := Ex.nodes_l e; omega
  | f + 1 => lam_step (lam_all f)
end Go.Proofs.YtdoaeapahgmfoaaGreatDoor
