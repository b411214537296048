/- R.Index and R.Has of longer rows. nurserypylaw1.bare: the walk. StmtsOf: the document's statements as the program's: the walk. -/
import Derived.Test.YtdoaeapahgmfoaaGreatDoorC09
import Derived.Test.YtdoaeapahgmfoaaGreatDoorC12
import Derived.Test.YtdoaeapahgmfoaaGreatDoorC47
namespace Go.Proofs.YtdoaeapahgmfoaaGreatDoor
open Go.RowKit
set_option maxRecDepth 100000 in
set_option maxHeartbeats 20000000 in
theorem rIndexBig {w : World} (zs : List (List UInt8)) (v : Value) (s : List UInt8) (G : Nat → Prop) (hz : StrsAt w G v zs) (hl : zs.length ≤ 40000000) :
    Calls Tryz.prog 62 #[v, .string (toBA s)] w fun e w' => e = .returned (.int .i64 (indexL zs s)) ∧ w = w' := by
  obtain ⟨a, c, rfl, hr⟩ := hz
  have Hr := Lib.hid hr; clear hr
  go_enter Tryz.func62, Tryz.ntmps62
  go_wp2_with fail
  go_loop [5] (fun i => ∃ j : Nat, j ≤ zs.length ∧ i = .int .i64 j ∧ ∀ i (hi : i < zs.length), i < j → zs[i] ≠ s) (fun i => zs.length - (intOf i).toNat)
  case atStart => exact ⟨0, by omega, rfl, fun _ _ h => absurd h (by omega)⟩
  case round =>
    obtain ⟨j, hj, rfl, hno⟩ := hrel
    have Hno := Lib.hid hno; clear hno
    by_cases hjl : j < zs.length
    · have t1 : decide ((j : Int) < (zs.length : Int)) = true := by simp; omega
      obtain ⟨b, o, rfl, _, hc⟩ := Hr.out.2 (by omega)
      have q := hc j hjl
      clear hc
      by_cases he : zs[j] = s
      · have hix : indexL zs s = (j : Int) := by unfold indexL; rw [findIdx_take hjl Hno.out he]
        have Hix := Lib.hid hix; clear hix
        rw [he] at q
        have u1 : ((toBA s).toList == (toBA s).toList) = true := by simp
        go_wp2_with fail
        refine bodyPost_ret (results_tmp rfl _ _ _) rfl ?_
        exact ⟨by rw [Hix.out]; rfl, rfl⟩
      · have u1 : ((toBA zs[j]).toList == (toBA s).toList) = false := by rw [m_toList, m_toList]; simp [he]
        have He := Lib.hid he; clear he
        go_wp2_with fail
        go_round
        case rel =>
          refine ⟨j + 1, by omega, by go_num, fun i hi h => ?_⟩
          rcases Nat.lt_or_ge i j with h' | h'
          · exact Hno.out i hi h'
          · have : i = j := by omega
            subst this
            exact He.out
        case measure => simp [intOf]; omega
    · have t1 : decide ((j : Int) < (zs.length : Int)) = false := by simp; omega
      have hix : indexL zs s = -1 := by unfold indexL; rw [findIdx_none fun i hi => Hno.out i hi (by omega)]
      have Hix := Lib.hid hix; clear hix
      go_wp2_with fail
      refine bodyPost_ret (results_tmp rfl _ _ _) rfl ?_
      exact ⟨by rw [Hix.out]; rfl, rfl⟩
set_option maxRecDepth 100000 in
set_option maxHeartbeats 20000000 in
theorem rHasBig {w : World} (zs : List (List UInt8)) (v : Value) (s : List UInt8) (G : Nat → Prop) (hz : StrsAt w G v zs) (hl : zs.length ≤ 40000000) :
    Calls Tryz.prog 29 #[v, .string (toBA s)] w fun e w' => e = .returned (.bool (zs.contains s)) ∧ w = w' := by
  have hh := indexL_has zs s
  go_enter Tryz.func29, Tryz.ntmps29
  have Hh := Lib.hid hh; clear hh
  go_wp2_with fail
  refine (rIndexBig zs v s G hz hl).mono ?_
  rintro e w2 ⟨rfl, rfl⟩
  rcases hb : decide (0 ≤ indexL zs s) with _ | _
  · have Hb := Lib.hid (Hh.out.symm.trans hb)
    go_wp2_with fail
    refine bodyPost_ret (results_tmp rfl _ _ _) rfl ?_
    exact ⟨by rw [Hb.out]; rfl, rfl⟩
  · have Hb := Lib.hid (Hh.out.symm.trans hb)
    go_wp2_with fail
    refine bodyPost_ret (results_tmp rfl _ _ _) rfl ?_
    exact ⟨by rw [Hb.out]; rfl, rfl⟩
end Go.Proofs.YtdoaeapahgmfoaaGreatDoor
namespace Go.Proofs.YtdoaeapahgmfoaaGreatDoor
open Go.RowKit
theorem first_nil : (firstF []).fr = [⟨-1, 0, [], [], [], [], 0⟩] := rfl
theorem second_nil : (secondF []).bad = [] := rfl
set_option maxRecDepth 100000 in
set_option maxHeartbeats 20000000 in
theorem lawBare_any {w : World} (hen : ∃ te pe, w.cell? ⟨3, 0, none⟩ = some (.iface te pe)) :
    Calls Tryz.prog 8 #[] w fun e w' => e = .returned (.bool true) ∧ Below w.heap.size w w' := by
  have hs := scopes_any (T := False) (ttext_nil w) hen ⟨none, 0, rfl, fun h => by simp at h⟩ (by decide)
  have Hs := Lib.hid hs
  clear hs hen
  go_enter Tryz.func8, Tryz.ntmps8
  go_wp2_with fail
  refine Hs.out.mono ?_
  rintro _ w1 ⟨hb, hc⟩
  rcases hc with ⟨te, pe, rfl, hcz⟩ | ⟨v, rfl, _, _, hsc⟩
  · rcases hcz with ⟨h, _⟩ | ⟨_, _, _, _, _, _, _, h, _⟩
    · exact h.elim
    · exact absurd second_nil h
  · obtain ⟨a, c, rfl, hr⟩ := hsc
    have hl : (scsF (firstF []).fr).length = 1 := by rw [scsF_len, first_nil]; rfl
    obtain ⟨b, o, rfl, _, hz⟩ := hr (by omega)
    obtain ⟨nm, vl, vc, vf, -, h1, -⟩ := hz 0 (by omega)
    have e1 : ((scsF (firstF []).fr)[0]'(by omega)).around = -1 := by rw [scsF_at]; rfl
    rw [e1] at h1
    rw [hl]
    have h1 : w1.cell? ⟨b, o + 1, none⟩ = some (.int .i64 (-1)) := by simpa using h1
    have Hb := Lib.hid hb
    clear hb hr hz hl e1 Hs
    go_wp2_with fail
    refine bodyPost_ret (results_tmp rfl _ _ _) rfl ?_
    exact ⟨rfl, Hb.out⟩
end Go.Proofs.YtdoaeapahgmfoaaGreatDoor
namespace Go.Proofs.YtdoaeapahgmfoaaGreatDoor
open Go.RowKit
theorem Tryz.infoPSt : (Tryz.prog.info? 82).map (fun i => (i.zero, i.size, i.bytes)) = some (some (.agg #[.string ⟨#[]⟩, .string ⟨#[]⟩, .slice none 0 0, .slice none 0 0, .slice none 0 0, .slice none 0 0]), 6, 128) := by kernel_rfl
structure SV where
  p : Value
  l : Value
  b : Value
  e : Value
def stCells : List Stm → List SV → List Value
  | s :: r, p :: q => [.string (toBA s.kind), .string (toBA s.name), p.p, p.l, p.b, p.e] ++ stCells r q
  | _, _ => []
theorem stCells_snoc : ∀ (l : List Stm) (ps : List SV) (s : Stm) (p : SV), ps.length = l.length → stCells (l ++ [s]) (ps ++ [p]) = stCells l ps ++ [.string (toBA s.kind), .string (toBA s.name), p.p, p.l, p.b, p.e]
  | [], [], _, _, _ => rfl
  | a :: r, q :: t, e, p, h => by
    have := stCells_snoc r t e p (by simpa using h)
    simp only [List.cons_append, stCells, this, List.append_assoc]
theorem stCells_at : ∀ (l : List Stm) (ps : List SV) (h : ps.length = l.length) (j : Nat) (hj : j < l.length), (stCells l ps)[j * 6]? = some (.string (toBA l[j].kind)) ∧ (stCells l ps)[j * 6 + 1]? = some (.string (toBA l[j].name)) ∧
    (stCells l ps)[j * 6 + 2]? = some (ps[j]'(by omega)).p ∧ (stCells l ps)[j * 6 + 3]? = some (ps[j]'(by omega)).l ∧ (stCells l ps)[j * 6 + 4]? = some (ps[j]'(by omega)).b ∧ (stCells l ps)[j * 6 + 5]? = some (ps[j]'(by omega)).e
  | a :: r, q :: t, h, 0, _ => ⟨rfl, rfl, rfl, rfl, rfl, rfl⟩
  | a :: r, q :: t, h, j + 1, hj => by
    obtain ⟨h0, h1, h2, h3, h4, h5⟩ := stCells_at r t (by simpa using h) j (by simpa using hj)
    have e : ∀ k, (stCells (a :: r) (q :: t))[(j + 1) * 6 + k]? = (stCells r t)[j * 6 + k]? := by
      intro k
      show ([.string (toBA a.kind), .string (toBA a.name), q.p, q.l, q.b, q.e] ++ stCells r t)[(j + 1) * 6 + k]? = _
      rw [List.getElem?_append_right (by simp; omega)]
      congr 1
      simp; omega
    exact ⟨(e 0).trans h0, (e 1).trans h1, (e 2).trans h2, (e 3).trans h3, (e 4).trans h4, (e 5).trans h5⟩
/-- What a statement's values read as. -/
structure SvAt (w : World) (G : Nat → Prop) (v : SV) (s : Stm) : Prop where
  p : StrsAt w G v.p s.p
  l : ExsAt w G v.l s.l
  b : StmsAt w G v.b s.body
  e : StmsAt w G v.e s.els
theorem SvAt.mono {w w' : World} {G G' : Nat → Prop} {v : SV} {s : Stm} (hc : ∀ b o, G b → w'.cell? ⟨b, o, none⟩ = w.cell? ⟨b, o, none⟩) (hG : ∀ b, G b → G' b) (h : SvAt w G v s) : SvAt w' G' v s :=
  ⟨h.p.mono hc hG, h.l.mono hc hG, h.b.mono hc hG, h.e.mono hc hG⟩
/-- The statements so far. -/
structure StSt (w wr : World) (vo : Value) (es : List Stm) (ps : List SV) : Prop where
  len : ps.length = es.length
  own : wr.ownsRow w.heap.size 82 6 vo es.length (stCells es ps)
  below : Below w.heap.size w wr
  parts : ∀ i (h : i < es.length) (h2 : i < ps.length), SvAt wr (Gd w.heap.size wr vo) ps[i] es[i]
theorem StSt.grow {w wr w1 : World} {vo : Value} {es : List Stm} {ps : List SV} (h : StSt w wr vo es ps) (hb : Below wr.heap.size wr w1) : StSt w w1 vo es ps := by
  refine ⟨h.len, own_below h.own hb, below_grow h.below h.below.size hb, fun i h1 h2 => ?_⟩
  have a := h.parts i h1 h2
  have hG : ∀ b, Gd w.heap.size wr vo b → Gd w.heap.size w1 vo b := fun b hb2 => ⟨hb2.1, by have := hb.size; have := hb2.2.1; omega, hb2.2.2⟩
  have hc : ∀ b o, Gd w.heap.size wr vo b → w1.cell? ⟨b, o, none⟩ = wr.cell? ⟨b, o, none⟩ := fun b o hb2 => hb.cell (p := ⟨b, o, none⟩) hb2.2.1
  exact a.mono hc hG
/-- A statement more. -/
theorem StSt.put {w wr w1 : World} {vo : Value} {es : List Stm} {ps : List SV} {ob : Obj} (h : StSt w wr vo es ps) (e : Stm) (v : SV) {g cap : Nat}
    (hp : SvAt wr (Gd w.heap.size wr vo) v e)
    (hown : w1.ownsRow w.heap.size 82 6 (.slice (some ⟨g, 0, none⟩) (es.length + 1) cap) (es.length + 1) (stCells es ps ++ [.string (toBA e.kind), .string (toBA e.name), v.p, v.l, v.b, v.e]))
    (hg : (wr.alloc ob).grownBy w1 vo.ownBlock) (hat : vo.ownBlock = some g ∨ g = wr.heap.size + 1) :
    StSt w w1 (.slice (some ⟨g, 0, none⟩) (es.length + 1) cap) (es ++ [e]) (ps ++ [v]) := by
  have hsz := hg.size
  simp at hsz
  have hG : ∀ b, Gd w.heap.size wr vo b → Gd w.heap.size w1 (.slice (some ⟨g, 0, none⟩) (es.length + 1) cap) b := fun b hb2 => by
    refine ⟨hb2.1, by have := hb2.2.1; omega, ?_⟩
    intro e1
    simp only [Value.ownBlock, Option.some.injEq] at e1
    subst e1
    rcases hat with h2 | h2
    · exact hb2.2.2 h2
    · have := hb2.2.1; omega
  have hc : ∀ b o, Gd w.heap.size wr vo b → w1.cell? ⟨b, o, none⟩ = wr.cell? ⟨b, o, none⟩ := fun b o hb2 => by
    refine World.cell?_of_block ?_
    show w1.heap[b]? = wr.heap[b]?
    rw [hg.block b (by have := hb2.2.1; simp; omega) (Ne.symm hb2.2.2), Below.heap_alloc _ _ _ hb2.2.1]
  refine ⟨by simp [h.len], ?_, below_app h.below h.own hg h.below.size, fun i h1 h2 => ?_⟩
  · rw [stCells_snoc _ _ _ _ h.len, List.length_append]
    exact hown
  · rcases Nat.lt_or_ge i es.length with h' | h'
    · rw [List.getElem_append_left h', List.getElem_append_left (by rw [h.len]; exact h')]
      exact (h.parts i h' (by rw [h.len]; exact h')).mono hc hG
    · have : i = es.length := by simp at h1; omega
      subst this
      have e2 : (ps ++ [v])[es.length]'h2 = v := by
        rw [List.getElem_append_right (by rw [h.len]; exact Nat.le_refl _)]
        simp [h.len]
      rw [List.getElem_append_right (Nat.le_refl _), e2]
      simp only [Nat.sub_self, List.getElem_cons_zero]
      exact hp.mono hc hG
/-- The slice that is handed back. -/
theorem StSt.fin {w wr : World} {vo : Value} {es : List Stm} {ps : List SV} (h : StSt w wr vo es ps) : StmsAt wr (fun b => w.heap.size ≤ b ∧ b < wr.heap.size) vo es := by
  have ho := h.own
  rcases ho.2 with ⟨rfl, h0⟩ | ⟨g, cap, cur, hv, hB, hg, hn', hc, hsz, htake⟩
  · exact ⟨none, 0, by rw [h0], fun hp => by omega⟩
  refine ⟨some ⟨g, 0, none⟩, cap, hv, fun _ => ⟨g, 0, rfl, ⟨hB, lt_of_blk hg⟩, StmRow.of _ _ _ fun j hj => ?_⟩⟩
  have hk : ∀ k, k < es.length * 6 → wr.cell? ⟨g, k, none⟩ = (stCells es ps)[k]? := by
    intro k hk
    rw [cell_of_blk hg]
    have h1 : (cur.toList.take (es.length * 6))[k]? = (stCells es ps)[k]? := by rw [htake]
    rw [List.getElem?_take_of_lt hk] at h1
    rw [← h1, Array.getElem?_toList]
  obtain ⟨h0, h1, h2, h3, h4, h5⟩ := stCells_at es ps h.len j hj
  have a := h.parts j hj (by rw [h.len]; exact hj)
  have hG : ∀ b, Gd w.heap.size wr vo b → w.heap.size ≤ b ∧ b < wr.heap.size := fun b hb2 => ⟨hb2.1, hb2.2.1⟩
  have a2 := a.mono (w' := wr) (G' := fun b => w.heap.size ≤ b ∧ b < wr.heap.size) (fun _ _ _ => rfl) hG
  rw [Nat.zero_add]
  exact StmAt.of ((hk _ (by omega)).trans h0) ((hk _ (by omega)).trans h1) ((hk _ (by omega)).trans h2) ((hk _ (by omega)).trans h3) ((hk _ (by omega)).trans h4) ((hk _ (by omega)).trans h5) a2.p a2.l a2.b a2.e
def StmtsPost (w : World) (l : List Stm) (e : Ending) (w' : World) : Prop := Below w.heap.size w w' ∧ ∃ v, e = .returned v ∧ StmsAt w' (fun b => w.heap.size ≤ b ∧ b < w'.heap.size) v l
end Go.Proofs.YtdoaeapahgmfoaaGreatDoor
