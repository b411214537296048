/- The builder in the writer's own block: copyCheck, WriteString, Len, String; the writer's line. The writer's line. -/
import Derived.Deep.RegionHeld3
import Derived.Lib.Builder
import Derived.Lib.UnsafeStr
import Derived.Test.YtdoaeapahgmfoaaGreatDoorC13
namespace Go.Proofs.YtdoaeapahgmfoaaGreatDoor
open Go.RowKit
theorem Tryz.sizeBld : (Tryz.prog.info? 77).map (·.size) = some 2 := by kernel_rfl
theorem Tryz.liesBld : liesAt Tryz.prog Tryz.prog.depth 79 (5 / Tryz.prog.cellsOf 79) 0 77 1 = true := by kernel_rfl
theorem Tryz.cellsByte : Tryz.prog.cellsOf 5 = 1 := by kernel_rfl
/-- append of a string's bytes to bytes of one's own: where the new row lies. -/
theorem append_str_at (w : World) (base : Nat) (t u ty e : TypeId) (i : TypeInfo) (ht : Tryz.prog.underlying t = some (.slice e)) (hu : Tryz.prog.underlying u = some .string) (hi : Tryz.prog.info? e = some i) (hz : i.zero = some (.int .u8 0))
    (hsize : i.size = 1) (hby : i.bytes = 1) (v : Value) (n : Nat) (xs : List Value) (hown : w.ownsRow base e 1 v n xs) (s : ByteArray)
    (h63 : n + s.size ≤ maxLen) (hbytes : n + s.size ≤ 140737488355328) (hbase : base ≤ w.heap.size) :
    ∃ v' w', (Builtin.append_ #[t, u] ty #[v, .string s]).run Tryz.prog w = .ok v' w' ∧ w'.ownsRow base e 1 v' (n + s.size) (xs ++ Lib.strCells s) ∧ w.grownBy w' v.ownBlock ∧ (v'.ownBlock = v.ownBlock ∨ v'.ownBlock = some w.heap.size) := by
  obtain ⟨v', w', hr, h2, h3, h4⟩ := Lib.run_append_own_string (P := Tryz.prog) w base t u ty e i ht hu hi hz hsize hby v n xs hown s h63 hbytes hbase
  refine ⟨v', w', hr, h2, h3, ?_⟩
  have hxl : xs.length = n := by simpa using hown.1
  have hsmall : n + s.size ≤ 9223372036854775807 := by simp only [maxLen] at h63; omega
  rcases hown.2 with ⟨rfl, rfl⟩ | ⟨g, cap, cur, rfl, hbg, hg, hnc, hcm, hcs, htake⟩
  · by_cases hm : s.size = 0
    · rw [h4.2 ⟨rfl, hm⟩]; exact .inl rfl
    · have hr2 := run_append_nil_string (P := Tryz.prog) w t u ty e i (.int .u8 0) ht hu hi hz s (by omega) (by omega) (by rw [hby]; omega)
      rw [hr] at hr2
      injection hr2 with e1 _
      rw [e1]; exact .inr rfl
  · by_cases hroom : n + s.size ≤ cap
    · have hcs' : cur.size = cap := by simpa using hcs
      have hr2 := Lib.run_append_room_string (P := Tryz.prog) w t u ty e i ht hu hi hsize g n cap cur hg s hroom (by omega)
      rw [hr] at hr2
      injection hr2 with e1 _
      rw [e1]; exact .inl rfl
    · have holds : ∀ j u, xs[j]? = some u → w.cell? ((⟨g, 0, none⟩ : Addr).add j) = some u := hown.cells (g := g) rfl
      have hr2 := Lib.run_append_grow_string (P := Tryz.prog) w t u ty e i (.int .u8 0) ht hu hi hz ⟨g, 0, none⟩ n cap xs (by rw [hsize]; simpa using hxl) holds s (by omega) (by omega) (by rw [hby]; exact growslice_fits (by omega) (by omega))
      rw [hr] at hr2
      injection hr2 with e1 _
      rw [e1]; exact .inr rfl
theorem wpList_append_str_at {w : World} {ops : Array Oper} {rest : List Oper} {o : Oper} {a : Act} {Q : Exit → Act → World → Prop} (hgd : o.guard = none) (sl x : Operand) (t u : TypeId)
    (ho : o.op = .call { callee := .builtin .append, args := #[sl, x], argTypes := #[t, u] })
    (base : Nat) (e : TypeId) (i : TypeInfo) (ht : Tryz.prog.underlying t = some (.slice e)) (hu : Tryz.prog.underlying u = some .string) (hi : Tryz.prog.info? e = some i) (hz : i.zero = some (.int .u8 0))
    (hsize : i.size = 1) (hby : i.bytes = 1) (v : Value) (n : Nat) (xs : List Value) (hs : a.eval sl = v) (hown : w.ownsRow base e 1 v n xs) (s : ByteArray) (hx : a.eval x = .string s)
    (h63 : n + s.size ≤ maxLen) (hbytes : n + s.size ≤ 140737488355328) (hbase : base ≤ w.heap.size)
    (h : ∀ v' w', w'.ownsRow base e 1 v' (n + s.size) (xs ++ Lib.strCells s) → w.grownBy w' v.ownBlock → (v'.ownBlock = v.ownBlock ∨ v'.ownBlock = some w.heap.size) → wpList Tryz.prog ops Q rest (a.put o.dst v') w') : wpList Tryz.prog ops Q (o :: rest) a w := by
  refine wpList_plain hgd fun K hK => ?_
  obtain ⟨v', w', hr, h2, h3, h4⟩ := append_str_at w base t u o.type e i ht hu hi hz hsize hby v n xs hown s h63 hbytes hbase
  unfold Oper.wp execOp
  simp only [ho, resolve, invoke, builtin, Sem.run_bind, Sem.run_pure, Result.andThen_ok, List.map_toArray, List.map_cons, List.map_nil, hs, hx, hr]
  exact hK _ _ (h v' w' h2 h3 h4)
section
variable {w : World} {x : Nat} {st : WS} {p v : Value} {l : List UInt8}
theorem WrC.setAddr (h : WrC w x st p v l) : WrC (w.setCell ⟨x, 0, none⟩ (.pointer (some ⟨x, 0, none⟩))) x st (.pointer (some ⟨x, 0, none⟩)) v l ∧ WStp x w (w.setCell ⟨x, 0, none⟩ (.pointer (some ⟨x, 0, none⟩))) := by
  have h1 : WrC (w.setCell ⟨x, 0, none⟩ (.pointer (some ⟨x, 0, none⟩))) x st (.pointer (some ⟨x, 0, none⟩)) v l := ⟨heap_setCell_at (o := 0) h.blk, .inr rfl, ownsRow_setCell h.buf h.ne, h.len, h.ne⟩
  exact ⟨h1, h.next h1 rfl rfl rfl (by simp) (fun k _ hk _ => Below.heap_setCell _ _ _ _ hk) (fun k e => .inl e)⟩
end
set_option maxRecDepth 100000 in
set_option maxHeartbeats 20000000 in
theorem copyCheck_any {w : World} {x : Nat} {st : WS} {p v : Value} {l : List UInt8} (h : WrC w x st p v l) :
    Calls Tryz.prog 97 #[.pointer (some ⟨x, 0, none⟩)] w fun e w' => e = .returned (.tuple #[]) ∧ WrC w' x st (.pointer (some ⟨x, 0, none⟩)) v l ∧ WStp x w w' := by
  obtain ⟨j, hj, hjs⟩ := Option.map_eq_some_iff.1 Tryz.sizeBld
  have c0 := h.c0
  have f0 := h.f 0
  have hx := h.lt
  rcases h.addr with rfl | rfl
  · have hsh : w.shape? x = some (79, 5) := by simp [World.shape?, h.blk]
    have hs := h.setAddr
    have r1 := Lib.run_to_unsafe (P := Tryz.prog) w ⟨x, 0, none⟩ Tryz.underlying74 Tryz.underlying198 hj (by rw [hjs]; decide) hsh (Nat.zero_lt_succ 4)
    have r2 := Lib.run_from_unsafe (P := Tryz.prog) w ⟨x, 0, none⟩ Tryz.underlying198 Tryz.underlying74 hj hsh Tryz.liesBld
    have Hs := Lib.hid hs; clear hs
    clear h
    go_enter Tryz.func97, Tryz.ntmps97
    go_wp2_with fail
    rw [run_callFunc_extern Tryz.func146 (by kernel_rfl) (by kernel_rfl) (by kernel_rfl) (e := Extern.AbiNoEscape.same) (by kernel_rfl)]
    rw [Lib.run_noEscape]
    simp only [Result.andThen]
    rw [Oper.upon_value]
    go_wp2_with fail
    go_end0
    exact ⟨rfl, Hs.out.1, Hs.out.2⟩
  · clear f0
    have Hs := Lib.hid h
    clear h
    go_enter Tryz.func97, Tryz.ntmps97
    go_wp2_with fail
    rw [Lib.run_neq_ptr_same w _ Tryz.underlying74 hj]
    go_wp2_with fail
    go_end0
    exact ⟨rfl, Hs.out, WStp.refl _ _⟩
theorem WrC.setBuf {w w1 : World} {x : Nat} {st : WS} {p v : Value} {l : List UInt8} (h : WrC w x st p v l) (hg : w.grownBy w1 v.ownBlock) (v' : Value) (l' : List UInt8) (hown : w1.ownsRow x 5 1 v' l'.length (byteCells l')) (hat : v'.ownBlock = v.ownBlock ∨ v'.ownBlock = some w.heap.size) :
    WrC (w1.setCell ⟨x, 1, none⟩ v') x { st with len := l'.length } p v' l' ∧ WStp x w (w1.setCell ⟨x, 1, none⟩ v') := by
  have hx := h.lt
  have hx1 : w1.heap[x]? = w.heap[x]? := hg.block x hx fun e => h.ne e.symm
  have hne : v'.ownBlock ≠ some x := fun e => by
    rcases hat with e2 | e2
    · exact h.ne (e2.symm.trans e)
    · have := Option.some.inj (e2.symm.trans e); omega
  have h1 : WrC (w1.setCell ⟨x, 1, none⟩ v') x { st with len := l'.length } p v' l' := ⟨heap_setCell_at (o := 1) (hx1.trans h.blk), h.addr, ownsRow_setCell hown hne, rfl, hne⟩
  refine ⟨h1, h.next h1 hg.os hg.tape hg.output (by simpa using hg.size) (fun k hk hkx hkv => ?_) (fun k e => ?_)⟩
  · rw [Below.heap_setCell _ _ _ _ hkx]
    exact hg.block k hk fun e => hkv e.symm
  · rcases hat with e2 | e2
    · exact .inl (e2.symm.trans e)
    · have := Option.some.inj (e2.symm.trans e); exact .inr (by omega)
def WritePost (x : Nat) (w : World) (st : WS) (l : List UInt8) (s : ByteArray) (e : Ending) (w' : World) : Prop :=
  e = .returned (.tuple #[.int .i64 (s.size : Int), .nilIface]) ∧ ∃ v', WrC w' x { st with len := st.len + s.size } (.pointer (some ⟨x, 0, none⟩)) v' (l ++ s.data.toList) ∧ WStp x w w'
set_option maxRecDepth 100000 in
set_option maxHeartbeats 20000000 in
theorem wwriteStr_any {w : World} {x : Nat} {st : WS} {p v : Value} {l : List UInt8} (h : WrC w x st p v l) (s : ByteArray) (hs : st.len + s.size ≤ 100000000000000) :
    Calls Tryz.prog 57 #[.pointer (some ⟨x, 0, none⟩), .string s] w (WritePost x w st l s) := by
  have hcall := copyCheck_any h
  have hl : l.length = st.len := h.len
  have Hcall := Lib.hid hcall; have Hl := Lib.hid hl
  have hlb : l.length + s.size ≤ 100000000000000 := by omega
  clear hcall hl h
  obtain ⟨i0, hi, hz0, hz1, hz2⟩ := info_parts Tryz.infoByte
  go_enter Tryz.func57, Tryz.ntmps57
  go_wp2_with fail
  refine Hcall.out.mono ?_
  rintro _ w2 ⟨rfl, h2, s2⟩
  have c1 := h2.c1
  have hx2 := h2.lt
  have hbuf := h2.buf
  have hfar : ∀ w1, w2.grownBy w1 v.ownBlock → w1.heap[x]? = some (.cells #[.pointer (some ⟨x, 0, none⟩), v, .int .i64 (st.inn : Int), .int .i64 (st.n : Int), .bool st.ok] 79 (0, 0)) := fun w1 hg => (hg.block x hx2 fun e => h2.ne e.symm).trans h2.blk
  have H2 := Lib.hid h2; have S2 := Lib.hid s2; have Hfar := Lib.hid hfar
  clear h2 s2 Hcall hfar
  go_wp2_with (at_builtin; refine wpList_append_str_at (w := w2) rfl (.tmp 12) (.tmp 13) 75 9 rfl x 5 i0 Tryz.underlying75 Tryz.underlying9 hi hz0 hz1 hz2 v l.length (byteCells l) rfl hbuf s rfl (by unfold maxLen; omega) (by omega) (by omega) ?_; intro v' w5 hown5 hg5 hat5; obtain ⟨ao, cp, rfl⟩ : ∃ ao cp, v' = .slice ao (l.length + s.size) cp := (by rcases hown5.2 with ⟨e, h0⟩ | ⟨g, cap, cur, e, _⟩; exact ⟨none, 0, by rw [e, h0]⟩; exact ⟨_, _, e⟩); have hb5 := Hfar.out w5 hg5; have z1 := cell_of_blk (o := 1) hb5; have f1 := frozen_of_blk (o := 1) hb5; have zl := lt_of_blk hb5)
  have hs2 := H2.out.setBuf hg5 (.slice ao (l.length + s.size) cp) (l ++ s.data.toList) (by
    have e1 : (l ++ s.data.toList).length = l.length + s.size := by rw [List.length_append]; rfl
    have e2 : byteCells (l ++ s.data.toList) = byteCells l ++ Lib.strCells s := by unfold byteCells Lib.strCells; rw [List.map_append]
    rw [e1, e2]; exact hown5) hat5
  have Hs2 := Lib.hid hs2
  clear hs2
  refine bodyPost_ret (results_tmp2 rfl _ _ _) rfl ?_
  have e3 : ({ st with len := (l ++ s.data.toList).length } : WS) = { st with len := st.len + s.size } := by
    rw [List.length_append, Hl.out]; rfl
  have hw := Hs2.out.1
  rw [e3] at hw
  exact ⟨rfl, _, hw, S2.out.trans Hs2.out.2⟩
set_option maxRecDepth 100000 in
set_option maxHeartbeats 20000000 in
theorem bldLen_any {w : World} {x : Nat} {st : WS} {p v : Value} {l : List UInt8} (h : WrC w x st p v l) :
    Calls Tryz.prog 34 #[.pointer (some ⟨x, 0, none⟩)] w fun e w' => e = .returned (.int .i64 (st.len : Int)) ∧ w = w' := by
  have c1 := h.c1
  have hl : l.length = st.len := h.len
  obtain ⟨ao, cp, rfl⟩ : ∃ ao cp, v = .slice ao st.len cp := by
    rw [← hl]
    rcases h.buf.2 with ⟨e, h0⟩ | ⟨g, cap, cur, e, _⟩
    · exact ⟨none, 0, by rw [e, h0]⟩
    · exact ⟨_, _, e⟩
  clear hl h
  go_enter Tryz.func34, Tryz.ntmps34
  go_wp2_with fail
  refine bodyPost_ret (results_tmp rfl _ _ _) rfl ?_
  exact ⟨rfl, rfl⟩
/-- The builder's text. -/
def StringPost (x : Nat) (w : World) (e : Ending) (w' : World) : Prop := ∃ s : ByteArray, e = .returned (.string s) ∧ Below x w w'
set_option maxRecDepth 100000 in
set_option maxHeartbeats 20000000 in
theorem bldString_any {w : World} {x : Nat} {st : WS} {p v : Value} {l : List UInt8} (h : WrC w x st p v l) (hlb : st.len ≤ 6000) :
    Calls Tryz.prog 35 #[.pointer (some ⟨x, 0, none⟩)] w (StringPost x w) := by
  have c1 := h.c1
  have hl : l.length = st.len := h.len
  have hx := h.lt
  have u127 : Tryz.prog.underlying 146 = some (.pointer 5) := Tryz.underlying146
  by_cases h0 : l = []
  · subst h0
    have hUS : ∀ (p : Option Addr) (w : World), (Builtin.unsafeString_ #[146, 3] 9 #[.pointer p, .int .i64 0]).run Tryz.prog w = .ok (.string .empty) w := fun p w => Lib.run_unsafeString_none w _ _ _ p
    rcases h.buf.2 with ⟨rfl, _⟩ | ⟨g, cap, cur, rfl, hxg, hg, _, hcm, hcs, htake⟩
    · have c2 : w.drew.cell? ⟨x, 1, none⟩ = some (.slice none 0 0) := c1
      have hSD : ∀ w, (Builtin.unsafeSliceData_ #[75] 146 #[.slice none 0 0]).run Tryz.prog w = .ok (.pointer none) w := fun _ => rfl
      clear h hl
      go_enter Tryz.func35, Tryz.ntmps35
      go_wp2_with fail
      go_region
      all_goals
        go_wp2_with fail
        refine bodyPost_ret (results_tmp rfl _ _ _) rfl ?_
        exact ⟨_, rfl, (Below.refl _ _).drew⟩
    · by_cases hc0 : cap = 0
      · subst hc0
        have hSD : (Builtin.unsafeSliceData_ #[75] 146 #[.slice (some ⟨g, 0, none⟩) 0 0]).run Tryz.prog w.drew = .ok (.pointer (some ⟨w.drew.heap.size, 0, none⟩)) (w.drew.alloc (.view ⟨g, 0, none⟩ 5)) :=
          Lib.run_unsafeSliceData_zero w.drew _ _ 5 u127 ⟨g, 0, none⟩ 0 (5, cur.size) (by have hg' : w.drew.heap[g]? = some (.cells cur 5 (0, 0)) := hg; simp [World.shape?, hg'])
        have c2 : w.drew.cell? ⟨x, 1, none⟩ = some (.slice (some ⟨g, 0, none⟩) 0 0) := c1
        have c3 : (w.drew.alloc (.view ⟨g, 0, none⟩ 5)).cell? ⟨x, 1, none⟩ = some (.slice (some ⟨g, 0, none⟩) 0 0) := (World.cell?_of_block (Lib.alloc_old w.drew _ x hx)).trans c1
        have c4 : (w.alloc (.view ⟨g, 0, none⟩ 5)).drew.cell? ⟨x, 1, none⟩ = some (.slice (some ⟨g, 0, none⟩) 0 0) := c3
        clear h hl hg htake hcs hcm
        go_enter Tryz.func35, Tryz.ntmps35
        go_wp2_with fail
        go_region
        all_goals
          go_wp2_with fail
          refine bodyPost_ret (results_tmp rfl _ _ _) rfl ?_
          exact ⟨_, rfl, ((Below.refl _ _).drew).alloc (by simp; omega) _⟩
      · have c2 : w.drew.cell? ⟨x, 1, none⟩ = some (.slice (some ⟨g, 0, none⟩) 0 cap) := c1
        have hSD : (Builtin.unsafeSliceData_ #[75] 146 #[.slice (some ⟨g, 0, none⟩) 0 cap]).run Tryz.prog w.drew = .ok (.pointer (some ⟨g, 0, none⟩)) w.drew := Lib.run_unsafeSliceData_row _ _ _ _ _ _ hc0
        clear h hl hg htake hcs hcm hc0
        go_enter Tryz.func35, Tryz.ntmps35
        go_wp2_with fail
        go_region
        all_goals
          go_wp2_with fail
          refine bodyPost_ret (results_tmp rfl _ _ _) rfl ?_
          exact ⟨_, rfl, (Below.refl _ _).drew⟩
  · have hl0 : l.length ≠ 0 := by simpa using h0
    obtain ⟨g, cap, cur, rfl, hxg, hg, hnc, hcm, hcs, htake⟩ : ∃ g cap cur, v = .slice (some ⟨g, 0, none⟩) l.length cap ∧ x ≤ g ∧ w.heap[g]? = some (.cells cur 5 (0, 0)) ∧ l.length ≤ cap ∧ cap ≤ maxLen ∧ cur.size = cap * 1 ∧ cur.toList.take (l.length * 1) = byteCells l := by
      rcases h.buf.2 with ⟨_, hz⟩ | ⟨g, cap, cur, hv, r⟩
      · exact absurd hz hl0
      · exact ⟨g, cap, cur, hv, r⟩
    have c2 : w.drew.cell? ⟨x, 1, none⟩ = some (.slice (some ⟨g, 0, none⟩) l.length cap) := c1
    have hSD : (Builtin.unsafeSliceData_ #[75] 146 #[.slice (some ⟨g, 0, none⟩) l.length cap]).run Tryz.prog w.drew = .ok (.pointer (some ⟨g, 0, none⟩)) w.drew := Lib.run_unsafeSliceData_row _ _ _ _ _ _ (by omega)
    have hUS : (Builtin.unsafeString_ #[146, 3] 9 #[.pointer (some ⟨g, 0, none⟩), .int .i64 l.length]).run Tryz.prog w.drew = .ok (.string ⟨l.toArray⟩) (w.drew.freeze ⟨g, 0, none⟩ l.length) := by
      refine Lib.run_unsafeString_row w.drew 146 3 9 5 u127 Tryz.cellsByte g cur.size (by have hg' : w.drew.heap[g]? = some (.cells cur 5 (0, 0)) := hg; simp [World.shape?, hg']) l h0 (by omega) (by omega) ?_
      intro j c hc
      have := h.buf.cells (g := g) rfl j (.int .u8 c.toNat) (by simp [byteCells, hc])
      exact this
    have hB : Below x w (w.drew.freeze ⟨g, 0, none⟩ l.length) := Lib.below_freeze ((Below.refl x w).drew) (p := ⟨g, 0, none⟩) hxg _
    clear h hl hg htake hcs hcm h0 hl0 hnc
    go_enter Tryz.func35, Tryz.ntmps35
    go_wp2_with fail
    go_region
    all_goals
      go_wp2_with fail
      refine bodyPost_ret (results_tmp rfl _ _ _) rfl ?_
      exact ⟨_, rfl, hB⟩
end Go.Proofs.YtdoaeapahgmfoaaGreatDoor
namespace Go.Proofs.YtdoaeapahgmfoaaGreatDoor
open Go.RowKit
def OneLine (x : Nat) (w : World) (st : WS) (m : Nat) (e : Ending) (w' : World) : Prop :=
  ∃ (p v : Value) (l : List UInt8), e = .returned (.tuple #[]) ∧ WrC w' x { st with len := st.len + m } p v l ∧ WStp x w w'
theorem OneLine.post {x : Nat} {w : World} {st : WS} {m : Nat} {e : Ending} {w' : World} (h : OneLine x w st m e w') : WrPost x w st 0 m (fun st' => st'.ok = st.ok) e w' := by
  obtain ⟨p, v, l, h1, h2, h3⟩ := h
  exact ⟨{ st with len := st.len + m }, p, v, l, h1, ⟨rfl, Nat.le_refl _, Nat.le_refl _, id⟩, rfl, h2, h3⟩
theorem rep_len (n : Nat) : (Lib.repeatL [32, 32, 32, 32] n).length = 4 * n := by
  rw [Lib.repeatL_length]
  show n * 4 = 4 * n
  omega
theorem rep_name (n : Nat) : ∃ R : ByteArray, R.size = 4 * n ∧ R = ⟨(Lib.repeatL (⟨#[32, 32, 32, 32]⟩ : ByteArray).data.toList n).toArray⟩ := by
  refine ⟨_, ?_, rfl⟩
  show (Lib.repeatL [32, 32, 32, 32] n).toArray.size = _
  rw [List.size_toArray]; exact rep_len n
set_option maxRecDepth 100000 in
set_option maxHeartbeats 20000000 in
theorem wline_any {w : World} {x : Nat} {st : WS} {p v : Value} {l : List UInt8} (h : WrC w x st p v l) (s : ByteArray) (hin : st.inn ≤ 2000000) (hsz : s.size ≤ 2000000000) (hs : st.len ≤ 90000000000000) :
    Calls Tryz.prog 68 #[.pointer (some ⟨x, 0, none⟩), .string s] w (OneLine x w st (4 * st.inn + s.size + 1)) := by
  have c2 := h.c2
  have hx := h.lt
  have Hh := Lib.hid h
  clear h
  have hcW : ∀ (w3 : World), WrC w3 x st p v l → ∀ R : ByteArray, R.size ≤ 8000000 → Calls Tryz.prog 57 #[.pointer (some ⟨x, 0, none⟩), .string (R ++ s ++ { data := #[10] })] w3 (WritePost x w3 st l (R ++ s ++ { data := #[10] })) := fun w3 h3 R hR => wwriteStr_any h3 _ (by
    rw [ByteArray.size_append, ByteArray.size_append]
    show st.len + (R.size + s.size + 1) ≤ _
    omega)
  have HcW := Lib.hid hcW
  clear hcW
  go_enter Tryz.func68, Tryz.ntmps68
  go_region_with
    ((first
      | (go_at_call 59; refine (Tryz.strings_Repeat ⟨#[32, 32, 32, 32]⟩ st.inn _ (by omega) (by show 4 * st.inn ≤ _; omega)).mono ?_; rintro _ w3 ⟨rfl, hb3⟩; have h3 := Lib.hid (Hh.out.grow (((Below.refl _ _).drew).trans hb3)); have c2 := h3.out.1.c2; obtain ⟨R, hR, hRe⟩ := rep_name st.inn; rw [← hRe]; clear hRe; have hR2 : R.size ≤ 8000000 := (by omega); have HR := Lib.hid hR; clear hR)
      | (go_at_call 57; (with_reducible refine (HcW.out _ h3.out.1 R hR2).mono ?_); rintro _ w4 ⟨rfl, v4, h4, s4⟩; have c4 : w4.cell? ⟨x, 2, none⟩ = some (.int .i64 (st.inn : Int)) := h4.c2; have H4 := Lib.hid h4; have S4 := Lib.hid s4; clear h4 s4)))
  all_goals
    go_wp2_with fail
    go_end0
    have e1 : st.len + (R ++ s ++ { data := #[10] } : ByteArray).size = st.len + (4 * st.inn + s.size + 1) := by
      rw [ByteArray.size_append, ByteArray.size_append, HR.out]; rfl
    have hw := H4.out
    rw [e1] at hw
    exact ⟨_, _, _, rfl, hw, h3.out.2.trans S4.out⟩
end Go.Proofs.YtdoaeapahgmfoaaGreatDoor
