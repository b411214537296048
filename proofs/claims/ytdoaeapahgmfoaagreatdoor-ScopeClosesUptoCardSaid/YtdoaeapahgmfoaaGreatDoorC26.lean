/- Statements that came in: what their reading gives. What the list of ScopeCloses' row gives: the words, the ops, the errors, the levels, the powers. The witness' world. -/
import Derived.DataShut
import Derived.Deep.Slices
import Derived.Lib.LaidTab
import Derived.OpenShut
import Derived.ProofKit
import Derived.Test.YtdoaeapahgmfoaaGreatDoorC07
import Derived.Test.YtdoaeapahgmfoaaGreatDoorC12
import Derived.Test.YtdoaeapahgmfoaaGreatDoorC25
import Derived.Test.YtdoaeapahgmfoaaGreatDoorRows
namespace Go.Proofs.YtdoaeapahgmfoaaGreatDoor
open Go.ChangeShapes Go.WideShapes Go.ChangeAt Go.RowKit
theorem cells_rstr : Tryz.prog.cellsOf 9 = 1 := by kernel_rfl
theorem cells_rint : Tryz.prog.cellsOf 2 = 1 := by kernel_rfl
theorem cells_rstrs : Tryz.prog.cellsOf 36 = 1 := by kernel_rfl
theorem cells_rex : Tryz.prog.cellsOf 71 = 5 := by kernel_rfl
theorem cells_rexs : Tryz.prog.cellsOf 66 = 1 := by kernel_rfl
theorem cells_rst : Tryz.prog.cellsOf 68 = 6 := by kernel_rfl
theorem cells_rsts : Tryz.prog.cellsOf 22 = 1 := by kernel_rfl
theorem toBA_of2 (s : ByteArray) : toBA s.data.toList = s := by unfold toBA; simp
theorem list_of2 {α : Type} {n : Nat} {P : Nat → α → Prop} (h : ∀ i, i < n → ∃ t, P i t) : ∃ ts : List α, ts.length = n ∧ ∀ i (hi : i < ts.length), P i ts[i] := by
  induction n with
  | zero => exact ⟨[], rfl, fun i hi => by simp at hi⟩
  | succ n ih =>
    obtain ⟨ts, hl, hp⟩ := ih fun i hi => h i (by omega)
    obtain ⟨t, ht⟩ := h n (by omega)
    refine ⟨ts ++ [t], by simp [hl], fun i hi => ?_⟩
    rcases Nat.lt_or_ge i ts.length with h1 | h1
    · rw [List.getElem_append_left h1]; exact hp i h1
    · have : i = ts.length := by simp at hi; omega
      subst this
      rw [List.getElem_append_right (Nat.le_refl _)]
      simpa [hl] using ht
theorem spot_none2 {W : World} {a : Addr} {v : Value} (h : W.cell? (a.add 0) = some v) : ∃ b o, a = ⟨b, o, none⟩ := by
  rcases a with ⟨b, o, s⟩
  rcases s with _ | s
  · exact ⟨b, o, rfl⟩
  · exfalso
    unfold Addr.add at h
    rw [if_pos rfl] at h
    unfold World.cell? at h
    split at h
    · simp at h
    · cases h
theorem addr_add2 (b o j : Nat) : (⟨b, o, none⟩ : Addr).add j = ⟨b, o + j, none⟩ := by
  unfold Addr.add
  split
  · rename_i h; subst h; rfl
  · rfl
section
variable {H : Type} {enc : TypeId × Value → H} {W : World}
/-- A slice that came in, at each index. -/
theorem slice_read {hd : Bool} {t e : TypeId} {fuel : Nat} {cs : List Value} {x : DataW H × List MemPlace} (ht : Tryz.prog.underlying t = some (.slice e)) (h : DataW.trod enc Tryz.prog W 0 (fun _ => true) hd fuel t cs = some x) :
    (cs = [.slice none 0 0] ∧ x.1 = .nil) ∨ ∃ (a : Addr) (len cap n : Nat) (elems rest : List (DataW H × List MemPlace)), fuel = n + 1 ∧ cs = [.slice (some a) len cap] ∧ len ≤ cap ∧ x.1 = .slice (elems.map (·.1)) (rest.map (·.1)) ∧ elems.length = len ∧
      ∀ i (hi : i < elems.length), ∃ cs', W.cells? 0 (a.add (i * Tryz.prog.cellsOf e)) (Tryz.prog.cellsOf e) = some cs' ∧ DataW.trod enc Tryz.prog W 0 (fun _ => true) hd n e cs' = some elems[i] := by
  rcases DataW.trod_slice ht h with ⟨h1, h2⟩ | ⟨a, len, cap, elems, rest, n, hn, h1, hx, _, hl, _, hlen, hel, _⟩
  · exact .inl ⟨h1, by rw [h2]⟩
  · refine .inr ⟨a, len, cap, n, elems, rest, hn, h1, hl, by rw [hx], hlen, fun i hi => ?_⟩
    have := hel i (by omega)
    rw [List.getElem?_eq_getElem hi] at this
    obtain ⟨cs', h3, h4⟩ := Option.bind_eq_some_iff.1 this
    exact ⟨cs', h3, h4⟩
theorem bulkAll_map {α : Type} (f : α → DataW H) (g : α → Nat) : ∀ (l : List α) (_ : ∀ a ∈ l, g a ≤ Rows.uptoBulk (f a)), (l.map g).sum ≤ Rows.uptoBulkAll (l.map f)
  | [], _ => Nat.zero_le _
  | a :: r, h => by
    have h1 := h a List.mem_cons_self
    have h2 := bulkAll_map f g r fun b hb => h b (List.mem_cons_of_mem _ hb)
    simp only [List.map_cons, List.sum_cons, Rows.uptoBulkAll]; omega
theorem bulkAll_zip {α : Type} (g : α → Nat) : ∀ (l : List α) (ds : List (DataW H)) (_ : l.length = ds.length) (_ : ∀ i (h1 : i < l.length) (h2 : i < ds.length), g l[i] ≤ Rows.uptoBulk ds[i]), (l.map g).sum ≤ Rows.uptoBulkAll ds
  | [], [], _, _ => Nat.zero_le _
  | a :: r, d :: q, hl, h => by
    have h1 := h 0 (by simp) (by simp)
    have h2 := bulkAll_zip g r q (by simpa using hl) fun i h3 h4 => h (i + 1) (by simpa using h3) (by simpa using h4)
    simp only [List.getElem_cons_zero] at h1
    simp only [List.map_cons, List.sum_cons, Rows.uptoBulkAll]; omega
set_option maxRecDepth 100000 in
theorem strs_read' {hd : Bool} {fuel : Nat} {v : Value} {x : DataW H × List MemPlace} (h : DataW.trod enc Tryz.prog W 0 (fun _ => true) hd fuel 36 [v] = some x) : ∃ zs, StrsAt W (Lo W.heap.size) v zs ∧ strsBulk zs + 1 ≤ Rows.uptoBulk x.1 ∧ ((x.1 = .nil ∧ zs = []) ∨ ∃ rest, x.1 = .slice (zs.map fun z => .lit (.string z)) rest) := by
  rcases slice_read Tryz.underlying36 h with ⟨h1, h2⟩ | ⟨a, len, cap, n, elems, rest, rfl, h1, hl, hx, hlen, hel⟩
  · obtain rfl : v = .slice none 0 0 := by simpa using h1
    exact ⟨[], ⟨none, 0, rfl, Nat.le_refl _, fun h => by simp at h⟩, by rw [h2]; simp [strsBulk, Rows.uptoBulk], .inl ⟨h2, rfl⟩⟩
  · obtain rfl : v = .slice (some a) len cap := by simpa using h1
    have each : ∀ i, i < elems.length → ∃ z : List UInt8, W.cell? (a.add i) = some (.string (toBA z)) ∧ ∀ hi : i < elems.length, (elems[i]).1 = .lit (.string z) := fun i hi => by
      obtain ⟨cs', hc, ht⟩ := hel i hi
      rw [cells_rstr, Nat.mul_one] at hc
      obtain ⟨_, hcl, hcell⟩ := World.cells?_some hc
      obtain ⟨s, e1, e2, _⟩ := DataW.trod_string Tryz.underlying9 ht
      have k0 := hcell 0 (by omega)
      subst e1
      refine ⟨s.data.toList, ?_, fun _ => by rw [e2]⟩
      rw [toBA_of2]
      have e3 : (a.add i).add 0 = a.add i := by rw [Go.Deep.add_add, Nat.add_zero]
      rw [e3] at k0
      simpa using k0
    obtain ⟨zs, hzl, hzs⟩ := list_of2 each
    have hel2 : elems.map (·.1) = zs.map fun z => .lit (.string z) := by
      refine List.ext_getElem (by simp [hzl]) fun i h1 h2 => ?_
      rw [List.getElem_map, List.getElem_map]
      exact (hzs i (by simpa using h2)).2 (by simpa using h1)
    refine ⟨zs, ⟨some a, cap, by rw [hzl, hlen], by omega, fun hp => ?_⟩, ?_, .inr ⟨_, by rw [hx, hel2]⟩⟩
    · obtain ⟨b, o, rfl⟩ := spot_none2 (hzs 0 hp).1
      refine ⟨b, o, rfl, ?_, fun j hj => ?_⟩
      · have := (hzs 0 hp).1
        rw [addr_add2] at this
        exact World.block_lt_of_cell? W _ this
      · rw [← addr_add2]; exact (hzs j hj).1
    · have h2 := bulkAll_map (H := H) (fun z : List UInt8 => .lit (.string z)) (fun z : List UInt8 => z.length + 1) zs fun z _ => by simp [Rows.uptoBulk]
      rw [hx, hel2]
      simp only [strsBulk, Rows.uptoBulk]; omega
theorem strs_read {hd : Bool} {fuel : Nat} {v : Value} {x : DataW H × List MemPlace} (h : DataW.trod enc Tryz.prog W 0 (fun _ => true) hd fuel 36 [v] = some x) : ∃ zs, StrsAt W (Lo W.heap.size) v zs ∧ strsBulk zs + 1 ≤ Rows.uptoBulk x.1 := by
  obtain ⟨zs, h1, h2, _⟩ := strs_read' h
  exact ⟨zs, h1, h2⟩
/-- What one term's reading gives. -/
def ExRd (W : World) (a : Addr) (d : DataW H) : Prop := ∃ e : Ex, (∃ v, W.cell? (a.add 0) = some v) ∧ (∀ b o, a = ⟨b, o, none⟩ → ExAt W (Lo W.heap.size) e b o) ∧ e.fit ∧ e.bulk ≤ Rows.uptoBulk d
theorem exs_of {l : List Ex} (h : ∀ e ∈ l, e.fit) : exsFit l := by
  induction l with
  | nil => trivial
  | cons a r ih => exact ⟨h a List.mem_cons_self, ih fun e he => h e (List.mem_cons_of_mem _ he)⟩
theorem exsBulk_sum (l : List Ex) : exsBulk l = (l.map Ex.bulk).sum := by
  induction l with
  | nil => rfl
  | cons a r ih => simp only [exsBulk, List.map_cons, List.sum_cons, ih]
set_option maxRecDepth 100000 in
theorem exs_read {fuel : Nat} (ih : ∀ m, m < fuel → ∀ (cs : List Value) (x : DataW H × List MemPlace) (a : Addr), W.cells? 0 a 5 = some cs → DataW.trod enc Tryz.prog W 0 (fun _ => true) true m 71 cs = some x → ExRd W a x.1)
    {v : Value} {x : DataW H × List MemPlace} (h : DataW.trod enc Tryz.prog W 0 (fun _ => true) true fuel 66 [v] = some x) : ∃ l, ExsAt W (Lo W.heap.size) v l ∧ exsFit l ∧ exsBulk l + 1 ≤ Rows.uptoBulk x.1 := by
  rcases slice_read Tryz.underlying66 h with ⟨h1, h2⟩ | ⟨a, len, cap, n, elems, rest, rfl, h1, hl, hx, hlen, hel⟩
  · obtain rfl : v = .slice none 0 0 := by simpa using h1
    exact ⟨[], ⟨none, 0, rfl, Nat.le_refl _, fun h => by simp at h⟩, trivial, by rw [h2]; simp [exsBulk, Rows.uptoBulk]⟩
  · obtain rfl : v = .slice (some a) len cap := by simpa using h1
    have each : ∀ i, i < elems.length → ∃ e : Ex, ((∃ v, W.cell? ((a.add (i * 5)).add 0) = some v) ∧ (∀ b o, a.add (i * 5) = ⟨b, o, none⟩ → ExAt W (Lo W.heap.size) e b o) ∧ e.fit) ∧ ∀ hi : i < elems.length, e.bulk ≤ Rows.uptoBulk (elems[i]).1 := fun i hi => by
      obtain ⟨cs', hc, ht⟩ := hel i hi
      rw [cells_rex] at hc
      obtain ⟨e, h1, h2, h3, h4⟩ := ih n (Nat.lt_succ_self n) cs' _ _ hc ht
      exact ⟨e, ⟨h1, h2, h3⟩, fun _ => h4⟩
    obtain ⟨l, hzl, hzs⟩ := list_of2 each
    refine ⟨l, ⟨some a, cap, by rw [hzl, hlen], by omega, fun hp => ?_⟩, exs_of fun e he => ?_, ?_⟩
    · obtain ⟨⟨v0, h0⟩, _, _⟩ := (hzs 0 hp).1
      rw [Nat.zero_mul] at h0
      have e0 : (a.add 0).add 0 = a.add 0 := by rw [Go.Deep.add_add]
      rw [e0] at h0
      obtain ⟨b, o, rfl⟩ := spot_none2 h0
      refine ⟨b, o, rfl, ?_, ExRow.of _ _ _ fun j hj => (hzs j hj).1.2.1 b (o + j * 5) (addr_add2 _ _ _)⟩
      rw [addr_add2] at h0
      exact World.block_lt_of_cell? W _ h0
    · obtain ⟨i, hi, rfl⟩ := List.getElem_of_mem he
      exact (hzs i hi).1.2.2
    · have h2 := bulkAll_zip (H := H) Ex.bulk l (elems.map (·.1)) (by simp [hzl]) fun i h3 h4 => by
        rw [List.getElem_map]
        exact (hzs i h3).2 (by omega)
      rw [hx, exsBulk_sum]
      simp only [Rows.uptoBulk]; omega
set_option maxRecDepth 100000 in
theorem ex_read : ∀ (m : Nat) (cs : List Value) (x : DataW H × List MemPlace) (a : Addr), W.cells? 0 a 5 = some cs → DataW.trod enc Tryz.prog W 0 (fun _ => true) true m 71 cs = some x → ExRd W a x.1 := by
  intro m
  induction m using Nat.strongRecOn with
  | ind m ih =>
    intro cs x a hc h
    obtain ⟨_, hl, hcell⟩ := World.cells?_some hc
    obtain ⟨xs, n, rfl, hx, _, hlen, hf⟩ := DataW.trod_struct Tryz.underlying71 h
    match cs, hl, xs, hlen with
    | [v0, v1, v2, v3, v4], _, [y0, y1, y2, y3, y4], _ =>
      have h0 : DataW.trod enc Tryz.prog W 0 (fun _ => true) true n 9 (List.take (Tryz.prog.cellsOf 9) (List.drop 0 [v0, v1, v2, v3, v4])) = some y0 := hf 0 _ rfl
      have h1 : DataW.trod enc Tryz.prog W 0 (fun _ => true) true n 2 (List.take (Tryz.prog.cellsOf 2) (List.drop 1 [v0, v1, v2, v3, v4])) = some y1 := hf 1 _ rfl
      have h2 : DataW.trod enc Tryz.prog W 0 (fun _ => true) true n 9 (List.take (Tryz.prog.cellsOf 9) (List.drop 2 [v0, v1, v2, v3, v4])) = some y2 := hf 2 _ rfl
      have h3 : DataW.trod enc Tryz.prog W 0 (fun _ => true) true n 36 (List.take (Tryz.prog.cellsOf 36) (List.drop 3 [v0, v1, v2, v3, v4])) = some y3 := hf 3 _ rfl
      have h4 : DataW.trod enc Tryz.prog W 0 (fun _ => true) true n 66 (List.take (Tryz.prog.cellsOf 66) (List.drop 4 [v0, v1, v2, v3, v4])) = some y4 := hf 4 _ rfl
      rw [cells_rstr] at h0 h2
      rw [cells_rint] at h1
      rw [cells_rstrs] at h3
      rw [cells_rexs] at h4
      obtain ⟨s0, e0, d0, _⟩ := DataW.trod_string Tryz.underlying9 h0
      obtain ⟨n1, e1, d1, w1⟩ := DataW.trod_int Tryz.underlying2 h1
      obtain ⟨s2, e2, d2, _⟩ := DataW.trod_string Tryz.underlying9 h2
      obtain ⟨zs, hzs, hzb⟩ := strs_read h3
      obtain ⟨l, hls, hlf, hlb⟩ := exs_read (fun m hm => ih m (by omega)) h4
      have k0 := hcell 0 (by omega)
      have k1 := hcell 1 (by omega)
      have k2 := hcell 2 (by omega)
      have k3 := hcell 3 (by omega)
      have k4 := hcell 4 (by omega)
      simp at e0 e1 e2 k0 k1 k2 k3 k4
      subst e0 e1 e2
      refine ⟨.mk s0.data.toList n1 s2.data.toList zs l, ⟨_, k0⟩, fun b o ha => ?_, ?_, ?_⟩
      · subst ha
        rw [addr_add2] at k0 k1 k2 k3 k4
        rw [Nat.add_zero] at k0
        exact ExAt.of (by rw [k0]; simp [Ex.op, toBA_of2]) k1 (by rw [k2]; simp [Ex.s, toBA_of2]) k3 k4 hzs hls
      · rw [Ex.fit_eq]
        refine ⟨?_, hlf⟩
        have := (Lit.wf_int_iff .i64 n1).1 w1
        exact this
      · rw [hx]
        simp only [Ex.bulk, List.map_cons, List.map_nil, Rows.uptoBulk, Rows.uptoBulkAll, d0, d1, d2]
        omega
/-- What one statement's reading gives. -/
def StRd (W : World) (a : Addr) (d : DataW H) : Prop := ∃ s : Stm, (∃ v, W.cell? (a.add 0) = some v) ∧ (∀ b o, a = ⟨b, o, none⟩ → StmAt W (Lo W.heap.size) s b o) ∧ s.fit ∧ s.bulk ≤ Rows.uptoBulk d
theorem stms_of {l : List Stm} (h : ∀ e ∈ l, e.fit) : stmsFit l := by
  induction l with
  | nil => trivial
  | cons a r ih => exact ⟨h a List.mem_cons_self, ih fun e he => h e (List.mem_cons_of_mem _ he)⟩
theorem stmsBulk_sum (l : List Stm) : stmsBulk l = (l.map Stm.bulk).sum := by
  induction l with
  | nil => rfl
  | cons a r ih => simp only [stmsBulk, List.map_cons, List.sum_cons, ih]
set_option maxRecDepth 100000 in
theorem stms_read {fuel : Nat} (ih : ∀ m, m < fuel → ∀ (cs : List Value) (x : DataW H × List MemPlace) (a : Addr), W.cells? 0 a 6 = some cs → DataW.trod enc Tryz.prog W 0 (fun _ => true) true m 68 cs = some x → StRd W a x.1)
    {v : Value} {x : DataW H × List MemPlace} (h : DataW.trod enc Tryz.prog W 0 (fun _ => true) true fuel 22 [v] = some x) : ∃ l, StmsAt W (Lo W.heap.size) v l ∧ stmsFit l ∧ stmsBulk l + 1 ≤ Rows.uptoBulk x.1 := by
  rcases slice_read Tryz.underlying22 h with ⟨h1, h2⟩ | ⟨a, len, cap, n, elems, rest, rfl, h1, hl, hx, hlen, hel⟩
  · obtain rfl : v = .slice none 0 0 := by simpa using h1
    exact ⟨[], ⟨none, 0, rfl, fun h => by simp at h⟩, trivial, by rw [h2]; simp [stmsBulk, Rows.uptoBulk]⟩
  · obtain rfl : v = .slice (some a) len cap := by simpa using h1
    have each : ∀ i, i < elems.length → ∃ e : Stm, ((∃ v, W.cell? ((a.add (i * 6)).add 0) = some v) ∧ (∀ b o, a.add (i * 6) = ⟨b, o, none⟩ → StmAt W (Lo W.heap.size) e b o) ∧ e.fit) ∧ ∀ hi : i < elems.length, e.bulk ≤ Rows.uptoBulk (elems[i]).1 := fun i hi => by
      obtain ⟨cs', hc, ht⟩ := hel i hi
      rw [cells_rst] at hc
      obtain ⟨e, h1, h2, h3, h4⟩ := ih n (Nat.lt_succ_self n) cs' _ _ hc ht
      exact ⟨e, ⟨h1, h2, h3⟩, fun _ => h4⟩
    obtain ⟨l, hzl, hzs⟩ := list_of2 each
    refine ⟨l, ⟨some a, cap, by rw [hzl, hlen], fun hp => ?_⟩, stms_of fun e he => ?_, ?_⟩
    · obtain ⟨⟨v0, h0⟩, _, _⟩ := (hzs 0 hp).1
      rw [Nat.zero_mul] at h0
      have e0 : (a.add 0).add 0 = a.add 0 := by rw [Go.Deep.add_add]
      rw [e0] at h0
      obtain ⟨b, o, rfl⟩ := spot_none2 h0
      refine ⟨b, o, rfl, ?_, StmRow.of _ _ _ fun j hj => (hzs j hj).1.2.1 b (o + j * 6) (addr_add2 _ _ _)⟩
      rw [addr_add2] at h0
      exact World.block_lt_of_cell? W _ h0
    · obtain ⟨i, hi, rfl⟩ := List.getElem_of_mem he
      exact (hzs i hi).1.2.2
    · have h2 := bulkAll_zip (H := H) Stm.bulk l (elems.map (·.1)) (by simp [hzl]) fun i h3 h4 => by
        rw [List.getElem_map]
        exact (hzs i h3).2 (by omega)
      rw [hx, stmsBulk_sum]
      simp only [Rows.uptoBulk]; omega
set_option maxRecDepth 100000 in
theorem st_read : ∀ (m : Nat) (cs : List Value) (x : DataW H × List MemPlace) (a : Addr), W.cells? 0 a 6 = some cs → DataW.trod enc Tryz.prog W 0 (fun _ => true) true m 68 cs = some x → StRd W a x.1 := by
  intro m
  induction m using Nat.strongRecOn with
  | ind m ih =>
    intro cs x a hc h
    obtain ⟨_, hl, hcell⟩ := World.cells?_some hc
    obtain ⟨xs, n, rfl, hx, _, hlen, hf⟩ := DataW.trod_struct Tryz.underlying68 h
    match cs, hl, xs, hlen with
    | [v0, v1, v2, v3, v4, v5], _, [y0, y1, y2, y3, y4, y5], _ =>
      have h0 : DataW.trod enc Tryz.prog W 0 (fun _ => true) true n 9 (List.take (Tryz.prog.cellsOf 9) (List.drop 0 [v0, v1, v2, v3, v4, v5])) = some y0 := hf 0 _ rfl
      have h1 : DataW.trod enc Tryz.prog W 0 (fun _ => true) true n 9 (List.take (Tryz.prog.cellsOf 9) (List.drop 1 [v0, v1, v2, v3, v4, v5])) = some y1 := hf 1 _ rfl
      have h2 : DataW.trod enc Tryz.prog W 0 (fun _ => true) true n 36 (List.take (Tryz.prog.cellsOf 36) (List.drop 2 [v0, v1, v2, v3, v4, v5])) = some y2 := hf 2 _ rfl
      have h3 : DataW.trod enc Tryz.prog W 0 (fun _ => true) true n 66 (List.take (Tryz.prog.cellsOf 66) (List.drop 3 [v0, v1, v2, v3, v4, v5])) = some y3 := hf 3 _ rfl
      have h4 : DataW.trod enc Tryz.prog W 0 (fun _ => true) true n 22 (List.take (Tryz.prog.cellsOf 22) (List.drop 4 [v0, v1, v2, v3, v4, v5])) = some y4 := hf 4 _ rfl
      have h5 : DataW.trod enc Tryz.prog W 0 (fun _ => true) true n 22 (List.take (Tryz.prog.cellsOf 22) (List.drop 5 [v0, v1, v2, v3, v4, v5])) = some y5 := hf 5 _ rfl
      rw [cells_rstr] at h0 h1
      rw [cells_rstrs] at h2
      rw [cells_rexs] at h3
      rw [cells_rsts] at h4 h5
      obtain ⟨s0, e0, d0, _⟩ := DataW.trod_string Tryz.underlying9 h0
      obtain ⟨s1, e1, d1, _⟩ := DataW.trod_string Tryz.underlying9 h1
      obtain ⟨zs, hzs, hzb⟩ := strs_read h2
      obtain ⟨l, hls, hlf, hlb⟩ := exs_read (fun m _ => ex_read m) h3
      obtain ⟨bd, hbs, hbf, hbb⟩ := stms_read (fun m hm => ih m (by omega)) h4
      obtain ⟨el, hes, hef, heb⟩ := stms_read (fun m hm => ih m (by omega)) h5
      have k0 := hcell 0 (by omega)
      have k1 := hcell 1 (by omega)
      have k2 := hcell 2 (by omega)
      have k3 := hcell 3 (by omega)
      have k4 := hcell 4 (by omega)
      have k5 := hcell 5 (by omega)
      simp at e0 e1 k0 k1 k2 k3 k4 k5
      subst e0 e1
      refine ⟨.mk s0.data.toList s1.data.toList zs l bd el, ⟨_, k0⟩, fun b o ha => ?_, ?_, ?_⟩
      · subst ha
        rw [addr_add2] at k0 k1 k2 k3 k4 k5
        rw [Nat.add_zero] at k0
        exact StmAt.of (by rw [k0]; simp [Stm.kind, toBA_of2]) (by rw [k1]; simp [Stm.name, toBA_of2]) k2 k3 k4 k5 hzs hls hbs hes
      · rw [Stm.fit_eq]
        exact ⟨hlf, hbf, hef⟩
      · rw [hx]
        simp only [Stm.bulk, List.map_cons, List.map_nil, Rows.uptoBulk, Rows.uptoBulkAll, d0, d1]
        omega
/-- The argument. -/
theorem arg_read {v : Value} {d : DataW H} {p : List MemPlace} (h : DataW.Trod enc Tryz.prog W 0 (fun _ => true) true 22 v d p) (hv : v.cells = #[v]) : ∃ l, StmsAt W (Lo W.heap.size) v l ∧ stmsFit l ∧ stmsBulk l + 1 ≤ Rows.uptoBulk d := by
  obtain ⟨fuel, h⟩ := h
  rw [hv] at h
  exact stms_read (fun m _ => st_read m) h
end
end Go.Proofs.YtdoaeapahgmfoaaGreatDoor
namespace Go.Proofs.YtdoaeapahgmfoaaGreatDoor
open Go.ChangeShapes Go.WideShapes Go.ChangeAt Go.RowKit
def closesLaid : List (String × DataW Unit) := [("math/bits.deBruijn32tab", Rows.laid_math_bits_deBruijn32tab), ("math/bits.deBruijn64tab", Rows.laid_math_bits_deBruijn64tab), ("internal/strconv.uint64pow10", Rows.laid_internal_strconv_uint64pow10), ("unicode/utf8.acceptRanges", Rows.laid_unicode_utf8_acceptRanges), ("nurserypy/api.ErrText", Rows.laid_nurserypy_api_ErrText), ("nurserypy/api.ErrBound", Rows.laid_nurserypy_api_ErrBound), ("nurserypy/api.ErrShape", Rows.laid_nurserypy_api_ErrShape), ("nurserypy/api.ErrName", Rows.laid_nurserypy_api_ErrName), ("strconv.ErrRange", Rows.laid_strconv_ErrRange), ("strconv.ErrSyntax", Rows.laid_strconv_ErrSyntax), ("nurserypy/lex.words", Rows.laid_nurserypy_lex_words), ("nurserypy/lex.ops", Rows.laid_nurserypy_lex_ops), ("nurserypy/tree.levels", Rows.laid_nurserypy_tree_levels), ("unicode/utf8.first", Rows.laid_unicode_utf8_first)]
theorem closesPlain (w : World) : laidMetH Tryz.prog closesLaid w = laidMet Tryz.prog closesLaid w := MakeChecks.laidMetH_plain _ _ _ (by kernel_rfl)
theorem closes_met (os : Os) (args : Array Value) : laidMet Tryz.prog closesLaid ((World.laidAll Tryz.prog os closesLaid).forCall (fun _ _ => 0) ⟨#[], args, []⟩).memory :=
  laidMet_laidAll _ (by kernel_rfl) (by kernel_rfl)
theorem cells_strs1 : Tryz.prog.cellsOf 36 = 1 := by kernel_rfl
theorem map_lit_inj {zs ys : List (List UInt8)} (h : (zs.map fun z => (DataW.lit (.string z) : DataW Unit)) = ys.map fun z => .lit (.string z)) : zs = ys := by
  induction zs generalizing ys with
  | nil => cases ys with
    | nil => rfl
    | cons b q => simp at h
  | cons a r ih => cases ys with
    | nil => simp at h
    | cons b q =>
      simp only [List.map_cons, List.cons.injEq] at h
      obtain ⟨h1, h2⟩ := h
      injection h1 with h1
      injection h1 with h1
      rw [h1, ih h2]
theorem levels_laid : (Rows.laid_nurserypy_tree_levels : DataW Unit) = .agg (levelsL.map fun zs => if zs = [] then .nil else .slice (zs.map fun z => .lit (.string z)) []) := rfl
set_option maxRecDepth 100000 in
theorem laid_levels {W : World} {l : List (String × DataW Unit)} {ps : List MemPlace} (h : DataW.LaidVars Tryz.prog W l ps) (hm : ("nurserypy/tree.levels", Rows.laid_nurserypy_tree_levels) ∈ l) :
    ∀ i (hi : i < levelsL.length), ∃ v, W.cell? ⟨10, i, none⟩ = some v ∧ StrsAt W (Lo W.heap.size) v levelsL[i] := by
  intro i hi
  obtain ⟨g', t, cs, fuel, p, h1, h2, h3, h4⟩ := laid_mem h _ _ hm
  obtain rfl := Option.some.inj ((show Tryz.prog.globalNamed "nurserypy/tree.levels" = some 10 by kernel_rfl).symm.trans h1)
  obtain rfl := Option.some.inj ((show (Tryz.prog.globals[10]?).map (·.type) = some 226 by kernel_rfl).symm.trans h2)
  obtain ⟨xs, m, _, hx, hcl, hxl, hel⟩ := DataW.trod_array Tryz.underlying226 h4
  have hi6 : i < 6 := hi
  have hct : Tryz.prog.cellsOf 226 = 6 := by kernel_rfl
  rw [hct] at hcl
  have hc := World.var?_cell (show Tryz.prog.globalNamed "nurserypy/tree.levels" = some 10 by kernel_rfl) h3 i
  have hil : i < cs.toList.length := by omega
  have h5 := hel i hi6
  rw [cells_strs1, Nat.mul_one, List.getElem?_eq_getElem (by omega : i < xs.length)] at h5
  have e1 : (cs.toList.drop i).take 1 = [cs.toList[i]] := by
    rw [List.drop_eq_getElem_cons hil]; rfl
  rw [e1] at h5
  obtain ⟨zs, hz, _, hd⟩ := strs_read' h5
  refine ⟨cs.toList[i], ?_, ?_⟩
  · rw [hc, ← Array.getElem?_toList, List.getElem?_eq_getElem hil]
  · have hxa := (Prod.mk.inj hx).1
    rw [levels_laid] at hxa
    injection hxa with hxa
    have h6 : (xs[i]'(by omega)).1 = if levelsL[i] = [] then .nil else .slice (levelsL[i].map fun z => .lit (.string z)) [] := by
      have h7 := congrArg (·[i]?) hxa
      simp only [List.getElem?_map, List.getElem?_eq_getElem hi, List.getElem?_eq_getElem (by omega : i < xs.length), Option.map_some] at h7
      exact (Option.some.inj h7).symm
    have e : zs = levelsL[i] := by
      rcases hd with ⟨h7, h8⟩ | ⟨rest, h7⟩
      · rw [h7] at h6
        split at h6
        · rename_i h9; rw [h8, h9]
        · cases h6
      · rw [h7] at h6
        split at h6
        · cases h6
        · injection h6 with h6 _
          exact map_lit_inj h6
    exact e ▸ hz
theorem laid_pow {W : World} {l : List (String × DataW Unit)} {ps : List MemPlace} (h : DataW.LaidVars Tryz.prog W l ps) (hm : ("internal/strconv.uint64pow10", Rows.laid_internal_strconv_uint64pow10) ∈ l) : Lib.TabIs Tryz.prog W "internal/strconv.uint64pow10" .u64 Lib.pow10Tab := by
  obtain ⟨g', t, cs, fuel, p, h1, h2, h3, h4⟩ := laid_mem h _ _ hm
  obtain rfl := Option.some.inj (powNamed.symm.trans h1)
  obtain rfl := Option.some.inj ((show (Tryz.prog.globals[12]?).map (·.type) = some 271 by kernel_rfl).symm.trans h2)
  have e : (Rows.laid_internal_strconv_uint64pow10 : DataW Unit) = Lib.tabData .u64 Lib.pow10Tab := rfl
  rw [e] at h4
  unfold Lib.TabIs
  rw [h3, ← Lib.cells_of_tab Tryz.underlying271 Tryz.underlying197 (by kernel_rfl) (by kernel_rfl) h4]
set_option maxRecDepth 100000 in
/-- What the row's list gives the walk. -/
theorem closes_of_laid {W : World} (h : laidMet Tryz.prog closesLaid W) : GlobT W.heap.size W ∧ ∃ te pe, W.cell? ⟨3, 0, none⟩ = some (.iface te pe) := by
  obtain ⟨ps, hv, _⟩ := h
  obtain ⟨a, b, c⟩ := glob_of_vars hv (by simp [closesLaid]) (by simp [closesLaid]) (by simp [closesLaid]) (by simp [closesLaid]) (by simp [closesLaid]) (by simp [closesLaid]) (by simp [closesLaid])
  have hsh := laid_iface (g := 0) hv _ _ _ (show ("nurserypy/api.ErrShape", Rows.laid_nurserypy_api_ErrShape) ∈ closesLaid by simp [closesLaid]) (by kernel_rfl) (by kernel_rfl)
  have hnm := laid_iface (g := 3) hv _ _ _ (show ("nurserypy/api.ErrName", Rows.laid_nurserypy_api_ErrName) ∈ closesLaid by simp [closesLaid]) (by kernel_rfl) (by kernel_rfl)
  obtain ⟨g', t, cs, fuel, p, k1, k2, k3, k4⟩ := laid_mem hv "unicode/utf8.acceptRanges" Rows.laid_unicode_utf8_acceptRanges (by simp [closesLaid])
  have hsz : 18 < W.heap.size := laid_size (by kernel_rfl) k3
  exact ⟨⟨⟨a, b, c⟩, by omega, laid_levels hv (by simp [closesLaid]), hsh, laid_pow hv (by simp [closesLaid])⟩, hnm⟩
end Go.Proofs.YtdoaeapahgmfoaaGreatDoor
