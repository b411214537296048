/- slices.Index, slices.Contains of texts. strings.Join; tree.rank. The writer's names, and lists of terms (where terms are given). -/
import Derived.Test.YtdoaeapahgmfoaaGreatDoorC09
import Derived.Test.YtdoaeapahgmfoaaGreatDoorC12
namespace Go.Proofs.YtdoaeapahgmfoaaGreatDoor
open Go.RowKit
set_option maxRecDepth 100000 in
set_option maxHeartbeats 20000000 in
theorem slIndex_any {w : World} (zs : List (List UInt8)) (v : Value) (s : List UInt8) (G : Nat → Prop) (hz : StrsAt w G v zs) (hl : zs.length ≤ 140737488355328) :
    Calls Tryz.prog 76 #[v, .string (toBA s)] w fun e w' => e = .returned (.int .i64 (indexL zs s)) ∧ w = w' := by
  obtain ⟨a, c, rfl, hr⟩ := hz
  have Hr := Lib.hid hr; clear hr
  go_enter Tryz.func76, Tryz.ntmps76
  go_wp2_with fail
  go_loop [5, 8] (fun _ i => ∃ j : Nat, j ≤ zs.length ∧ i = .int .i64 j ∧ ∀ i (hi : i < zs.length), i < j → zs[i] ≠ s) (fun _ i => zs.length - (intOf i).toNat)
  case atStart => exact ⟨0, by omega, rfl, fun _ _ h => absurd h (by omega)⟩
  case round =>
    obtain ⟨j, hj, rfl, hno⟩ := hrel
    have Hno := Lib.hid hno; clear hno
    by_cases hjl : j < zs.length
    · have t1 : decide ((j : Int) < (zs.length : Int)) = true := by simp; omega
      obtain ⟨b, o, rfl, _, hc⟩ := Hr.out.2 (by omega)
      have q := hc j hjl
      clear hc
      by_cases he : zs[j] = s
      · have hix : indexL zs s = (j : Int) := by unfold indexL; rw [findIdx_take hjl Hno.out he]
        have Hix := Lib.hid hix; clear hix
        rw [he] at q
        have u1 : ((toBA s).toList == (toBA s).toList) = true := by simp
        go_wp2_with fail
        refine bodyPost_ret (results_tmp rfl _ _ _) rfl ?_
        exact ⟨by rw [Hix.out]; rfl, rfl⟩
      · have u1 : ((toBA s).toList == (toBA zs[j]).toList) = false := by rw [m_toList, m_toList]; simp [Ne.symm he]
        have He := Lib.hid he; clear he
        go_wp2_with fail
        go_round
        case rel =>
          refine ⟨j + 1, by omega, by go_num, fun i hi h => ?_⟩
          rcases Nat.lt_or_ge i j with h' | h'
          · exact Hno.out i hi h'
          · have : i = j := by omega
            subst this
            exact He.out
        case measure => simp [intOf]; omega
    · have t1 : decide ((j : Int) < (zs.length : Int)) = false := by simp; omega
      have hix : indexL zs s = -1 := by unfold indexL; rw [findIdx_none fun i hi => Hno.out i hi (by omega)]
      have Hix := Lib.hid hix; clear hix
      go_wp2_with fail
      refine bodyPost_ret (results_tmp rfl _ _ _) rfl ?_
      exact ⟨by rw [Hix.out]; rfl, rfl⟩
set_option maxRecDepth 100000 in
set_option maxHeartbeats 20000000 in
theorem has_any {w : World} (zs : List (List UInt8)) (v : Value) (s : List UInt8) (G : Nat → Prop) (hz : StrsAt w G v zs) (hl : zs.length ≤ 140737488355328) :
    Calls Tryz.prog 41 #[v, .string (toBA s)] w fun e w' => e = .returned (.bool (zs.contains s)) ∧ w = w' := by
  have hh := indexL_has zs s
  go_enter Tryz.func41, Tryz.ntmps41
  have Hh := Lib.hid hh; clear hh
  go_wp2_with fail
  refine (slIndex_any zs v s G hz hl).mono ?_
  rintro e w2 ⟨rfl, rfl⟩
  rcases hb : decide (0 ≤ indexL zs s) with _ | _
  · have Hb := Lib.hid (Hh.out.symm.trans hb)
    go_wp2_with fail
    refine bodyPost_ret (results_tmp rfl _ _ _) rfl ?_
    exact ⟨by rw [Hb.out]; rfl, rfl⟩
  · have Hb := Lib.hid (Hh.out.symm.trans hb)
    go_wp2_with fail
    refine bodyPost_ret (results_tmp rfl _ _ _) rfl ?_
    exact ⟨by rw [Hb.out]; rfl, rfl⟩
end Go.Proofs.YtdoaeapahgmfoaaGreatDoor
namespace Go.Proofs.YtdoaeapahgmfoaaGreatDoor
open Go.RowKit
/-- How long texts are, joined by two letters. -/
theorem join_len (zs : List (List UInt8)) : (Lib.join (zs.map fun s => (toBA s).data.toList) [44, 32]).length ≤ (zs.map fun s => s.length + 2).sum := by
  rcases zs with _ | ⟨x, r⟩
  · simp [Lib.join_nil]
  · simp only [List.map_cons]
    rw [Lib.join_length]
    have h : ∀ l : List (List UInt8), Lib.lens (l.map fun s => (toBA s).data.toList) + 2 * l.length = (l.map fun s => s.length + 2).sum := by
      intro l
      induction l with
      | nil => rfl
      | cons a t ih =>
        simp only [Lib.lens, List.map_cons, List.sum_cons, List.length_cons] at ih ⊢
        have : (toBA a).data.toList.length = a.length := toBA_len a
        omega
    have h1 := h (x :: r)
    simp only [List.map_cons, List.length_cons, List.length_map, List.length_nil] at h1 ⊢
    omega
/-- A function that makes a text, and memory alone. -/
def StrPost (w : World) (B : Nat) (e : Ending) (w' : World) : Prop := ∃ s : ByteArray, e = .returned (.string s) ∧ s.size ≤ B ∧ Below w.heap.size w w'
theorem join_any {w : World} (zs : List (List UInt8)) (v : Value) (G : Nat → Prop) (hz : StrsAt w G v zs) (hG : ∀ b, G b → b < w.heap.size) (hl : (zs.map fun s => s.length + 2).sum ≤ 100000000000000) :
    Calls Tryz.prog 108 #[v, .string ⟨#[44, 32]⟩] w (StrPost w (zs.map fun s => s.length + 2).sum) := by
  obtain ⟨a, c, rfl, hcap, hr⟩ := hz
  have hj := join_len zs
  rcases Nat.eq_zero_or_pos zs.length with h0 | h0
  · rw [h0]
    refine (Tryz.strings_Join_none a c ⟨#[44, 32]⟩ w).mono ?_
    rintro e w' ⟨rfl, rfl⟩
    exact ⟨_, rfl, by simp [ByteArray.size], Below.refl _ _⟩
  · obtain ⟨b, o, rfl, hb, hc⟩ := hr h0
    have hlen : zs.length ≤ (zs.map fun s => s.length + 2).sum := by
      clear hc hcap hr hj hl hG h0
      induction zs with
      | nil => simp
      | cons s r ih => simp only [List.map_cons, List.sum_cons, List.length_cons] at *; omega
    have e1 : (zs.map toBA).map (fun x => x.data.toList) = zs.map fun s => (toBA s).data.toList := by rw [List.map_map]; rfl
    have hR := Tryz.strings_Join b o c (zs.map toBA) ⟨#[44, 32]⟩ w (fun j x hx => by
      rw [List.getElem?_map] at hx
      have hjl : j < zs.length := by
        rcases Nat.lt_or_ge j zs.length with h | h
        · exact h
        · rw [List.getElem?_eq_none h] at hx; cases hx
      rw [List.getElem?_eq_getElem hjl] at hx
      rw [hc j hjl]
      simpa using hx) (hG b hb) (by rw [List.length_map]; omega) (by rw [List.length_map]; exact hcap) (by
      rw [show (zs.map toBA).map (·.data.toList) = zs.map fun s => (toBA s).data.toList from e1]
      show (Lib.join _ [44, 32]).length ≤ _
      omega)
    rw [List.length_map] at hR
    refine hR.mono ?_
    rintro e w' ⟨rfl, hb2⟩
    refine ⟨_, rfl, ?_, hb2⟩
    rw [show (zs.map toBA).map (·.data.toList) = zs.map fun s => (toBA s).data.toList from e1]
    show (Lib.join _ [44, 32]).toArray.size ≤ _
    simpa using hj
theorem levelsOf_step (op : List UInt8) (j : Nat) (hj : j < levelsL.length) : levelOf (levelsL.drop j) op j = if levelsL[j].contains op then j + 1 else levelOf (levelsL.drop (j + 1)) op (j + 1) := by
  rw [List.drop_eq_getElem_cons hj]; rfl
set_option maxRecDepth 100000 in
set_option maxHeartbeats 20000000 in
theorem rank_any {w : World} {B : Nat} (op : List UInt8) (hg : GlobT B w) :
    Calls Tryz.prog 104 #[.string (toBA op)] w fun e w' => e = .returned (.int .i64 ((rankL op : Nat) : Int)) ∧ w = w' := by
  by_cases h1 : op = oLambda
  · have hr : rankL op = 0 := by unfold rankL; rw [if_pos h1]
    have u1 : ((toBA op).toList == [108, 97, 109, 98, 100, 97]) = true := by rw [m_toList, h1]; rfl
    have Hr := Lib.hid hr; clear hr h1
    go_enter Tryz.func104, Tryz.ntmps104
    go_wp2_with fail
    refine bodyPost_ret (results_tmp rfl _ _ _) rfl ?_
    exact ⟨by rw [Hr.out]; rfl, rfl⟩
  have u1 : ((toBA op).toList == [108, 97, 109, 98, 100, 97]) = false := m_ne h1
  by_cases h2 : op = oNot
  · have hr : rankL op = 3 := by unfold rankL; rw [if_neg h1, if_pos h2]
    have u2 : ((toBA op).toList == [110, 111, 116]) = true := by rw [m_toList, h2]; rfl
    have Hr := Lib.hid hr; clear hr h1 h2
    go_enter Tryz.func104, Tryz.ntmps104
    go_wp2_with fail
    refine bodyPost_ret (results_tmp rfl _ _ _) rfl ?_
    exact ⟨by rw [Hr.out]; rfl, rfl⟩
  have u2 : ((toBA op).toList == [110, 111, 116]) = false := m_ne h2
  by_cases h3 : op = oNeg
  · have hr : rankL op = 7 := by unfold rankL; rw [if_neg h1, if_neg h2, if_pos h3]
    have u3 : ((toBA op).toList == [110, 101, 103]) = true := by rw [m_toList, h3]; rfl
    have Hr := Lib.hid hr; clear hr h1 h2 h3
    go_enter Tryz.func104, Tryz.ntmps104
    go_wp2_with fail
    refine bodyPost_ret (results_tmp rfl _ _ _) rfl ?_
    exact ⟨by rw [Hr.out]; rfl, rfl⟩
  have u3 : ((toBA op).toList == [110, 101, 103]) = false := m_ne h3
  have hr : levelOf levelsL op 0 = rankL op := by unfold rankL; rw [if_neg h1, if_neg h2, if_neg h3]
  have Hr := Lib.hid hr; clear hr h1 h2 h3
  obtain ⟨v0, c0, s0⟩ := hg.levels 0 (by decide)
  obtain ⟨v1, c1, s1⟩ := hg.levels 1 (by decide)
  obtain ⟨v2, c2, s2⟩ := hg.levels 2 (by decide)
  obtain ⟨v3, c3, s3⟩ := hg.levels 3 (by decide)
  obtain ⟨v4, c4, s4⟩ := hg.levels 4 (by decide)
  obtain ⟨v5, c5, s5⟩ := hg.levels 5 (by decide)
  have i0 : ∀ w, (Instr.index 226 (.agg #[v0, v1, v2, v3, v4, v5]) (.int .i64 0)).run Tryz.prog w = .ok v0 w := fun _ => by kernel_rfl
  have i1 : ∀ w, (Instr.index 226 (.agg #[v0, v1, v2, v3, v4, v5]) (.int .i64 1)).run Tryz.prog w = .ok v1 w := fun _ => by kernel_rfl
  have i2 : ∀ w, (Instr.index 226 (.agg #[v0, v1, v2, v3, v4, v5]) (.int .i64 2)).run Tryz.prog w = .ok v2 w := fun _ => by kernel_rfl
  have i3 : ∀ w, (Instr.index 226 (.agg #[v0, v1, v2, v3, v4, v5]) (.int .i64 3)).run Tryz.prog w = .ok v3 w := fun _ => by kernel_rfl
  have i4 : ∀ w, (Instr.index 226 (.agg #[v0, v1, v2, v3, v4, v5]) (.int .i64 4)).run Tryz.prog w = .ok v4 w := fun _ => by kernel_rfl
  have i5 : ∀ w, (Instr.index 226 (.agg #[v0, v1, v2, v3, v4, v5]) (.int .i64 5)).run Tryz.prog w = .ok v5 w := fun _ => by kernel_rfl
  go_enter Tryz.func104, Tryz.ntmps104
  go_wp2_with fail
  go_loop [3, 4, 13] (fun _ _ i => ∃ j : Nat, j ≤ 6 ∧ i = .int .i64 j ∧ levelOf (levelsL.drop j) op j = rankL op) (fun _ _ i => 6 - (intOf i).toNat)
  case atStart => exact ⟨0, by omega, rfl, Hr.out⟩
  case round =>
    obtain ⟨j, hj, rfl, hrk⟩ := hrel
    clear Hr
    have hcs : j = 0 ∨ j = 1 ∨ j = 2 ∨ j = 3 ∨ j = 4 ∨ j = 5 ∨ j = 6 := by omega
    rcases hcs with rfl | rfl | rfl | rfl | rfl | rfl | rfl <;> have Hrk := Lib.hid hrk <;> clear hrk
    · have hlv := levelsOf_step op 0 (by decide)
      have hcall := has_any (w := w) levelsL[0] v0 op (Lo B) s0 (by decide)
      rcases hb : levelsL[0].contains op with _ | _
      · rw [hb] at hcall
        rw [hb, if_neg (by simp)] at hlv
        have Hcall := Lib.hid hcall; have Hlv := Lib.hid hlv
        clear hcall hlv hb
        go_wp2_with fail
        refine Hcall.out.mono ?_
        rintro e w2 ⟨rfl, rfl⟩
        go_wp2_with fail
        go_round
        case rel => exact ⟨0 + 1, by omega, rfl, by rw [← Hlv.out]; exact Hrk.out⟩
        case measure => simp [intOf]
      · rw [hb] at hcall
        rw [hb, if_pos rfl] at hlv
        have Hcall := Lib.hid hcall; have Hlv := Lib.hid hlv
        clear hcall hlv hb
        go_wp2_with fail
        refine Hcall.out.mono ?_
        rintro e w2 ⟨rfl, rfl⟩
        go_wp2_with fail
        refine bodyPost_ret (results_tmp rfl _ _ _) rfl ?_
        exact ⟨by rw [← Hrk.out, Hlv.out]; rfl, rfl⟩
    · have hlv := levelsOf_step op 1 (by decide)
      have hcall := has_any (w := w) levelsL[1] v1 op (Lo B) s1 (by decide)
      rcases hb : levelsL[1].contains op with _ | _
      · rw [hb] at hcall
        rw [hb, if_neg (by simp)] at hlv
        have Hcall := Lib.hid hcall; have Hlv := Lib.hid hlv
        clear hcall hlv hb
        go_wp2_with fail
        refine Hcall.out.mono ?_
        rintro e w2 ⟨rfl, rfl⟩
        go_wp2_with fail
        go_round
        case rel => exact ⟨1 + 1, by omega, rfl, by rw [← Hlv.out]; exact Hrk.out⟩
        case measure => simp [intOf]
      · rw [hb] at hcall
        rw [hb, if_pos rfl] at hlv
        have Hcall := Lib.hid hcall; have Hlv := Lib.hid hlv
        clear hcall hlv hb
        go_wp2_with fail
        refine Hcall.out.mono ?_
        rintro e w2 ⟨rfl, rfl⟩
        go_wp2_with fail
        refine bodyPost_ret (results_tmp rfl _ _ _) rfl ?_
        exact ⟨by rw [← Hrk.out, Hlv.out]; rfl, rfl⟩
    · have hlv := levelsOf_step op 2 (by decide)
      have hcall := has_any (w := w) levelsL[2] v2 op (Lo B) s2 (by decide)
      rcases hb : levelsL[2].contains op with _ | _
      · rw [hb] at hcall
        rw [hb, if_neg (by simp)] at hlv
        have Hcall := Lib.hid hcall; have Hlv := Lib.hid hlv
        clear hcall hlv hb
        go_wp2_with fail
        refine Hcall.out.mono ?_
        rintro e w2 ⟨rfl, rfl⟩
        go_wp2_with fail
        go_round
        case rel => exact ⟨2 + 1, by omega, rfl, by rw [← Hlv.out]; exact Hrk.out⟩
        case measure => simp [intOf]
      · rw [hb] at hcall
        rw [hb, if_pos rfl] at hlv
        have Hcall := Lib.hid hcall; have Hlv := Lib.hid hlv
        clear hcall hlv hb
        go_wp2_with fail
        refine Hcall.out.mono ?_
        rintro e w2 ⟨rfl, rfl⟩
        go_wp2_with fail
        refine bodyPost_ret (results_tmp rfl _ _ _) rfl ?_
        exact ⟨by rw [← Hrk.out, Hlv.out]; rfl, rfl⟩
    · have hlv := levelsOf_step op 3 (by decide)
      have hcall := has_any (w := w) levelsL[3] v3 op (Lo B) s3 (by decide)
      rcases hb : levelsL[3].contains op with _ | _
      · rw [hb] at hcall
        rw [hb, if_neg (by simp)] at hlv
        have Hcall := Lib.hid hcall; have Hlv := Lib.hid hlv
        clear hcall hlv hb
        go_wp2_with fail
        refine Hcall.out.mono ?_
        rintro e w2 ⟨rfl, rfl⟩
        go_wp2_with fail
        go_round
        case rel => exact ⟨3 + 1, by omega, rfl, by rw [← Hlv.out]; exact Hrk.out⟩
        case measure => simp [intOf]
      · rw [hb] at hcall
        rw [hb, if_pos rfl] at hlv
        have Hcall := Lib.hid hcall; have Hlv := Lib.hid hlv
        clear hcall hlv hb
        go_wp2_with fail
        refine Hcall.out.mono ?_
        rintro e w2 ⟨rfl, rfl⟩
        go_wp2_with fail
        refine bodyPost_ret (results_tmp rfl _ _ _) rfl ?_
        exact ⟨by rw [← Hrk.out, Hlv.out]; rfl, rfl⟩
    · have hlv := levelsOf_step op 4 (by decide)
      have hcall := has_any (w := w) levelsL[4] v4 op (Lo B) s4 (by decide)
      rcases hb : levelsL[4].contains op with _ | _
      · rw [hb] at hcall
        rw [hb, if_neg (by simp)] at hlv
        have Hcall := Lib.hid hcall; have Hlv := Lib.hid hlv
        clear hcall hlv hb
        go_wp2_with fail
        refine Hcall.out.mono ?_
        rintro e w2 ⟨rfl, rfl⟩
        go_wp2_with fail
        go_round
        case rel => exact ⟨4 + 1, by omega, rfl, by rw [← Hlv.out]; exact Hrk.out⟩
        case measure => simp [intOf]
      · rw [hb] at hcall
        rw [hb, if_pos rfl] at hlv
        have Hcall := Lib.hid hcall; have Hlv := Lib.hid hlv
        clear hcall hlv hb
        go_wp2_with fail
        refine Hcall.out.mono ?_
        rintro e w2 ⟨rfl, rfl⟩
        go_wp2_with fail
        refine bodyPost_ret (results_tmp rfl _ _ _) rfl ?_
        exact ⟨by rw [← Hrk.out, Hlv.out]; rfl, rfl⟩
    · have hlv := levelsOf_step op 5 (by decide)
      have hcall := has_any (w := w) levelsL[5] v5 op (Lo B) s5 (by decide)
      rcases hb : levelsL[5].contains op with _ | _
      · rw [hb] at hcall
        rw [hb, if_neg (by simp)] at hlv
        have Hcall := Lib.hid hcall; have Hlv := Lib.hid hlv
        clear hcall hlv hb
        go_wp2_with fail
        refine Hcall.out.mono ?_
        rintro e w2 ⟨rfl, rfl⟩
        go_wp2_with fail
        go_round
        case rel => exact ⟨5 + 1, by omega, rfl, by rw [← Hlv.out]; exact Hrk.out⟩
        case measure => simp [intOf]
      · rw [hb] at hcall
        rw [hb, if_pos rfl] at hlv
        have Hcall := Lib.hid hcall; have Hlv := Lib.hid hlv
        clear hcall hlv hb
        go_wp2_with fail
        refine Hcall.out.mono ?_
        rintro e w2 ⟨rfl, rfl⟩
        go_wp2_with fail
        refine bodyPost_ret (results_tmp rfl _ _ _) rfl ?_
        exact ⟨by rw [← Hrk.out, Hlv.out]; rfl, rfl⟩
    · go_wp2_with fail
      refine bodyPost_ret (results_tmp rfl _ _ _) rfl ?_
      exact ⟨by rw [← Hrk.out]; rfl, rfl⟩
end Go.Proofs.YtdoaeapahgmfoaaGreatDoor
namespace Go.Proofs.YtdoaeapahgmfoaaGreatDoor
open Go.RowKit
theorem strs_sum (zs : List (List UInt8)) : (zs.map fun s => s.length + 2).sum ≤ 2 * strsBulk zs := by
  unfold strsBulk
  induction zs with
  | nil => simp
  | cons s r ih => simp only [List.map_cons, List.sum_cons] at *; omega
theorem strsBulk_mem {zs : List (List UInt8)} {s : List UInt8} (h : s ∈ zs) : s.length + 1 ≤ strsBulk zs := by
  unfold strsBulk
  induction zs with
  | nil => cases h
  | cons a r ih =>
    simp only [List.map_cons, List.sum_cons]
    rcases List.mem_cons.1 h with rfl | h
    · omega
    · have := ih h; omega
set_option maxRecDepth 100000 in
set_option maxHeartbeats 20000000 in
theorem names_any {w : World} {x : Nat} {st : WS} {p v : Value} {l : List UInt8} (h : WrC w x st p v l) (zs : List (List UInt8)) (vz : Value) (hz : StrsAt w (Lo x) vz zs) (hb : strsBulk zs ≤ 1100000) (hg : GlobT x w) :
    Calls Tryz.prog 71 #[.pointer (some ⟨x, 0, none⟩), vz] w (TextPost x w st p v l (2 * strsBulk zs) 0) := by
  have Hz := Lib.hid hz
  obtain ⟨a, c, rfl, _, hr⟩ := hz
  have Hr := Lib.hid hr; clear hr
  have hzl := strsBulk_len zs
  have hzs := strs_sum zs
  go_enter Tryz.func71, Tryz.ntmps71
  go_wp2_with fail
  go_loopw [6, 9] (fun _ i wr => ∃ (j : Nat) (st1 : WS), j ≤ zs.length ∧ i = .int .i64 j ∧ Nx st st1 0 0 ∧ WrC wr x st1 p v l ∧ WStp x w wr) (fun _ i _ => zs.length - (intOf i).toNat)
  case atStart => exact ⟨0, st, by omega, rfl, Nx.refl _ _ _, h, WStp.refl _ _⟩
  case round =>
    obtain ⟨j, st1, hj, rfl, hn, h1, s1⟩ := hrel
    have hbel := WStp.below h s1
    by_cases hjl : j < zs.length
    · have t1 : decide ((j : Int) < (zs.length : Int)) = true := by simp; omega
      obtain ⟨b, o, rfl, hbx, hc⟩ := Hr.out (by omega)
      have q : wr.cell? ⟨b, o + j, none⟩ = some (.string (toBA zs[j])) := (hbel.cell (p := ⟨b, _, none⟩) hbx).trans (hc j hjl)
      have hlen := strsBulk_mem (List.getElem_mem hjl)
      have hcall := name_any h1 zs[j] (by omega) (hg.toGlobE.below hbel)
      have Hcall := Lib.hid hcall; have Hn := Lib.hid hn
      clear hc hcall hn
      go_wp2_with fail
      refine Hcall.out.mono ?_
      rintro _ w2 ⟨rfl, h2, s2⟩
      have hst := s1.trans s2
      clear Hcall
      go_wp2_with fail
      go_roundw
      case rel => exact ⟨j + 1, _, by omega, by go_num, Hn.out.trans (Nx.name st1 zs[j] 0 0) (by omega) (by omega), h2, hst⟩
      case measure => simp [intOf]; omega
    · have t1 : decide ((j : Int) < (zs.length : Int)) = false := by simp; omega
      have hx1 := h1.lt
      have hjoin := join_any (w := wr) zs (.slice a zs.length c) (Lo x) (Hz.out.below hbel) (fun b hb => Nat.lt_trans hb hx1) (by omega)
      have Hj := Lib.hid hjoin; have Hn := Lib.hid hn
      clear hjoin hn
      go_wp2_with fail
      refine Hj.out.mono ?_
      rintro _ w2 ⟨s, rfl, hs, hb2⟩
      obtain ⟨h2, s2⟩ := h1.grow hb2
      have hst := s1.trans s2
      clear Hj
      go_wp2_with fail
      refine bodyPost_ret (results_tmp rfl _ _ _) rfl ?_
      exact ⟨s, st1, rfl, by omega, Hn.out, h2, hst⟩
/-- A number that an int64 bears. -/
def intFit (n : Int) : Prop := -9223372036854775808 ≤ n ∧ n ≤ 9223372036854775807
mutual
def Ex.fit : Ex → Prop
  | .mk _ n _ _ l => intFit n ∧ exsFit l
def exsFit : List Ex → Prop
  | [] => True
  | e :: r => e.fit ∧ exsFit r
end
theorem Ex.fit_eq (e : Ex) : e.fit ↔ intFit e.n ∧ exsFit e.l := by rcases e with ⟨_, _, _, _, _⟩; unfold Ex.fit; exact Iff.rfl
theorem exsFit_mem : ∀ {l : List Ex} {e : Ex}, exsFit l → e ∈ l → e.fit
  | a :: r, e, h, hm => by
    unfold exsFit at h
    rcases List.mem_cons.1 hm with rfl | hm
    · exact h.1
    · exact exsFit_mem h.2 hm
def termK (e : Ex) (least : Nat) : Nat := 3 * e.nodes + if least = 0 then 0 else 1
def termB (e : Ex) (least : Nat) : Nat := 64 * e.bulk - 8 + if least = 0 then 0 else 4
theorem termB_le (e : Ex) (k : Nat) : termB e k ≤ 64 * e.bulk - 4 := by
  have h : 1 ≤ e.bulk := by rw [Ex.bulk_eq]; omega
  unfold termB; split <;> omega
def TermC (f : Nat) : Prop := ∀ (e : Ex) (least deep : Nat) (w : World) (x : Nat) (st : WS) (p v : Value) (l : List UInt8) (vp vl : Value), termK e least ≤ f → e.fit → e.bulk ≤ 1100000 → e.w ≤ 6000 → least ≤ 100 →
  deep + termK e least ≤ 50000000 → st.n + termK e least ≤ 50000000 → WrC w x st p v l → GlobT x w → StrsAt w (Lo x) vp e.p → ExsAt w (Lo x) vl e.l →
  Calls Tryz.prog 66 #[.pointer (some ⟨x, 0, none⟩), .agg #[.string (toBA e.op), .int .i64 e.n, .string (toBA e.s), vp, vl], .int .i64 (least : Int), .int .i64 (deep : Int)] w (TextPost x w st p v l (termB e least) (termK e least))
/-- The texts so far. -/
structure OutSt (w wr : World) (x : Nat) (vo : Value) (zs : List (List UInt8)) : Prop where
  own : wr.ownsRow w.heap.size 9 1 vo zs.length (zs.map fun s => Value.string (toBA s))
  safe : ∀ g, vo.ownBlock = some g → WSafe wr x g ∧ w.heap.size ≤ g
theorem OutSt.step {w wr w1 : World} {x : Nat} {vo : Value} {zs : List (List UInt8)} (h : OutSt w wr x vo zs) (s : WStp x wr w1) : OutSt w w1 x vo zs :=
  ⟨own_same h.own fun b e => (s.safe b (h.safe b e).1).2, fun g e => ⟨(s.safe g (h.safe g e).1).1, (h.safe g e).2⟩⟩
theorem exsBulk_take (l : List Ex) (j : Nat) (hj : j < l.length) : exsBulk (l.take (j + 1)) = exsBulk (l.take j) + l[j].bulk := by
  induction l generalizing j with
  | nil => simp at hj
  | cons e r ih =>
    cases j with
    | zero => simp [exsBulk]
    | succ j =>
      have := ih j (by simpa using hj)
      simp only [List.take_succ_cons, exsBulk, List.getElem_cons_succ]
      omega
theorem exsNodes_take (l : List Ex) (j : Nat) (hj : j < l.length) : exsNodes (l.take (j + 1)) = exsNodes (l.take j) + l[j].nodes := by
  induction l generalizing j with
  | nil => simp at hj
  | cons e r ih =>
    cases j with
    | zero => simp [exsNodes]
    | succ j =>
      have := ih j (by simpa using hj)
      simp only [List.take_succ_cons, exsNodes, List.getElem_cons_succ]
      omega
theorem exsNodes_le (l : List Ex) (j : Nat) : exsNodes (l.take j) ≤ exsNodes l := by
  induction l generalizing j with
  | nil => simp [exsNodes]
  | cons e r ih => cases j with
    | zero => simp [exsNodes]
    | succ j => have := ih j; simp only [List.take_succ_cons, exsNodes]; omega
theorem exsBulk_le (l : List Ex) (j : Nat) : exsBulk (l.take j) ≤ exsBulk l := by
  induction l generalizing j with
  | nil => simp [exsBulk]
  | cons e r ih => cases j with
    | zero => simp [exsBulk]
    | succ j => have := ih j; simp only [List.take_succ_cons, exsBulk]; omega
theorem Ex.bulk_pos (e : Ex) : 1 ≤ e.bulk := by rw [Ex.bulk_eq]; omega
theorem Ex.nodes_bulk : ∀ (k : Nat) (e : Ex), e.nodes ≤ k → e.nodes ≤ e.bulk
  | 0, e, h => by rw [Ex.nodes_l] at h; omega
  | k + 1, e, h => by
    rw [Ex.nodes_l] at h ⊢
    rw [Ex.bulk_eq]
    have : ∀ l : List Ex, exsNodes l ≤ k → exsNodes l ≤ exsBulk l := by
      intro l
      induction l with
      | nil => intro _; simp [exsNodes]
      | cons a r ih =>
        intro h
        unfold exsNodes at h ⊢
        unfold exsBulk
        have := Ex.nodes_bulk k a (by omega)
        have := ih (by omega)
        omega
    have := this e.l (by omega)
    omega
theorem exsNodes_bulk (l : List Ex) : exsNodes l ≤ exsBulk l := by
  induction l with
  | nil => simp [exsNodes]
  | cons a r ih =>
    unfold exsNodes exsBulk
    have := Ex.nodes_bulk _ a (Nat.le_refl _)
    omega
set_option maxRecDepth 100000 in
set_option maxHeartbeats 20000000 in
theorem list_of {f : Nat} (hf : TermC f) {w : World} {x : Nat} {st : WS} {p v : Value} {l : List UInt8} (h : WrC w x st p v l) (es : List Ex) (ve : Value) (deep : Nat) (he : ExsAt w (Lo x) ve es) (hfe : ∀ e ∈ es, 3 * e.nodes ≤ f) (hft : exsFit es)
    (hbe : exsBulk es ≤ 1100000) (hwe : exsW es ≤ 6000) (hd : deep + 3 * exsNodes es ≤ 50000000) (hn : st.n + 3 * exsNodes es ≤ 50000000) (hg : GlobT x w) :
    Calls Tryz.prog 107 #[.pointer (some ⟨x, 0, none⟩), ve, .int .i64 (deep : Int)] w (TextPost x w st p v l (64 * exsBulk es) (3 * exsNodes es)) := by
  obtain ⟨a, c, rfl, _, hr⟩ := he
  have Hr := Lib.hid hr; have Hf := Lib.hid hf; have Hfe := Lib.hid hfe; have Hft := Lib.hid hft
  clear hr hf hfe hft
  have hel := exsBulk_len es
  go_enter Tryz.func107, Tryz.ntmps107
  go_wp2_with fail
  go_loopw [7, 12] (fun o i wr => ∃ (j : Nat) (st1 : WS) (zs : List (List UInt8)), j ≤ es.length ∧ i = .int .i64 j ∧ Nx st st1 (3 * exsNodes (es.take j)) 0 ∧ zs.length = j ∧ (zs.map fun s => s.length + 2).sum ≤ 64 * exsBulk (es.take j) ∧ OutSt w wr x o zs ∧ WrC wr x st1 p v l ∧ WStp x w wr) (fun _ i _ => es.length - (intOf i).toNat)
  case atStart => exact ⟨0, st, [], by omega, rfl, Nx.refl _ _ _, rfl, by simp, ⟨World.ownsRow_nil _ _ _ _, fun g e => by cases e⟩, h, WStp.refl _ _⟩
  case round =>
    obtain ⟨j, st1, zs, hj, rfl, hnx, hzl, hzs, hO, h1, s1⟩ := hrel
    have hbel := WStp.below h s1
    by_cases hjl : j < es.length
    · have t1 : decide ((j : Int) < (es.length : Int)) = true := by simp; omega
      obtain ⟨b, o, rfl, hbx, hrow⟩ := Hr.out (by omega)
      obtain ⟨vp, vl, q0, q1, q2, q3, q4, hp, hx⟩ := (hrow.at_ _ _ _ j hjl).open_
      have hbx' : b < x := hbx
      have q0 := (hbel.cell (p := ⟨b, _, none⟩) hbx').trans q0
      have q1 := (hbel.cell (p := ⟨b, _, none⟩) hbx').trans q1
      have q2 := (hbel.cell (p := ⟨b, _, none⟩) hbx').trans q2
      have q3 := (hbel.cell (p := ⟨b, _, none⟩) hbx').trans q3
      have q4 := (hbel.cell (p := ⟨b, _, none⟩) hbx').trans q4
      have hm := exs_mem (List.getElem_mem hjl)
      have hmf := Hfe.out _ (List.getElem_mem hjl)
      have hnt := exsNodes_take es j hjl
      have hbt := exsBulk_take es j hjl
      have hnl := exsNodes_le es (j + 1)
      have hx1 := h1.lt
      have hnn := hnx.n
      have Hp := Lib.hid hp; have Hx := Lib.hid hx
      obtain ⟨ap, cp, rfl, _⟩ := hp
      obtain ⟨al, cl, rfl, _⟩ := hx
      have Hnx := Lib.hid hnx; have HO := Lib.hid hO; have Hnt := Lib.hid hnt; have Hbt := Lib.hid hbt; have Hzl := Lib.hid hzl; have H1 := Lib.hid h1
      clear hrow hnx hO h1
      obtain ⟨i0, hi, hz0, hz1, hz2⟩ := info_parts Tryz.infoStrg
      have hal := H1.out.alloc (.cells #[.string (toBA es[j].op), .int .i64 es[j].n, .string (toBA es[j].s), .slice ap es[j].p.length cp, .slice al es[j].l.length cl] 140)
      have hbA := hbel.alloc (Nat.le_of_lt hx1) (.cells #[.string (toBA es[j].op), .int .i64 es[j].n, .string (toBA es[j].s), .slice ap es[j].p.length cp, .slice al es[j].l.length cl] 140)
      have hb1 : es[j].bulk ≤ 1100000 := by omega
      have hw1 : es[j].w ≤ 6000 := by omega
      have hn1 : es[j].nodes ≤ exsNodes es := hm.2.1
      have hdp : deep + termK es[j] 0 ≤ 50000000 := by unfold termK; simp; omega
      have hnp : st1.n + termK es[j] 0 ≤ 50000000 := by have := Hnt.out; unfold termK; simp; omega
      have hcall := Hf.out es[j] 0 deep _ x st1 p v l (.slice ap es[j].p.length cp) (.slice al es[j].l.length cl) (by unfold termK; simpa using hmf) (exsFit_mem Hft.out (List.getElem_mem hjl)) hb1 hw1 (by omega) hdp hnp hal.1 (hg.below hbA) (Hp.out.below hbA) (Hx.out.below hbA)
      have hcall := hcall.mono (fun _ _ h => h.mono (termB_le es[j] 0) (Nat.le_refl _))
      have Hcall := Lib.hid hcall; have Hal := Lib.hid hal.2.1
      have hzs2 : (zs.map fun s => s.length + 2).sum ≤ 64 * exsBulk es := by have := exsBulk_le es j; omega
      have Hzs := Lib.hid hzs
      clear Hr hcall hal hm hmf hnt hbt hzl hnn hbA hdp hnp hzs
      go_wp2_with fail
      refine Hcall.out.mono ?_
      rintro _ w2 ⟨s, st2, rfl, hs, hnx2, h2, s2⟩
      have hO2 := HO.out.step (Hal.out.trans s2)
      have hst2 := s1.trans (Hal.out.trans s2)
      have hsz2 := hst2.size
      have hown2 := hO2.own
      have hlen2 : zs.length ≤ 1100000 := by have := Hzl.out; omega
      have HO2 := Lib.hid hO2; have Hst2 := Lib.hid hst2; have H2 := Lib.hid h2; have Hnx2 := Lib.hid hnx2; have Hs := Lib.hid hs
      clear hO2 hst2 h2 hnx2 hs s2 Hcall Hal
      go_wp2_with (at_builtin; refine wpList_append_lies (w2.alloc (.cells #[.string s] 9)) rfl (.tmp 16) (.tmp 21) 36 rfl w.heap.size 9 i0 _ 1 16 Tryz.underlying36 hi hz0 hz1 hz2 rfl (by decide) _ zs.length (zs.map fun s => Value.string (toBA s)) rfl (hown2.alloc _) ⟨w2.heap.size, 0, none⟩ 1 1 [.string s] rfl rfl (World.news_of_block (cs := #[.string s]) (heap_alloc_new w2 _)) (by simp [Value.oneCell']) (by decide) (by unfold maxLen; omega) (by omega) (by simp; omega) (w2.heap.size + 1) (by simp) ?_; intro g5 cap5 w5 hown5 hg5 hat5 hlt5)
      have h5 := H2.out.app (fun g e => (HO2.out.safe g e).1) hg5
      have s5 := Hst2.out.app H2.out HO2.out.safe hg5
      have hO5 : OutSt w w5 x (.slice (some ⟨g5, 0, none⟩) (zs.length + 1) cap5) (zs ++ [s.data.toList]) := by
        refine ⟨?_, fun g e => ?_⟩
        · rw [List.length_append, List.map_append]; exact hown5
        · obtain rfl : g5 = g := Option.some.inj e
          refine ⟨safe_of_new H2.out (fun g e => (HO2.out.safe g e).1) hg5 hlt5 (hat5.imp id fun e => by omega), ?_⟩
          rcases hat5 with e | e
          · exact (HO2.out.safe _ e).2
          · omega
      go_roundw
      case rel =>
        have e1 : (zs ++ [s.data.toList]).length = j + 1 := by rw [List.length_append, Hzl.out]; rfl
        refine ⟨j + 1, st2, zs ++ [s.data.toList], by omega, by go_num, ?_, e1, ?_, hO5, h5, s5⟩
        · refine Hnx.out.trans Hnx2.out ?_ (Nat.le_refl _)
          rw [Hnt.out]; unfold termK; simp; omega
        · rw [List.map_append, List.sum_append, Hbt.out]
          have h6 : s.data.toList.length = s.size := rfl
          have := Hs.out
          have := Hzs.out
          have := Ex.bulk_pos es[j]
          simp only [List.map_cons, List.map_nil, List.sum_cons, List.sum_nil]
          omega
      case measure => simp [intOf]; omega
    · have t1 : decide ((j : Int) < (es.length : Int)) = false := by simp; omega
      obtain rfl : j = es.length := by omega
      rw [List.take_of_length_le (Nat.le_refl _)] at hnx hzs
      have hx1 := h1.lt
      have hsa := strs_own hO.own
      have hjoin := join_any (w := wr) zs _ _ hsa (fun b hb => hb.2) (by omega)
      have Hj := Lib.hid hjoin; have Hn := Lib.hid hnx; have H1 := Lib.hid h1; have S1 := Lib.hid s1; have Hzs := Lib.hid hzs
      clear hjoin hnx h1 s1 hO hsa hzs hzl
      go_wp2_with fail
      refine Hj.out.mono ?_
      rintro _ w2 ⟨s, rfl, hs, hb2⟩
      obtain ⟨h2, s2⟩ := H1.out.grow hb2
      have hst := S1.out.trans s2
      clear Hj
      go_wp2_with fail
      refine bodyPost_ret (results_tmp rfl _ _ _) rfl ?_
      exact ⟨s, st1, rfl, by have := Hzs.out; omega, Hn.out, h2, hst⟩
end Go.Proofs.YtdoaeapahgmfoaaGreatDoor
