/- LexTexts: the row proved; the tied card. No condition but the row's own list. -/
import Derived.Test.YtdoaeapahgmfoaaGreatDoorR2
import Derived.Test.YtdoaeapahgmfoaaGreatDoorY5
import Derived.Test.YtdoaeapahgmfoaaGreatDoorCards
import Derived.Test.YtdoaeapahgmfoaaGreatDoorTie
import Derived.Deep.Slices
import Derived.ChangeSame
import Derived.SizedLaws
import Derived.ProofKit
import Derived.LaidMore
import Derived.Lay
import Derived.OpenShut
import Derived.SevenTiedAt
import Derived.Stop.Joined
namespace Go.Proofs.YtdoaeapahgmfoaaGreatDoor
open Go.ChangeShapes Go.WideShapes Go.ChangeAt Go.RowKit

theorem list_of {α : Type} {n : Nat} {P : Nat → α → Prop} (h : ∀ i, i < n → ∃ t, P i t) : ∃ ts : List α, ts.length = n ∧ ∀ i (hi : i < ts.length), P i ts[i] := by
  induction n with
  | zero => exact ⟨[], rfl, fun i hi => by simp at hi⟩
  | succ n ih =>
    obtain ⟨ts, hl, hp⟩ := ih fun i hi => h i (by omega)
    obtain ⟨t, ht⟩ := h n (by omega)
    refine ⟨ts ++ [t], by simp [hl], fun i hi => ?_⟩
    rcases Nat.lt_or_ge i ts.length with h1 | h1
    · rw [List.getElem_append_left h1]; exact hp i h1
    · have : i = ts.length := by simp at hi; omega
      subst this
      rw [List.getElem_append_right (Nat.le_refl _)]
      simpa [hl] using ht

theorem cells_rtok : Tryz.prog.cellsOf 115 = 3 := by kernel_rfl
theorem cells_int : Tryz.prog.cellsOf 3 = 1 := by kernel_rfl
set_option maxRecDepth 100000 in
/-- One token that came in: its cells, what it reads as. -/
theorem rtok_open {H : Type} {enc : TypeId × Value → H} {W : World} {a : Addr} {fuel : Nat} {cs : List Value} {x : DataW H × List MemPlace} (hc : W.cells? 0 a 3 = some cs)
    (h : DataW.trod enc Tryz.prog W 0 (fun _ => true) true fuel 115 cs = some x) :
    ∃ t : TokI, W.cell? (a.add 0) = some (.string (toBA t.kind)) ∧ W.cell? (a.add 1) = some (.string (toBA t.text)) ∧ W.cell? (a.add 2) = some (.int .i64 t.at_) ∧
      x.1 = .agg [.lit (.string t.kind), .lit (.string t.text), .lit (.int .i64 t.at_)] := by
  obtain ⟨_, hl, hcell⟩ := World.cells?_some hc
  obtain ⟨xs, m, _, hx, _, hlen, hf⟩ := DataW.trod_struct Tryz.underlying115 h
  match cs, hl, xs, hlen with
  | [c0, c1, c2], _, [y0, y1, y2], _ =>
    have h0 : DataW.trod enc Tryz.prog W 0 (fun _ => true) true m 9 (List.take (Tryz.prog.cellsOf 9) (List.drop 0 [c0, c1, c2])) = some y0 := hf 0 _ rfl
    have h1 : DataW.trod enc Tryz.prog W 0 (fun _ => true) true m 9 (List.take (Tryz.prog.cellsOf 9) (List.drop 1 [c0, c1, c2])) = some y1 := hf 1 _ rfl
    have h2 : DataW.trod enc Tryz.prog W 0 (fun _ => true) true m 3 (List.take (Tryz.prog.cellsOf 3) (List.drop 2 [c0, c1, c2])) = some y2 := hf 2 _ rfl
    rw [cells_string] at h0 h1
    rw [cells_int] at h2
    obtain ⟨s0, e0, d0, _⟩ := DataW.trod_string Tryz.underlying9 h0
    obtain ⟨s1, e1, d1, _⟩ := DataW.trod_string Tryz.underlying9 h1
    obtain ⟨n2, e2, d2, _⟩ := DataW.trod_int Tryz.underlying3 h2
    have k0 := hcell 0 (by omega)
    have k1 := hcell 1 (by omega)
    have k2 := hcell 2 (by omega)
    simp at e0 e1 e2 k0 k1 k2
    refine ⟨⟨s0.data.toList, s1.data.toList, n2⟩, ?_, ?_, ?_, ?_⟩
    · rw [k0, e0, toBA_of]
    · rw [k1, e1, toBA_of]
    · rw [k2, e2]
    · rw [hx]; simp [d0, d1, d2]
theorem spot_none {W : World} {a : Addr} {v : Value} (h : W.cell? (a.add 0) = some v) : ∃ b o, a = ⟨b, o, none⟩ := by
  rcases a with ⟨b, o, s⟩
  rcases s with _ | s
  · exact ⟨b, o, rfl⟩
  · exfalso
    unfold Addr.add at h
    rw [if_pos rfl] at h
    unfold World.cell? at h
    split at h
    · simp at h
    · cases h
theorem addr_add (b o j : Nat) : (⟨b, o, none⟩ : Addr).add j = ⟨b, o + j, none⟩ := by
  unfold Addr.add
  split
  · rename_i h; subst h; rfl
  · rfl
theorem rtoks_open {H : Type} {enc : TypeId × Value → H} {W : World} {a0 : Option Addr} {n0 c0 : Nat} {d : DataW H} {p : List MemPlace} (h : DataW.Trod enc Tryz.prog W 0 (fun _ => true) true 45 (.slice a0 n0 c0) d p) :
    ∃ ts : List TokI, ts.length = n0 ∧ n0 ≤ maxLen ∧ RtAt W a0 ts ∧ ∃ rest : List (DataW H), (d = .nil ∧ ts = []) ∨ d = .slice (ts.map fun t => .agg [.lit (.string t.kind), .lit (.string t.text), .lit (.int .i64 t.at_)]) rest := by
  obtain ⟨fuel, h⟩ := h
  rcases Go.Deep.open_slice Tryz.underlying45 h with ⟨h1, h2⟩ | ⟨a, len, cap, m, n, D, Pl, h1, hb, hl, hm, hmm, hx, hi⟩
  · simp [Value.cells] at h1
    obtain ⟨rfl, rfl, rfl⟩ := h1
    exact ⟨[], rfl, by decide, ⟨fun h => by simp at h⟩, [], .inl ⟨by simpa using (Prod.mk.inj h2).1, rfl⟩⟩
  · simp [Value.cells] at h1
    obtain ⟨rfl, rfl, rfl⟩ := h1
    simp only [if_true] at hmm
    have each : ∀ i, i < n0 → ∃ t : TokI, W.cell? ((a.add (i * 3)).add 0) = some (.string (toBA t.kind)) ∧ W.cell? ((a.add (i * 3)).add 1) = some (.string (toBA t.text)) ∧ W.cell? ((a.add (i * 3)).add 2) = some (.int .i64 t.at_) ∧
        D i = .agg [.lit (.string t.kind), .lit (.string t.text), .lit (.int .i64 t.at_)] := by
      intro i hin
      obtain ⟨cs', hc, ht⟩ := hi i (by omega)
      rw [cells_rtok] at hc
      exact rtok_open hc ht
    obtain ⟨ts, htl, hts⟩ := list_of each
    refine ⟨ts, htl, by omega, ⟨fun hp => ?_⟩, (List.range (m - n0)).map fun j => D (n0 + j), .inr ?_⟩
    · obtain ⟨b, o, rfl⟩ : ∃ b o, a = ⟨b, o, none⟩ := by
        have h0 := (hts 0 hp).1
        rw [Nat.zero_mul] at h0
        have h0' : W.cell? (a.add 0) = some (.string (toBA (ts[0]).kind)) := by
          rcases a with ⟨b, o, s⟩
          unfold Addr.add at h0 ⊢
          simpa using h0
        exact spot_none h0'
      refine ⟨b, o, rfl, World.block_lt_of_cell? W ⟨b, o + 0 * 3 + 0, none⟩ (by have := (hts 0 hp).1; rwa [addr_add, addr_add] at this), fun j hj => ?_⟩
      obtain ⟨q0, q1, q2, _⟩ := hts j hj
      rw [addr_add, addr_add] at q0 q1 q2
      exact ⟨q0, q1, q2⟩
    · have e : (List.range n0).map D = ts.map fun t => .agg [.lit (.string t.kind), .lit (.string t.text), .lit (.int .i64 t.at_)] := by
        refine List.ext_getElem (by simp [htl]) fun i h1 h2 => ?_
        have hi' : i < ts.length := by simpa using h2
        rw [List.getElem_map, List.getElem_range, List.getElem_map]
        exact (hts i hi').2.2.2
      rw [← e]
      exact (Prod.mk.inj hx).1

theorem all_mem {H : Type} {P : Program} {e : TypeId} : ∀ {ds : List (DataW H)} {d : DataW H} {n : Nat}, d ∈ ds → n ∈ d.weights P e → n ∈ DataW.weightsAll P e ds
  | d0 :: r, d, n, hd, hn => by
    simp only [DataW.weightsAll, List.mem_append]
    rcases List.mem_cons.1 hd with rfl | hd
    · exact .inl hn
    · exact .inr (all_mem hd hn)
theorem texts_short {H : Type} {ts : List TokI} {rest : List (DataW H)} (h : (DataW.weightsEach Tryz.prog [45] [DataW.slice (ts.map fun t => .agg [.lit (.string t.kind), .lit (.string t.text), .lit (.int .i64 t.at_)]) rest]).all (· ≤ reachBytes) = true) :
    ∀ t ∈ ts, t.text.length ≤ 140737488351232 := by
  intro t ht
  have h1 := List.all_eq_true.1 h t.text.length (DataW.weights_mem_each (j := 0) rfl rfl _ (by
    simp only [DataW.weights, Tryz.underlying45, List.mem_cons, List.mem_append]
    right; left
    refine all_mem (List.mem_map.2 ⟨t, ht, rfl⟩) ?_
    simp [DataW.weights, Tryz.underlying115, DataW.weightsEach]))
  exact of_decide_eq_true h1

theorem laidOut_ : laidOutB Tryz.prog = true := by kernel_rfl
set_option maxRecDepth 100000 in
theorem lexTexts_lifted (os : Os) (started : os.Started) (H : Type) (enc : TypeId × Value → H) :
    ReturnsInHanded {} Tryz.checked os 6 .any (fun w args => (Rows.lexTextsSpec.pre enc Tryz.prog Tryz.f6 [] false w args ∧ laidMetH Tryz.prog readsLaid w) ∧ sizedMet enc Tryz.prog Tryz.f6 (OpenSpec.ofChange Rows.lexTextsSpec) false w args)
      (Rows.lexTextsSpec.post enc Tryz.prog Tryz.f6 false true false false) := by
  refine returnsInHanded_of_change_and (C := Tryz.checked) (X := fun w _ => laidMetH Tryz.prog readsLaid w) (fun _ _ _ hh h => h.of_heap hh) own_ started (by kernel_rfl) Tryz.func6
    (ChangeSpec.witness_shaped (enc := enc) (C := Tryz.checked) (os := os) (X := fun w _ => laidMetH Tryz.prog readsLaid w) false (readsWorld os) #[.slice none 0 0] 8 (readsWorld_os os)
      (readsWorld_shaped os) (by kernel_rfl) (by kernel_rfl) (by kernel_rfl) (readsWorld_met os _)) ?_
  intro W base args ds gs before hval0 hW _ hwt hL _
  have hval : ∀ (j : Nat) t v, Tryz.f6.params[j]? = some t → args[j]? = some v → Value.okWide Tryz.prog W .any base t v := hval0
  have hW' := hW
  obtain ⟨p, q, hA0, hV, rfl, hfz, hnd⟩ := hW
  have hA : DataW.TrodAll enc Tryz.prog W 0 (fun _ => true) true Tryz.f6.params.toList args.toList ds p := hA0
  rw [Tryz.params6] at hA hval hwt
  obtain ⟨v0, d0, rfl, rfl, h0⟩ := trodAll_one hA
  obtain ⟨rfl, rfl⟩ := trodVars_none hV
  have h0k := h0
  obtain ⟨a0, n0, c0, rfl⟩ := okWide_slice Tryz.underlying45 (hval 0 45 v0 rfl rfl)
  obtain ⟨ts, hlen, hmax, hrt, rest, hd⟩ := rtoks_open h0
  have hx : ∀ t ∈ ts, t.text.length ≤ 140737488351232 := by
    rcases hd with ⟨_, h⟩ | h
    · rw [h]; simp
    · rw [h] at hwt
      exact texts_short hwt
  obtain ⟨hge, pp, hE⟩ := reads_of_laid hL
  clear hA0 hval0
  simp only [List.append_nil] at hW'
  have hlt : ∀ x ∈ p, x.block < W.heap.size := fun x hx => by simpa using hW'.lt x (by simpa using hx)
  have hcall := lexTexts_any ts a0 c0 hrt (by have := hmax; simp only [maxLen] at this; omega) hx hge hE
  rw [hlen] at hcall
  refine hcall.mono fun e W' ⟨he, hb⟩ => ?_
  subst he
  exact ⟨_, rfl, _, _, _, [], _, [], hW', trodAll_mk1 (shut_bool Tryz.underlying4 true), trodAll_mk1 (Below.trod laidOut_ (by kernel_rfl) (of_decide_eq_true (by kernel_rfl)) h0k hb hlt), rfl, hb.frame _, fun h => by cases h⟩

theorem lexTexts_holds : Rows.LexTextsSaid :=
  OpenClaim.holds_of_wide 6 Tryz.f6 rfl rfl rfl rfl rfl rfl rfl ⟨rfl, rfl, rfl, rfl, rfl⟩ rfl rfl rfl rfl rfl (by kernel_rfl) Tryz.func6 (by kernel_rfl)
    (of_decide_eq_true (by kernel_rfl)) (by unfold Func.isWrapper; first | (rw [if_pos (by decide +kernel)]; kernel_rfl) | (rw [if_neg (by decide +kernel)]; exact ⟨rfl, rfl⟩))
    (fun os started H enc _ => lexTexts_lifted os started H enc)

/-- THE TIED CARD. -/
theorem lexTexts_card_holds : Rows.LexTextsCardSaid :=
  Claim7.holds_tied_plain_at .later [] [.data, .data, .data, .data, .handle, .sentinel, .sentinel, .sentinel, .sentinel, .sentinel, .sentinel, .sentinel, .sentinel, .sentinel, .widerDeep, .widerDeep, .pinned] true (true, "cc3900315b2212a4c152cdc7b6c2cc4a2cf00fa94bd8bb209e93a756456b1f06") true
    lexTexts_holds (fun _ h => by cases h) (by kernel_rfl) (fun _ h => by cases h) lexTexts_row_tie rfl ⟨rfl, rfl⟩ (by kernel_rfl) rfl
    (fun f fn hf hfn => by
      obtain rfl : f = 6 := Option.some.inj ((show Tryz.prog.funcNamed "nurserypy/nurserypylaw1.LexTexts" = some 6 by kernel_rfl).symm.trans hf) |>.symm
      obtain rfl : fn = Tryz.f6 := (Option.some.inj (Tryz.func6.symm.trans hfn)).symm
      exact ⟨by kernel_rfl, fun j t ht => by
        rw [Tryz.params6] at ht
        have h3 : t = 45 := by
          rcases j with _ | j
          · simpa using ht.symm
          · simp at ht
        subst h3
        exact (show Tryz.prog.wantsStandIn 45 = false by kernel_rfl)⟩)
    (by kernel_rfl)
#print axioms lexTexts_card_holds

end Go.Proofs.YtdoaeapahgmfoaaGreatDoor
