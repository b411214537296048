/- LexDeep: the row proved; the tied card. -/
import Derived.Test.YtdoaeapahgmfoaaDoorR1
import Derived.Test.YtdoaeapahgmfoaaDoorD2
import Derived.Test.YtdoaeapahgmfoaaDoorCards
import Derived.Test.YtdoaeapahgmfoaaDoorTie
import Derived.ProofKit
import Derived.LaidMore
import Derived.Lay
import Derived.OpenShut
import Derived.SevenTiedAt
import Derived.Stop.Joined
import Derived.ChangeSlices
import Derived.Carry
namespace Go.Proofs.YtdoaeapahgmfoaaDoor
open Go.ChangeShapes Go.WideShapes Go.ChangeAt Go.RowKit

theorem Tryd.laidOut : laidOutB Tryd.prog = true := by kernel_rfl

/-- A slice of ints, opened: its cells. -/
theorem ints_open {H : Type} {enc : TypeId × Value → H} {W : World} {a0 : Option Addr} {n0 c0 : Nat} {d : DataW H} {p : List MemPlace} (h : DataW.Trod enc Tryd.prog W 0 (fun _ => true) true 22 (.slice a0 n0 c0) d p) :
    ∃ (a : Option Addr) (n c : Nat) (zs : List Int), Value.slice a0 n0 c0 = .slice a n c ∧ zs.length = n ∧ ∀ j (hj : j < zs.length), ∃ b o, a = some ⟨b, o, none⟩ ∧ b < W.heap.size ∧ W.cell? ⟨b, o + j, none⟩ = some (.int .i64 zs[j]) := by
  obtain ⟨fuel, h⟩ := h
  rcases open_ints Tryd.underlying22 Tryd.underlying3 (by kernel_rfl) h with ⟨h1, _⟩ | ⟨a, len, cap, zs, h1, hb, hl, hm, hlen, _, hc, _⟩
  · simp [Value.cells] at h1
    obtain ⟨rfl, rfl, rfl⟩ := h1
    exact ⟨none, 0, 0, [], rfl, rfl, fun j hj => by simp at hj⟩
  · simp [Value.cells] at h1
    obtain ⟨rfl, rfl, rfl⟩ := h1
    simp only [if_true] at hlen
    refine ⟨some a, n0, c0, zs.take n0, rfl, by simp; omega, fun j hj => ?_⟩
    simp only [List.length_take] at hj
    have h0 := hc 0 (by omega)
    have hj2 := hc j (by omega)
    have hs : a.spot = none := by
      rcases a with ⟨b, o, s⟩
      rcases s with _ | s
      · rfl
      · exfalso
        unfold Addr.add at h0
        rw [if_pos rfl] at h0
        unfold World.cell? at h0
        split at h0
        · simp at h0
        · cases h0
    rcases a with ⟨b, o, s⟩
    simp only at hs
    subst hs
    have ha : (⟨b, o, none⟩ : Addr).add j = ⟨b, o + j, none⟩ := by
      unfold Addr.add
      split
      · rename_i h; subst h; rfl
      · rfl
    rw [ha] at hj2
    refine ⟨b, o, rfl, ?_, ?_⟩
    · rcases Nat.lt_or_ge b W.heap.size with h' | h'
      · exact h'
      · exfalso; unfold World.cell? at hj2; rw [Array.getElem?_eq_none h'] at hj2; cases hj2
    · rw [hj2]
      simp only [List.getElem_take]
      rw [List.getD_eq_getElem?_getD, List.getElem?_eq_getElem (by omega)]
      rfl

set_option maxRecDepth 100000 in
theorem lexDeep_lifted (os : Os) (started : os.Started) (H : Type) (enc : TypeId × Value → H) :
    ReturnsInHanded {} Tryd.checked os 6 .any (fun w args => (Rows.lexDeepSpec.pre enc Tryd.prog Tryd.f6 [] false w args ∧ laidMetH Tryd.prog lexLaid w) ∧ sizedMet enc Tryd.prog Tryd.f6 (OpenSpec.ofChange Rows.lexDeepSpec) false w args)
      (Rows.lexDeepSpec.post enc Tryd.prog Tryd.f6 false true false false) := by
  refine returnsInHanded_of_change_and (C := Tryd.checked) (X := fun w _ => laidMetH Tryd.prog lexLaid w) (fun _ _ _ hh h => h.of_heap hh) own_ started (by kernel_rfl) Tryd.func6
    (ChangeSpec.witness_shaped (enc := enc) (C := Tryd.checked) (os := os) (X := fun w _ => laidMetH Tryd.prog lexLaid w) false (World.laidAll Tryd.prog os lexLaid) #[.slice none 0 0, .int .i64 0] 8 (World.laidAll_os _ _ _)
      (lay_shaped os) (by kernel_rfl) (by kernel_rfl) (by kernel_rfl) (lay_met os _)) ?_
  intro W base args ds gs before hval0 hW _ _ hL _
  have hval : ∀ (j : Nat) t v, Tryd.f6.params[j]? = some t → args[j]? = some v → Value.okWide Tryd.prog W .any base t v := hval0
  have hW' := hW
  obtain ⟨p, q, hA0, hV, rfl, hfz, hnd⟩ := hW
  have hA : DataW.TrodAll enc Tryd.prog W 0 (fun _ => true) true Tryd.f6.params.toList args.toList ds p := hA0
  rw [Tryd.params6] at hA hval
  obtain ⟨v0, v1, d0, d1, p0, p1, rfl, rfl, rfl, h0, h1⟩ := trodAll_two hA
  obtain ⟨rfl, rfl⟩ := trodVars_none hV
  have h0k := h0
  obtain ⟨back, rfl, rfl, rfl, wfb⟩ := open_int Tryd.underlying3 (hval 1 3 v1 rfl rfl) h1
  obtain ⟨a0, n0, c0, rfl⟩ := okWide_slice Tryd.underlying22 (hval 0 22 v0 rfl rfl)
  obtain ⟨a, n, c, zs, he0, hn, hz⟩ := ints_open h0
  rw [he0] at h0k hW' ⊢
  obtain ⟨hg, htx, hbd⟩ := glob_of_laid hL
  have hge : GlobE W.heap.size W := ⟨hg, htx, hbd⟩
  clear hA0 hval0
  simp only [List.append_nil] at hW'
  have hlt : ∀ x ∈ p0, x.block < W.heap.size := fun x hx => by simpa using hW'.lt x (by simpa using hx)
  refine (lexDeep_any a n c zs back hge hn hz).mono fun e W' ⟨he, hb⟩ => ?_
  subst he
  exact ⟨_, rfl, _, _, _, [], p0 ++ [], [], hW', trodAll_mk1 (shut_bool Tryd.underlying4 true), trodAll_mk2 (Below.trod Tryd.laidOut (by kernel_rfl) (of_decide_eq_true (by kernel_rfl)) h0k hb hlt) (shut_int Tryd.underlying3 wfb), rfl, hb.frame _, fun h => by cases h⟩

theorem lexDeep_holds : Rows.LexDeepSaid :=
  OpenClaim.holds_of_wide 6 Tryd.f6 rfl rfl rfl rfl rfl rfl rfl ⟨rfl, rfl, rfl, rfl, rfl⟩ rfl rfl rfl rfl rfl (by kernel_rfl) Tryd.func6 (by kernel_rfl)
    (of_decide_eq_true (by kernel_rfl)) (by unfold Func.isWrapper; first | (rw [if_pos (by decide +kernel)]; kernel_rfl) | (rw [if_neg (by decide +kernel)]; exact ⟨rfl, rfl⟩))
    (fun os started H enc _ => lexDeep_lifted os started H enc)

/-- THE TIED CARD. -/
theorem lexDeep_card_holds : Rows.LexDeepCardSaid :=
  Claim7.holds_tied_plain_at .later [] [.data, .data, .data, .data, .sentinel, .sentinel, .sentinel, .sentinel, .widerDeep, .widerDeep, .pinned] true (true, "b56e68458e1d0a4b5ec60ede163cb417d6717ec06d73733a11ffef15a1b1df17") true
    lexDeep_holds (fun _ h => by cases h) (by kernel_rfl) (fun _ h => by cases h) lexDeep_row_tie rfl ⟨rfl, rfl⟩ (by kernel_rfl) rfl
    (fun f fn hf hfn => by
      obtain rfl : f = 6 := Option.some.inj ((show Tryd.prog.funcNamed "nurserypy/nurserypylaw1.LexDeep" = some 6 by kernel_rfl).symm.trans hf) |>.symm
      obtain rfl : fn = Tryd.f6 := (Option.some.inj (Tryd.func6.symm.trans hfn)).symm
      exact ⟨by kernel_rfl, fun j t ht => by
        rw [Tryd.params6] at ht
        rcases j with _ | _ | j
        · obtain rfl : 22 = t := by simpa using ht
          exact (show Tryd.prog.wantsStandIn 22 = false by kernel_rfl)
        · obtain rfl : 3 = t := by simpa using ht
          exact (show Tryd.prog.wantsStandIn 3 = false by kernel_rfl)
        · simp at ht⟩)
    (by kernel_rfl)
#print axioms lexDeep_card_holds

end Go.Proofs.YtdoaeapahgmfoaaDoor
