/- LexTwice: the row proved; the tied card. -/
import Derived.Test.YtdoaeapahgmfoaaDoorR1
import Derived.Test.YtdoaeapahgmfoaaDoorV5
import Derived.Test.YtdoaeapahgmfoaaDoorCards
import Derived.Test.YtdoaeapahgmfoaaDoorTie
import Derived.ProofKit
import Derived.LaidMore
import Derived.Lay
import Derived.OpenShut
import Derived.SevenTiedAt
import Derived.Stop.Joined
namespace Go.Proofs.YtdoaeapahgmfoaaDoor
open Go.ChangeShapes Go.WideShapes Go.ChangeAt Go.RowKit
open Go.ChangeMaps (open_string shut_string)

def lexLaid2 : List (String × DataW Unit) := [("math/bits.deBruijn32tab", Rows.laid_math_bits_deBruijn32tab), ("math/bits.deBruijn64tab", Rows.laid_math_bits_deBruijn64tab), ("internal/strconv.uint64pow10", Rows.laid_internal_strconv_uint64pow10), ("unicode/utf8.acceptRanges", Rows.laid_unicode_utf8_acceptRanges), ("nurserypy/api.ErrText", Rows.laid_nurserypy_api_ErrText), ("nurserypy/api.ErrBound", Rows.laid_nurserypy_api_ErrBound), ("nurserypy/api.ErrShape", Rows.laid_nurserypy_api_ErrShape), ("strconv.ErrRange", Rows.laid_strconv_ErrRange), ("strconv.ErrSyntax", Rows.laid_strconv_ErrSyntax), ("nurserypy/lex.words", Rows.laid_nurserypy_lex_words), ("nurserypy/lex.ops", Rows.laid_nurserypy_lex_ops), ("unicode/utf8.first", Rows.laid_unicode_utf8_first)]

theorem plainLaid2 (w : World) : laidMetH Tryd.prog lexLaid2 w = laidMet Tryd.prog lexLaid2 w := MakeChecks.laidMetH_plain _ _ _ (by kernel_rfl)
theorem lay_met2 (os : Os) (args : Array Value) : laidMetH Tryd.prog lexLaid2 ((World.laidAll Tryd.prog os lexLaid2).forCall (fun _ _ => 0) ⟨#[], args, []⟩).memory := by
  rw [plainLaid2]
  exact laidMet_laidAll _ (by kernel_rfl) (by kernel_rfl)
theorem lay_shaped2 (os : Os) : (World.laidAll Tryd.prog os lexLaid2).Shaped Tryd.prog := World.shaped_of_ZipB (by kernel_rfl) (by kernel_rfl)
theorem g_shape : Tryd.prog.globalNamed "nurserypy/api.ErrShape" = some 2 := by kernel_rfl
theorem glob_of_laid2 {W : World} (h : laidMetH Tryd.prog lexLaid2 W) :
    (Glob W.heap.size W ∧ (∃ te pe, W.cell? ⟨0, 0, none⟩ = some (.iface te pe)) ∧ (∃ te pe, W.cell? ⟨1, 0, none⟩ = some (.iface te pe))) ∧ ∃ te pe, W.cell? ⟨2, 0, none⟩ = some (.iface te pe) := by
  rw [plainLaid2] at h
  obtain ⟨ps, h, _⟩ := h
  refine ⟨glob_of_vars h (by simp [lexLaid2]) (by simp [lexLaid2]) (by simp [lexLaid2]) (by simp [lexLaid2]) (by simp [lexLaid2]) (by simp [lexLaid2]) (by simp [lexLaid2]), ?_⟩
  exact laid_iface h "nurserypy/api.ErrShape" _ _ _ (by simp [lexLaid2, Rows.laid_nurserypy_api_ErrShape]; exact ⟨rfl, rfl⟩) g_shape (by kernel_rfl)

set_option maxRecDepth 100000 in
theorem lexTwice_lifted (os : Os) (started : os.Started) (H : Type) (enc : TypeId × Value → H) :
    ReturnsInHanded {} Tryd.checked os 7 .any (fun w args => (Rows.lexTwiceSpec.pre enc Tryd.prog Tryd.f7 [] false w args ∧ laidMetH Tryd.prog lexLaid2 w) ∧ sizedMet enc Tryd.prog Tryd.f7 (OpenSpec.ofChange Rows.lexTwiceSpec) false w args)
      (Rows.lexTwiceSpec.post enc Tryd.prog Tryd.f7 false true false false) := by
  refine returnsInHanded_of_change_and (C := Tryd.checked) (X := fun w _ => laidMetH Tryd.prog lexLaid2 w) (fun _ _ _ hh h => h.of_heap hh) own_ started (by kernel_rfl) Tryd.func7
    (ChangeSpec.witness_shaped (enc := enc) (C := Tryd.checked) (os := os) (X := fun w _ => laidMetH Tryd.prog lexLaid2 w) false (World.laidAll Tryd.prog os lexLaid2) #[.string ByteArray.empty] 8 (World.laidAll_os _ _ _)
      (lay_shaped2 os) (by kernel_rfl) (by kernel_rfl) (by kernel_rfl) (lay_met2 os _)) ?_
  intro W base args ds gs before hval0 hW _ _ hL _
  have hval : ∀ (j : Nat) t v, Tryd.f7.params[j]? = some t → args[j]? = some v → Value.okWide Tryd.prog W .any base t v := hval0
  have hW' := hW
  obtain ⟨p, q, hA0, hV, rfl, hfz, hnd⟩ := hW
  have hA : DataW.TrodAll enc Tryd.prog W 0 (fun _ => true) true Tryd.f7.params.toList args.toList ds p := hA0
  rw [Tryd.params7] at hA hval
  obtain ⟨v0, d0, rfl, rfl, h0⟩ := trodAll_one hA
  obtain ⟨rfl, rfl⟩ := trodVars_none hV
  obtain ⟨s, rfl, rfl, rfl, hs⟩ := open_string Tryd.underlying9 (hval 0 9 v0 rfl rfl) h0
  obtain ⟨⟨hg, htx, hbd⟩, hsh⟩ := glob_of_laid2 hL
  have hge : GlobE W.heap.size W := ⟨hg, htx, hbd⟩
  clear hA0 hval0
  simp only [List.append_nil] at hW'
  refine (lexTwice_any s hge hsh).mono fun e W' ⟨he, hb⟩ => ?_
  subst he
  exact ⟨_, rfl, _, _, _, [], [], [], hW', trodAll_mk1 (shut_bool Tryd.underlying4 true), trodAll_mk1 (shut_string Tryd.underlying9 hs), rfl, hb.frame _, fun h => by cases h⟩

theorem lexTwice_holds : Rows.LexTwiceSaid :=
  OpenClaim.holds_of_wide 7 Tryd.f7 rfl rfl rfl rfl rfl rfl rfl ⟨rfl, rfl, rfl, rfl, rfl⟩ rfl rfl rfl rfl rfl (by kernel_rfl) Tryd.func7 (by kernel_rfl)
    (of_decide_eq_true (by kernel_rfl)) (by unfold Func.isWrapper; first | (rw [if_pos (by decide +kernel)]; kernel_rfl) | (rw [if_neg (by decide +kernel)]; exact ⟨rfl, rfl⟩))
    (fun os started H enc _ => lexTwice_lifted os started H enc)

/-- THE TIED CARD. -/
theorem lexTwice_card_holds : Rows.LexTwiceCardSaid :=
  Claim7.holds_tied_plain_at .later [] [.data, .data, .data, .data, .sentinel, .sentinel, .sentinel, .sentinel, .sentinel, .widerDeep, .widerDeep, .pinned] true (true, "b56e68458e1d0a4b5ec60ede163cb417d6717ec06d73733a11ffef15a1b1df17") true
    lexTwice_holds (fun _ h => by cases h) (by kernel_rfl) (fun _ h => by cases h) lexTwice_row_tie rfl ⟨rfl, rfl⟩ (by kernel_rfl) rfl
    (fun f fn hf hfn => by
      obtain rfl : f = 7 := Option.some.inj ((show Tryd.prog.funcNamed "nurserypy/nurserypylaw1.LexTwice" = some 7 by kernel_rfl).symm.trans hf) |>.symm
      obtain rfl : fn = Tryd.f7 := (Option.some.inj (Tryd.func7.symm.trans hfn)).symm
      exact ⟨by kernel_rfl, fun j t ht => by
        rw [Tryd.params7] at ht
        have h3 : t = 9 := by
          rcases j with _ | j
          · simpa using ht.symm
          · simp at ht
        subst h3
        exact (show Tryd.prog.wantsStandIn 9 = false by kernel_rfl)⟩)
    (by kernel_rfl)
#print axioms lexTwice_card_holds

end Go.Proofs.YtdoaeapahgmfoaaDoor
