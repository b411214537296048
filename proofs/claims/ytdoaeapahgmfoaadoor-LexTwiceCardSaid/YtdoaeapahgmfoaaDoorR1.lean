/- What the rows' listed variables give: the words, the ops, the errors. The witness' world. -/
import Derived.Test.YtdoaeapahgmfoaaDoorRows
import Derived.Test.YtdoaeapahgmfoaaDoorP0
import Derived.ProofKit
import Derived.LaidMore
import Derived.Lay
import Derived.LaidLaws
import Derived.OpenShut
import Derived.Stop.Joined
namespace Go.Proofs.YtdoaeapahgmfoaaDoor
open Go.ChangeShapes Go.WideShapes Go.ChangeAt Go.RowKit

theorem own_ : ownKnob Tryd.prog.godebug = none := by kernel_rfl

def lexLaid : List (String × DataW Unit) := [("math/bits.deBruijn32tab", Rows.laid_math_bits_deBruijn32tab), ("math/bits.deBruijn64tab", Rows.laid_math_bits_deBruijn64tab), ("internal/strconv.uint64pow10", Rows.laid_internal_strconv_uint64pow10), ("unicode/utf8.acceptRanges", Rows.laid_unicode_utf8_acceptRanges), ("nurserypy/api.ErrText", Rows.laid_nurserypy_api_ErrText), ("nurserypy/api.ErrBound", Rows.laid_nurserypy_api_ErrBound), ("strconv.ErrRange", Rows.laid_strconv_ErrRange), ("strconv.ErrSyntax", Rows.laid_strconv_ErrSyntax), ("nurserypy/lex.words", Rows.laid_nurserypy_lex_words), ("nurserypy/lex.ops", Rows.laid_nurserypy_lex_ops), ("unicode/utf8.first", Rows.laid_unicode_utf8_first)]

/-- The witness' world meets the condition. -/
theorem plainLaid (w : World) : laidMetH Tryd.prog lexLaid w = laidMet Tryd.prog lexLaid w := MakeChecks.laidMetH_plain _ _ _ (by kernel_rfl)
theorem lay_met (os : Os) (args : Array Value) : laidMetH Tryd.prog lexLaid ((World.laidAll Tryd.prog os lexLaid).forCall (fun _ _ => 0) ⟨#[], args, []⟩).memory := by
  rw [plainLaid]
  exact laidMet_laidAll _ (by kernel_rfl) (by kernel_rfl)
theorem lay_shaped (os : Os) : (World.laidAll Tryd.prog os lexLaid).Shaped Tryd.prog := World.shaped_of_ZipB (by kernel_rfl) (by kernel_rfl)

theorem laid_mem {P : Program} {w : World} : ∀ {l : List (String × DataW Unit)} {ps : List MemPlace}, DataW.LaidVars P w l ps → ∀ n d, (n, d) ∈ l →
    ∃ g t cs fuel p, P.globalNamed n = some g ∧ (P.globals[g]?).map (·.type) = some t ∧ w.var? P n = some cs ∧ DataW.trod (fun _ => ()) P w 0 (fun _ => true) false fuel t cs.toList = some (d, p)
  | [], _, _, _, _, hm => by cases hm
  | x :: r, ps, h, n, d, hm => by
    obtain ⟨g, t, cs, fuel, p, q, h1, h2, h3, h4, h5, _⟩ := h
    rcases List.mem_cons.1 hm with rfl | hm
    · exact ⟨g, t, cs, fuel, p, h1, h2, h3, h4⟩
    · exact laid_mem h5 n d hm
theorem laid_size {P : Program} {w : World} {n : String} {g : Nat} {cs : Array Value} (hg : P.globalNamed n = some g) (h : w.var? P n = some cs) : g < w.heap.size := by
  simp only [World.var?, hg, Option.bind_some] at h
  split at h
  · rename_i h1; exact (Array.getElem?_eq_some_iff.1 h1).1
  · cases h
theorem laid_iface {W : World} {l : List (String × DataW Unit)} {ps : List MemPlace} (h : DataW.LaidVars Tryd.prog W l ps) (n name : String) (d : DataW Unit) (g : Nat) (hm : (n, .iface name d) ∈ l)
    (hgn : Tryd.prog.globalNamed n = some g) (hgt : (Tryd.prog.globals[g]?).map (·.type) = some 25) : ∃ te pe, W.cell? ⟨g, 0, none⟩ = some (.iface te pe) := by
  obtain ⟨g', t, cs, fuel, p, h1, h2, h3, h4⟩ := laid_mem h n _ hm
  obtain rfl := Option.some.inj (hgn.symm.trans h1)
  obtain rfl := Option.some.inj (hgt.symm.trans h2)
  obtain ⟨_, u, v, hcs, _, _⟩ := iface_of_trod Tryd.underlying25 h4
  refine ⟨u, v, ?_⟩
  have := World.var?_cell hgn h3 0
  rw [Array.eq_one_of_toList hcs] at this
  simpa using this
theorem cells_string : Tryd.prog.cellsOf 9 = 1 := by kernel_rfl
theorem laid_strs {W : World} {l : List (String × DataW Unit)} {ps : List MemPlace} (h : DataW.LaidVars Tryd.prog W l ps) (n : String) (zs : List (List UInt8)) (g : Nat) (hz : 0 < zs.length) (hm : (n, .slice (zs.map fun z => .lit (.string z)) []) ∈ l)
    (hgn : Tryd.prog.globalNamed n = some g) (hgt : (Tryd.prog.globals[g]?).map (·.type) = some 27) :
    ∃ b o c, W.cell? ⟨g, 0, none⟩ = some (.slice (some ⟨b, o, none⟩) zs.length c) ∧ b < W.heap.size ∧ ∀ j (hj : j < (zs.map toBA).length), W.cell? ⟨b, o + j, none⟩ = some (.string (zs.map toBA)[j]) := by
  obtain ⟨g', t, cs, fuel, p, h1, h2, h3, h4⟩ := laid_mem h n _ hm
  obtain rfl := Option.some.inj (hgn.symm.trans h1)
  obtain rfl := Option.some.inj (hgt.symm.trans h2)
  obtain ⟨a, cap, hcs, _, hel⟩ := open_row Tryd.underlying27 cells_string h4
  have hcell : ∀ j (hj : j < (zs.map toBA).length), W.cell? (a.add j) = some (.string (zs.map toBA)[j]) := by
    intro j hj
    have hj' : j < zs.length := by simpa using hj
    obtain ⟨v, m, q, hc, ht⟩ := hel j (.lit (.string zs[j])) (by rw [List.getElem?_map, List.getElem?_eq_getElem hj']; rfl)
    obtain ⟨s, hs, hx, _⟩ := DataW.trod_string Tryd.underlying9 ht
    rw [hc]
    have e1 : v = .string s := by simpa using hs
    have e2 : zs[j] = s.data.toList := by simpa using (Prod.mk.inj hx).1
    rw [e1, List.getElem_map, e2, toBA_of]
  obtain ⟨b, o, spot⟩ := a
  have hc0 := hcell 0 (by simpa using hz)
  have hspot : spot = none := by simpa [Addr.add] using World.cell?_spot hc0
  subst hspot
  have hadd : ∀ j, (⟨b, o, none⟩ : Addr).add j = ⟨b, o + j, none⟩ := by intro j; unfold Addr.add; split <;> simp_all
  refine ⟨b, o, cap, ?_, World.block_lt_of_cell? W _ hc0, fun j hj => by rw [← hadd]; exact hcell j hj⟩
  have := World.var?_cell hgn h3 0
  rw [Array.eq_one_of_toList hcs, List.length_map] at this
  simpa using this

theorem g_of : Tryd.prog.globalNamed "nurserypy/lex.words" = some 8 ∧ Tryd.prog.globalNamed "nurserypy/lex.ops" = some 9 ∧ Tryd.prog.globalNamed "strconv.ErrSyntax" = some 11 ∧
    Tryd.prog.globalNamed "strconv.ErrRange" = some 12 ∧ Tryd.prog.globalNamed "nurserypy/api.ErrText" = some 0 ∧ Tryd.prog.globalNamed "nurserypy/api.ErrBound" = some 1 ∧
    Tryd.prog.globalNamed "math/bits.deBruijn64tab" = some 17 := ⟨by kernel_rfl, by kernel_rfl, by kernel_rfl, by kernel_rfl, by kernel_rfl, by kernel_rfl, by kernel_rfl⟩
theorem words_laid {H : Type} : (Rows.laid_nurserypy_lex_words : DataW H) = .slice (wordsL.map fun z => .lit (.string z)) [] := rfl
theorem ops_laid {H : Type} : (Rows.laid_nurserypy_lex_ops : DataW H) = .slice (opsL.map fun z => .lit (.string z)) [] := rfl

/-- WHAT THE CONDITION GIVES THE WALKS, of any list that holds these seven. -/
theorem glob_of_vars {W : World} {l : List (String × DataW Unit)} {ps : List MemPlace} (h : DataW.LaidVars Tryd.prog W l ps)
    (h1 : ("nurserypy/lex.words", Rows.laid_nurserypy_lex_words) ∈ l) (h2 : ("nurserypy/lex.ops", Rows.laid_nurserypy_lex_ops) ∈ l) (h3 : ("strconv.ErrSyntax", Rows.laid_strconv_ErrSyntax) ∈ l) (h4 : ("strconv.ErrRange", Rows.laid_strconv_ErrRange) ∈ l)
    (h5 : ("nurserypy/api.ErrText", Rows.laid_nurserypy_api_ErrText) ∈ l) (h6 : ("nurserypy/api.ErrBound", Rows.laid_nurserypy_api_ErrBound) ∈ l) (h7 : ("math/bits.deBruijn64tab", Rows.laid_math_bits_deBruijn64tab) ∈ l) :
    Glob W.heap.size W ∧ (∃ te pe, W.cell? ⟨0, 0, none⟩ = some (.iface te pe)) ∧ (∃ te pe, W.cell? ⟨1, 0, none⟩ = some (.iface te pe)) := by
  obtain ⟨g1, g2, g3, g4, g5, g6, g7⟩ := g_of
  obtain ⟨g', t, cs, fuel, p, k1, k2, k3, k4⟩ := laid_mem h _ _ h7
  have hsz : 17 < W.heap.size := laid_size g7 k3
  rw [words_laid] at h1
  rw [ops_laid] at h2
  refine ⟨⟨by omega, laid_strs h _ wordsL _ (by decide) h1 g1 (by kernel_rfl), laid_strs h _ opsL _ (by decide) h2 g2 (by kernel_rfl), laid_iface h _ _ _ _ h3 g3 (by kernel_rfl), laid_iface h _ _ _ _ h4 g4 (by kernel_rfl)⟩,
    laid_iface h _ _ _ _ h5 g5 (by kernel_rfl), laid_iface h _ _ _ _ h6 g6 (by kernel_rfl)⟩
theorem glob_of_laid {W : World} (h : laidMetH Tryd.prog lexLaid W) :
    Glob W.heap.size W ∧ (∃ te pe, W.cell? ⟨0, 0, none⟩ = some (.iface te pe)) ∧ (∃ te pe, W.cell? ⟨1, 0, none⟩ = some (.iface te pe)) := by
  rw [plainLaid] at h
  obtain ⟨ps, h, _⟩ := h
  exact glob_of_vars h (by simp [lexLaid]) (by simp [lexLaid]) (by simp [lexLaid]) (by simp [lexLaid]) (by simp [lexLaid]) (by simp [lexLaid]) (by simp [lexLaid])

end Go.Proofs.YtdoaeapahgmfoaaDoor
