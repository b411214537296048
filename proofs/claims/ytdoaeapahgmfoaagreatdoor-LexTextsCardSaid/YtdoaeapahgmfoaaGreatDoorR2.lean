/- What the rows' listed variables give: the words, the ops, the errors, the type's handle. The witness' world. -/
import Derived.Test.YtdoaeapahgmfoaaGreatDoorRows
import Derived.Test.YtdoaeapahgmfoaaGreatDoorX1
import Derived.Test.YtdoaeapahgmfoaaGreatDoorE2
import Derived.ProofKit
import Derived.LaidMore
import Derived.Lay
import Derived.LaidLaws
import Derived.LaidHandle
import Derived.OpenShut
import Derived.Stop.Joined
namespace Go.Proofs.YtdoaeapahgmfoaaGreatDoor
open Go.ChangeShapes Go.WideShapes Go.ChangeAt Go.RowKit

theorem own_ : ownKnob Tryz.prog.godebug = none := by kernel_rfl

def readsPlain : List (String × DataW Unit) := [("math/bits.deBruijn32tab", Rows.laid_math_bits_deBruijn32tab), ("math/bits.deBruijn64tab", Rows.laid_math_bits_deBruijn64tab), ("internal/strconv.uint64pow10", Rows.laid_internal_strconv_uint64pow10), ("unicode/utf8.acceptRanges", Rows.laid_unicode_utf8_acceptRanges), ("nurserypy/api.ErrText", Rows.laid_nurserypy_api_ErrText), ("nurserypy/api.ErrBound", Rows.laid_nurserypy_api_ErrBound), ("nurserypy/api.ErrShape", Rows.laid_nurserypy_api_ErrShape), ("nurserypy/api.ErrName", Rows.laid_nurserypy_api_ErrName), ("nurserypy/api.ErrPlace", Rows.laid_nurserypy_api_ErrPlace), ("nurserypy/api.ErrFull", Rows.laid_nurserypy_api_ErrFull), ("nurserypy/api.ErrNone", Rows.laid_nurserypy_api_ErrNone), ("strconv.ErrRange", Rows.laid_strconv_ErrRange), ("strconv.ErrSyntax", Rows.laid_strconv_ErrSyntax), ("nurserypy/lex.words", Rows.laid_nurserypy_lex_words), ("nurserypy/lex.ops", Rows.laid_nurserypy_lex_ops), ("unicode/utf8.first", Rows.laid_unicode_utf8_first)]
def readsLaid : List (String × DataW Unit) := [("math/bits.deBruijn32tab", Rows.laid_math_bits_deBruijn32tab), ("math/bits.deBruijn64tab", Rows.laid_math_bits_deBruijn64tab), ("internal/strconv.uint64pow10", Rows.laid_internal_strconv_uint64pow10), ("unicode/utf8.acceptRanges", Rows.laid_unicode_utf8_acceptRanges), ("errors.errorType", Rows.laid_errors_errorType), ("nurserypy/api.ErrText", Rows.laid_nurserypy_api_ErrText), ("nurserypy/api.ErrBound", Rows.laid_nurserypy_api_ErrBound), ("nurserypy/api.ErrShape", Rows.laid_nurserypy_api_ErrShape), ("nurserypy/api.ErrName", Rows.laid_nurserypy_api_ErrName), ("nurserypy/api.ErrPlace", Rows.laid_nurserypy_api_ErrPlace), ("nurserypy/api.ErrFull", Rows.laid_nurserypy_api_ErrFull), ("nurserypy/api.ErrNone", Rows.laid_nurserypy_api_ErrNone), ("strconv.ErrRange", Rows.laid_strconv_ErrRange), ("strconv.ErrSyntax", Rows.laid_strconv_ErrSyntax), ("nurserypy/lex.words", Rows.laid_nurserypy_lex_words), ("nurserypy/lex.ops", Rows.laid_nurserypy_lex_ops), ("unicode/utf8.first", Rows.laid_unicode_utf8_first)]

/-- The witness' world. -/
noncomputable def handWorld (os : Os) : World :=
  let w0 := World.holding Tryz.prog os ⟨#[], #[], []⟩
  { w0 with heap := w0.heap.modify 7 fun
      | .cells _ t frozen => .cells #[.iface 233 (.agg #[.pointer (some ⟨19, 27, none⟩)])] t frozen
      | o => o }
noncomputable def readsWorld (os : Os) : World := (handWorld os).layVars Tryz.prog readsPlain
theorem readsWorld_os (os : Os) : (readsWorld os).os = os := World.layVars_os _ _ _
theorem readsWorld_plain (os : Os) (args : Array Value) : laidMet Tryz.prog readsPlain ((readsWorld os).forCall (fun _ _ => 0) ⟨#[], args, []⟩).memory := by
  have e1 : (readsPlain.filter fun x => (readsPlain.map (·.1)).contains x.1) = readsPlain := List.filter_eq_self.2 fun x hx => List.contains_iff_mem.2 (List.mem_map.2 ⟨x, hx, rfl⟩)
  have e2 : (readsPlain.filter fun x => !(readsPlain.map (·.1)).contains x.1) = [] := List.filter_eq_nil_iff.2 fun x hx => by rw [List.contains_iff_mem.2 (List.mem_map.2 ⟨x, hx, rfl⟩)]; simp
  have h : laidMet Tryz.prog readsPlain (readsWorld os) := laidMet_layVars (w0 := handWorld os) (readsPlain.map (·.1)) [] (by rw [e1]; rfl) (by rw [e1]; kernel_rfl) (by rw [e1]; kernel_rfl) (by rw [e2]; exact LaidIn.none)
  exact h.of_heap (by simp [World.memory, World.forCall, Input.heap])
theorem readsWorld_met (os : Os) (args : Array Value) : laidMetH Tryz.prog readsLaid ((readsWorld os).forCall (fun _ _ => 0) ⟨#[], args, []⟩).memory :=
  laidMetH_of_parts (readsWorld_plain os args) (by kernel_rfl)
theorem readsWorld_shaped (os : Os) : (readsWorld os).Shaped Tryz.prog := World.shaped_of_ZipB (by kernel_rfl) (by kernel_rfl)

theorem laid_mem {P : Program} {w : World} : ∀ {l : List (String × DataW Unit)} {ps : List MemPlace}, DataW.LaidVars P w l ps → ∀ n d, (n, d) ∈ l →
    ∃ g t cs fuel p, P.globalNamed n = some g ∧ (P.globals[g]?).map (·.type) = some t ∧ w.var? P n = some cs ∧ DataW.trod (fun _ => ()) P w 0 (fun _ => true) false fuel t cs.toList = some (d, p)
  | [], _, _, _, _, hm => by cases hm
  | x :: r, ps, h, n, d, hm => by
    obtain ⟨g, t, cs, fuel, p, q, h1, h2, h3, h4, h5, _⟩ := h
    rcases List.mem_cons.1 hm with rfl | hm
    · exact ⟨g, t, cs, fuel, p, h1, h2, h3, h4⟩
    · exact laid_mem h5 n d hm
theorem laid_size {P : Program} {w : World} {n : String} {g : Nat} {cs : Array Value} (hg : P.globalNamed n = some g) (h : w.var? P n = some cs) : g < w.heap.size := by
  simp only [World.var?, hg, Option.bind_some] at h
  split at h
  · rename_i h1; exact (Array.getElem?_eq_some_iff.1 h1).1
  · cases h
theorem laid_iface {W : World} {l : List (String × DataW Unit)} {ps : List MemPlace} (h : DataW.LaidVars Tryz.prog W l ps) (n name : String) (d : DataW Unit) (g : Nat) (hm : (n, .iface name d) ∈ l)
    (hgn : Tryz.prog.globalNamed n = some g) (hgt : (Tryz.prog.globals[g]?).map (·.type) = some 27) : ∃ te pe, W.cell? ⟨g, 0, none⟩ = some (.iface te pe) := by
  obtain ⟨g', t, cs, fuel, p, h1, h2, h3, h4⟩ := laid_mem h n _ hm
  obtain rfl := Option.some.inj (hgn.symm.trans h1)
  obtain rfl := Option.some.inj (hgt.symm.trans h2)
  obtain ⟨_, u, v, hcs, _, _⟩ := iface_of_trod Tryz.underlying27 h4
  refine ⟨u, v, ?_⟩
  have := World.var?_cell hgn h3 0
  rw [Array.eq_one_of_toList hcs] at this
  simpa using this
theorem cells_string : Tryz.prog.cellsOf 9 = 1 := by kernel_rfl
theorem laid_strs {W : World} {l : List (String × DataW Unit)} {ps : List MemPlace} (h : DataW.LaidVars Tryz.prog W l ps) (n : String) (zs : List (List UInt8)) (g : Nat) (hz : 0 < zs.length) (hm : (n, .slice (zs.map fun z => .lit (.string z)) []) ∈ l)
    (hgn : Tryz.prog.globalNamed n = some g) (hgt : (Tryz.prog.globals[g]?).map (·.type) = some 36) :
    ∃ b o c, W.cell? ⟨g, 0, none⟩ = some (.slice (some ⟨b, o, none⟩) zs.length c) ∧ b < W.heap.size ∧ ∀ j (hj : j < (zs.map toBA).length), W.cell? ⟨b, o + j, none⟩ = some (.string (zs.map toBA)[j]) := by
  obtain ⟨g', t, cs, fuel, p, h1, h2, h3, h4⟩ := laid_mem h n _ hm
  obtain rfl := Option.some.inj (hgn.symm.trans h1)
  obtain rfl := Option.some.inj (hgt.symm.trans h2)
  obtain ⟨a, cap, hcs, _, hel⟩ := open_row Tryz.underlying36 cells_string h4
  have hcell : ∀ j (hj : j < (zs.map toBA).length), W.cell? (a.add j) = some (.string (zs.map toBA)[j]) := by
    intro j hj
    have hj' : j < zs.length := by simpa using hj
    obtain ⟨v, m, q, hc, ht⟩ := hel j (.lit (.string zs[j])) (by rw [List.getElem?_map, List.getElem?_eq_getElem hj']; rfl)
    obtain ⟨s, hs, hx, _⟩ := DataW.trod_string Tryz.underlying9 ht
    rw [hc]
    have e1 : v = .string s := by simpa using hs
    have e2 : zs[j] = s.data.toList := by simpa using (Prod.mk.inj hx).1
    rw [e1, List.getElem_map, e2, toBA_of]
  obtain ⟨b, o, spot⟩ := a
  have hc0 := hcell 0 (by simpa using hz)
  have hspot : spot = none := by simpa [Addr.add] using World.cell?_spot hc0
  subst hspot
  have hadd : ∀ j, (⟨b, o, none⟩ : Addr).add j = ⟨b, o + j, none⟩ := by intro j; unfold Addr.add; split <;> simp_all
  refine ⟨b, o, cap, ?_, World.block_lt_of_cell? W _ hc0, fun j hj => by rw [← hadd]; exact hcell j hj⟩
  have := World.var?_cell hgn h3 0
  rw [Array.eq_one_of_toList hcs, List.length_map] at this
  simpa using this

theorem g_of : Tryz.prog.globalNamed "nurserypy/lex.words" = some 8 ∧ Tryz.prog.globalNamed "nurserypy/lex.ops" = some 9 ∧ Tryz.prog.globalNamed "strconv.ErrSyntax" = some 13 ∧
    Tryz.prog.globalNamed "strconv.ErrRange" = some 14 ∧ Tryz.prog.globalNamed "nurserypy/api.ErrText" = some 2 ∧ Tryz.prog.globalNamed "nurserypy/api.ErrBound" = some 1 ∧
    Tryz.prog.globalNamed "unicode/utf8.acceptRanges" = some 18 := ⟨by kernel_rfl, by kernel_rfl, by kernel_rfl, by kernel_rfl, by kernel_rfl, by kernel_rfl, by kernel_rfl⟩
theorem words_laid {H : Type} : (Rows.laid_nurserypy_lex_words : DataW H) = .slice (wordsL.map fun z => .lit (.string z)) [] := rfl
theorem ops_laid {H : Type} : (Rows.laid_nurserypy_lex_ops : DataW H) = .slice (opsL.map fun z => .lit (.string z)) [] := rfl

/-- WHAT THE CONDITION GIVES THE WALKS, of any list that holds these seven. -/
theorem glob_of_vars {W : World} {l : List (String × DataW Unit)} {ps : List MemPlace} (h : DataW.LaidVars Tryz.prog W l ps)
    (h1 : ("nurserypy/lex.words", Rows.laid_nurserypy_lex_words) ∈ l) (h2 : ("nurserypy/lex.ops", Rows.laid_nurserypy_lex_ops) ∈ l) (h3 : ("strconv.ErrSyntax", Rows.laid_strconv_ErrSyntax) ∈ l) (h4 : ("strconv.ErrRange", Rows.laid_strconv_ErrRange) ∈ l)
    (h5 : ("nurserypy/api.ErrText", Rows.laid_nurserypy_api_ErrText) ∈ l) (h6 : ("nurserypy/api.ErrBound", Rows.laid_nurserypy_api_ErrBound) ∈ l) (h7 : ("unicode/utf8.acceptRanges", Rows.laid_unicode_utf8_acceptRanges) ∈ l) :
    Glob W.heap.size W ∧ (∃ te pe, W.cell? ⟨2, 0, none⟩ = some (.iface te pe)) ∧ (∃ te pe, W.cell? ⟨1, 0, none⟩ = some (.iface te pe)) := by
  obtain ⟨g1, g2, g3, g4, g5, g6, g7⟩ := g_of
  obtain ⟨g', t, cs, fuel, p, k1, k2, k3, k4⟩ := laid_mem h _ _ h7
  have hsz : 18 < W.heap.size := laid_size g7 k3
  rw [words_laid] at h1
  rw [ops_laid] at h2
  refine ⟨⟨by omega, laid_strs h _ wordsL _ (by decide) h1 g1 (by kernel_rfl), laid_strs h _ opsL _ (by decide) h2 g2 (by kernel_rfl), laid_iface h _ _ _ _ h3 g3 (by kernel_rfl), laid_iface h _ _ _ _ h4 g4 (by kernel_rfl)⟩,
    laid_iface h _ _ _ _ h5 g5 (by kernel_rfl), laid_iface h _ _ _ _ h6 g6 (by kernel_rfl)⟩
theorem laid_mem2 {P : Program} {w : World} : ∀ {l : List (String × DataW Unit)} {ps : List MemPlace}, DataW.LaidVars P w l ps → ∀ n d, (n, d) ∈ l →
    ∃ g t cs fuel p, P.globalNamed n = some g ∧ (P.globals[g]?).map (·.type) = some t ∧ w.var? P n = some cs ∧ DataW.trod (fun _ => ()) P w 0 (fun _ => true) false fuel t cs.toList = some (d, p) ∧ ∀ x ∈ MemPlace.row ⟨g, 0, none⟩ cs.size ++ p, x ∈ ps
  | [], _, _, _, _, hm => by cases hm
  | x :: r, ps, h, n, d, hm => by
    obtain ⟨g, t, cs, fuel, p, q, h1, h2, h3, h4, h5, h6⟩ := h
    rcases List.mem_cons.1 hm with rfl | hm
    · exact ⟨g, t, cs, fuel, p, h1, h2, h3, h4, fun x hx => by rw [h6]; exact List.mem_append_left _ hx⟩
    · obtain ⟨g', t', cs', fuel', p', k1, k2, k3, k4, k5⟩ := laid_mem2 h5 n d hm
      exact ⟨g', t', cs', fuel', p', k1, k2, k3, k4, fun x hx => by rw [h6]; exact List.mem_append_right _ (k5 x hx)⟩

theorem star_ : "*" ++ "errors.errorString" = "*errors.errorString" := by decide
theorem rowErr (u : TypeId) (h : Tryz.prog.typeName? 3 u = some "*errors.errorString") : u = 281 :=
  typeName_ptr_named (nm := "errors.errorString") (by rw [star_]; kernel_rfl) (by kernel_rfl) (by decide) u (by rw [star_]; exact h)
theorem cellsErr : Tryz.prog.cellsOf 283 = 1 := by kernel_rfl
theorem cellsStr : Tryz.prog.cellsOf 9 = 1 := by kernel_rfl


set_option maxRecDepth 100000 in
/-- What one listed error gives. -/
theorem laid_err {W : World} {l : List (String × DataW Unit)} (h : laidMet Tryz.prog l W) (n : String) (text : List UInt8) (g : Nat) (hm : (n, (.iface "*errors.errorString" (.ptr (.agg [.lit (.string text)])) : DataW Unit)) ∈ l)
    (hgn : Tryz.prog.globalNamed n = some g) (hgt : (Tryz.prog.globals[g]?).map (·.type) = some 27) :
    ∃ a : Addr, W.cell? ⟨g, 0, none⟩ = some (.iface 281 (.pointer (some a))) ∧ W.cell? a = some (.string (⟨text.toArray⟩ : ByteArray)) ∧ ∃ c t, W.heap[a.block]? = some (.cells c t (0, 0)) := by
  obtain ⟨ps, hv, _, hrows⟩ := h
  obtain ⟨g', t, cs, fuel, p, h1, h2, h3, h4, h5⟩ := laid_mem2 hv n _ hm
  obtain rfl := Option.some.inj (hgn.symm.trans h1)
  obtain rfl := Option.some.inj (hgt.symm.trans h2)
  obtain ⟨l⟩ := cs
  have ok : ∀ u v, l = [.iface u v] → Value.okWide Tryz.prog W .any 0 u v := fun u v e => by
    subst e
    exact (hrows g 0 (h5 _ (by simp [MemPlace.row]))).2 u v (by simpa using World.var?_cell h1 h3 0)
  obtain ⟨a, s, rfl, hc, hs, _, rfl⟩ := errorString_of_trod Tryz.underlying27 rowErr Tryz.underlying281 Tryz.underlying283 rfl rfl Tryz.underlying9 cellsErr cellsStr h4 ok
  obtain ⟨c, t, hb⟩ := (hrows a.block a.off (h5 _ (by simp [MemPlace.row]))).1
  have hs2 : s = (⟨text.toArray⟩ : ByteArray) := by
    rw [← hs]
  refine ⟨a, by simpa using World.var?_cell h1 h3 0, by rw [← hs2]; exact hc, c, t, hb⟩

def msgT : Nat → List UInt8
  | 0 => [110, 117, 114, 115, 101, 114, 121, 112, 121, 58, 32, 116, 101, 120, 116]
  | 1 => [110, 117, 114, 115, 101, 114, 121, 112, 121, 58, 32, 98, 111, 117, 110, 100]
  | 2 => [110, 117, 114, 115, 101, 114, 121, 112, 121, 58, 32, 115, 104, 97, 112, 101]
  | 3 => [110, 117, 114, 115, 101, 114, 121, 112, 121, 58, 32, 110, 97, 109, 101]
  | 4 => [110, 117, 114, 115, 101, 114, 121, 112, 121, 58, 32, 112, 108, 97, 99, 101]
  | 5 => [110, 117, 114, 115, 101, 114, 121, 112, 121, 58, 32, 102, 117, 108, 108]
  | _ => [110, 117, 114, 115, 101, 114, 121, 112, 121, 58, 32, 110, 111, 110, 101]
def errD (i : Nat) : DataW Unit := .iface "*errors.errorString" (.ptr (.agg [.lit (.string (msgT i))]))
def errN : Nat → String
  | 0 => "nurserypy/api.ErrText"
  | 1 => "nurserypy/api.ErrBound"
  | 2 => "nurserypy/api.ErrShape"
  | 3 => "nurserypy/api.ErrName"
  | 4 => "nurserypy/api.ErrPlace"
  | 5 => "nurserypy/api.ErrFull"
  | _ => "nurserypy/api.ErrNone"
theorem plain_err (i : Nat) (h : i < 7) : (errN i, errD i) ∈ readsPlain := by
  match i, h with
  | 0, _ => simp [readsPlain, errN, errD, msgT, Rows.laid_nurserypy_api_ErrText]
  | 1, _ => simp [readsPlain, errN, errD, msgT, Rows.laid_nurserypy_api_ErrBound]
  | 2, _ => simp [readsPlain, errN, errD, msgT, Rows.laid_nurserypy_api_ErrShape]
  | 3, _ => simp [readsPlain, errN, errD, msgT, Rows.laid_nurserypy_api_ErrName]
  | 4, _ => simp [readsPlain, errN, errD, msgT, Rows.laid_nurserypy_api_ErrPlace]
  | 5, _ => simp [readsPlain, errN, errD, msgT, Rows.laid_nurserypy_api_ErrFull]
  | 6, _ => simp [readsPlain, errN, errD, msgT, Rows.laid_nurserypy_api_ErrNone]
theorem errN_g (i : Nat) (h : i < 7) : Tryz.prog.globalNamed (errN i) = some (errG i) ∧ (Tryz.prog.globals[errG i]?).map (·.type) = some 27 := by
  match i, h with
  | 0, _ => exact ⟨by kernel_rfl, by kernel_rfl⟩
  | 1, _ => exact ⟨by kernel_rfl, by kernel_rfl⟩
  | 2, _ => exact ⟨by kernel_rfl, by kernel_rfl⟩
  | 3, _ => exact ⟨by kernel_rfl, by kernel_rfl⟩
  | 4, _ => exact ⟨by kernel_rfl, by kernel_rfl⟩
  | 5, _ => exact ⟨by kernel_rfl, by kernel_rfl⟩
  | 6, _ => exact ⟨by kernel_rfl, by kernel_rfl⟩
theorem msgT_inj (i j : Nat) (hi : i < 7) (hj : j < 7) (h : msgT i = msgT j) : i = j := by
  have hh : ∀ i j : Fin 7, msgT i.val = msgT j.val → i = j := by decide +kernel
  have := hh ⟨i, hi⟩ ⟨j, hj⟩ h
  exact congrArg Fin.val this

theorem cutRt : (Tryz.prog.cutTypes.find? (·.1 == "internal/reflectlite.rtype")).map (·.2) = some 233 := by kernel_rfl
theorem oneRow_ : ((List.range Tryz.prog.types.size).filter fun t => Tryz.prog.rowNamed t [101, 114, 114, 111, 114]) = [27] := by kernel_rfl
theorem gET : Tryz.prog.globalNamed "errors.errorType" = some 7 := by kernel_rfl

set_option maxRecDepth 100000 in
/-- The errors and the handle, of a world that meets both parts. -/
theorem errs_of_parts {W : World} {l : List (String × DataW Unit)} (hp : laidMet Tryz.prog l W) (hl : ∀ i, i < 7 → (errN i, errD i) ∈ l) (hh0 : handlesMet Tryz.prog [("errors.errorType", Rows.laid_errors_errorType)] W) : ∃ p, Errs p W := by
  obtain ⟨name, u, ty, e1, e2, e3, e4, e5⟩ := hh0 _ (List.mem_singleton.2 rfl)
  have en : name = [101, 114, 114, 111, 114] := (Option.some.inj e1).symm
  subst en
  obtain rfl := Option.some.inj (cutRt.symm.trans e2)
  have hm : ty ∈ (List.range Tryz.prog.types.size).filter fun t => Tryz.prog.rowNamed t [101, 114, 114, 111, 114] := List.mem_filter.2 ⟨List.mem_range.2 e3, e4⟩
  rw [oneRow_] at hm
  obtain rfl := List.mem_singleton.1 hm
  have hh : typeHandle Tryz.prog 27 = .pointer (some ⟨19, 27, none⟩) := by kernel_rfl
  rw [hh] at e5
  have each : ∀ i, i < 7 → ∃ a : Addr, W.cell? ⟨errG i, 0, none⟩ = some (.iface 281 (.pointer (some a))) ∧ W.cell? a = some (.string (⟨(msgT i).toArray⟩ : ByteArray)) ∧ ∃ c t, W.heap[a.block]? = some (.cells c t (0, 0)) := by
    intro i hi
    obtain ⟨q1, q2⟩ := errN_g i hi
    exact laid_err hp (errN i) (msgT i) (errG i) (hl i hi) q1 q2
  have hch : ∃ p : Nat → Addr, ∀ i, i < 7 → W.cell? ⟨errG i, 0, none⟩ = some (.iface 281 (.pointer (some (p i)))) ∧ W.cell? (p i) = some (.string (⟨(msgT i).toArray⟩ : ByteArray)) ∧ ∃ c t, W.heap[(p i).block]? = some (.cells c t (0, 0)) := by
    classical
    refine ⟨fun i => if hi : i < 7 then Classical.choose (each i hi) else ⟨0, 0, none⟩, fun i hi => ?_⟩
    simp only [dif_pos hi]
    exact Classical.choose_spec (each i hi)
  obtain ⟨p, hpp⟩ := hch
  refine ⟨p, by simpa using World.var?_cell gET e5 0, fun i hi => (hpp i hi).1, fun i j hi hj e => ?_, fun i hi => (hpp i hi).2.2⟩
  have h1 := (hpp i hi).2.1
  have h2 := (hpp j hj).2.1
  rw [e, h2] at h1
  injection h1 with h1
  injection h1 with h1
  injection h1 with h1
  exact msgT_inj i j hi hj (by simpa using h1.symm)

set_option maxRecDepth 100000 in
/-- WHAT THE ROWS' CONDITION GIVES THE WALKS. -/
theorem reads_of_laid {W : World} (h : laidMetH Tryz.prog readsLaid W) : GlobE W.heap.size W ∧ ∃ p, Errs p W := by
  have h' : laidMet Tryz.prog readsPlain W ∧ handlesMet Tryz.prog [("errors.errorType", Rows.laid_errors_errorType)] W := h
  obtain ⟨hp, hh⟩ := h'
  refine ⟨?_, errs_of_parts hp plain_err hh⟩
  obtain ⟨ps, hv, _⟩ := hp
  obtain ⟨a, b, c⟩ := glob_of_vars hv (by simp [readsPlain]) (by simp [readsPlain]) (by simp [readsPlain]) (by simp [readsPlain]) (by simp [readsPlain]) (by simp [readsPlain]) (by simp [readsPlain])
  exact ⟨a, b, c⟩

end Go.Proofs.YtdoaeapahgmfoaaGreatDoor
