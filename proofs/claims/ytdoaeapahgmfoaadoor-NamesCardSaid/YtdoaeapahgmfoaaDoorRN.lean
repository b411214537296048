/- Names: the row proved; the tied card. No condition but the row's own list. -/
import Derived.Test.YtdoaeapahgmfoaaDoorRows
import Derived.Test.YtdoaeapahgmfoaaDoorE3
import Derived.Test.YtdoaeapahgmfoaaDoorCards
import Derived.Test.YtdoaeapahgmfoaaDoorTie
import Derived.ProofKit
import Derived.LaidMore
import Derived.Lay
import Derived.LaidLaws
import Derived.LaidHandle
import Derived.OpenShut
import Derived.SevenTiedAt
import Derived.Stop.Joined
namespace Go.Proofs.YtdoaeapahgmfoaaDoor
open Go.ChangeShapes Go.WideShapes Go.ChangeAt Go.RowKit

theorem ownN : ownKnob Tryd.prog.godebug = none := by kernel_rfl
def namesPlain : List (String × DataW Unit) := [("nurserypy/api.ErrText", Rows.laid_nurserypy_api_ErrText), ("nurserypy/api.ErrBound", Rows.laid_nurserypy_api_ErrBound), ("nurserypy/api.ErrShape", Rows.laid_nurserypy_api_ErrShape), ("nurserypy/api.ErrName", Rows.laid_nurserypy_api_ErrName), ("nurserypy/api.ErrPlace", Rows.laid_nurserypy_api_ErrPlace), ("nurserypy/api.ErrFull", Rows.laid_nurserypy_api_ErrFull), ("nurserypy/api.ErrNone", Rows.laid_nurserypy_api_ErrNone)]
def namesLaid : List (String × DataW Unit) := ("errors.errorType", Rows.laid_errors_errorType) :: namesPlain

/-- The witness' world. -/
noncomputable def namesWorld0 (os : Os) : World :=
  let w0 := World.holding Tryd.prog os ⟨#[], #[], []⟩
  { w0 with heap := w0.heap.modify 7 fun
      | .cells _ t frozen => .cells #[.iface 95 (.agg #[.pointer (some ⟨23, 25, none⟩)])] t frozen
      | o => o }
noncomputable def namesWorld (os : Os) : World := (namesWorld0 os).layVars Tryd.prog namesPlain
theorem namesWorld_os (os : Os) : (namesWorld os).os = os := World.layVars_os _ _ _
theorem namesWorld_plain (os : Os) (args : Array Value) : laidMet Tryd.prog namesPlain ((namesWorld os).forCall (fun _ _ => 0) ⟨#[], args, []⟩).memory := by
  have e1 : (namesPlain.filter fun x => (namesPlain.map (·.1)).contains x.1) = namesPlain := List.filter_eq_self.2 fun x hx => List.contains_iff_mem.2 (List.mem_map.2 ⟨x, hx, rfl⟩)
  have e2 : (namesPlain.filter fun x => !(namesPlain.map (·.1)).contains x.1) = [] := List.filter_eq_nil_iff.2 fun x hx => by rw [List.contains_iff_mem.2 (List.mem_map.2 ⟨x, hx, rfl⟩)]; simp
  have h : laidMet Tryd.prog namesPlain (namesWorld os) := laidMet_layVars (w0 := namesWorld0 os) (namesPlain.map (·.1)) [] (by rw [e1]; rfl) (by rw [e1]; kernel_rfl) (by rw [e1]; kernel_rfl) (by rw [e2]; exact LaidIn.none)
  exact h.of_heap (by simp [World.memory, World.forCall, Input.heap])
theorem namesWorld_met (os : Os) (args : Array Value) : laidMetH Tryd.prog namesLaid ((namesWorld os).forCall (fun _ _ => 0) ⟨#[], args, []⟩).memory :=
  laidMetH_of_parts (namesWorld_plain os args) (by kernel_rfl)
theorem namesWorld_shaped (os : Os) : (namesWorld os).Shaped Tryd.prog := World.shaped_of_ZipB (by kernel_rfl) (by kernel_rfl)

theorem laid_mem2 {P : Program} {w : World} : ∀ {l : List (String × DataW Unit)} {ps : List MemPlace}, DataW.LaidVars P w l ps → ∀ n d, (n, d) ∈ l →
    ∃ g t cs fuel p, P.globalNamed n = some g ∧ (P.globals[g]?).map (·.type) = some t ∧ w.var? P n = some cs ∧ DataW.trod (fun _ => ()) P w 0 (fun _ => true) false fuel t cs.toList = some (d, p) ∧ ∀ x ∈ MemPlace.row ⟨g, 0, none⟩ cs.size ++ p, x ∈ ps
  | [], _, _, _, _, hm => by cases hm
  | x :: r, ps, h, n, d, hm => by
    obtain ⟨g, t, cs, fuel, p, q, h1, h2, h3, h4, h5, h6⟩ := h
    rcases List.mem_cons.1 hm with rfl | hm
    · exact ⟨g, t, cs, fuel, p, h1, h2, h3, h4, fun x hx => by rw [h6]; exact List.mem_append_left _ hx⟩
    · obtain ⟨g', t', cs', fuel', p', k1, k2, k3, k4, k5⟩ := laid_mem2 h5 n d hm
      exact ⟨g', t', cs', fuel', p', k1, k2, k3, k4, fun x hx => by rw [h6]; exact List.mem_append_right _ (k5 x hx)⟩

theorem star_ : "*" ++ "errors.errorString" = "*errors.errorString" := by decide
theorem rowErr (u : TypeId) (h : Tryd.prog.typeName? 3 u = some "*errors.errorString") : u = 52 :=
  typeName_ptr_named (nm := "errors.errorString") (by rw [star_]; kernel_rfl) (by kernel_rfl) (by decide) u (by rw [star_]; exact h)
theorem cellsErr : Tryd.prog.cellsOf 54 = 1 := by kernel_rfl
theorem cellsStr : Tryd.prog.cellsOf 9 = 1 := by kernel_rfl

set_option maxRecDepth 100000 in
/-- What one listed error gives. -/
theorem laid_err {W : World} (h : laidMet Tryd.prog namesPlain W) (n : String) (text : List UInt8) (g : Nat) (hm : (n, (.iface "*errors.errorString" (.ptr (.agg [.lit (.string text)])) : DataW Unit)) ∈ namesPlain)
    (hgn : Tryd.prog.globalNamed n = some g) (hgt : (Tryd.prog.globals[g]?).map (·.type) = some 25) :
    ∃ a : Addr, W.cell? ⟨g, 0, none⟩ = some (.iface 52 (.pointer (some a))) ∧ W.cell? a = some (.string (⟨text.toArray⟩ : ByteArray)) ∧ ∃ c t, W.heap[a.block]? = some (.cells c t (0, 0)) := by
  obtain ⟨ps, hv, _, hrows⟩ := h
  obtain ⟨g', t, cs, fuel, p, h1, h2, h3, h4, h5⟩ := laid_mem2 hv n _ hm
  obtain rfl := Option.some.inj (hgn.symm.trans h1)
  obtain rfl := Option.some.inj (hgt.symm.trans h2)
  obtain ⟨l⟩ := cs
  have ok : ∀ u v, l = [.iface u v] → Value.okWide Tryd.prog W .any 0 u v := fun u v e => by
    subst e
    exact (hrows g 0 (h5 _ (by simp [MemPlace.row]))).2 u v (by simpa using World.var?_cell h1 h3 0)
  obtain ⟨a, s, rfl, hc, hs, _, rfl⟩ := errorString_of_trod Tryd.underlying25 rowErr Tryd.underlying52 Tryd.underlying54 rfl rfl Tryd.underlying9 cellsErr cellsStr h4 ok
  obtain ⟨c, t, hb⟩ := (hrows a.block a.off (h5 _ (by simp [MemPlace.row]))).1
  have hs2 : s = (⟨text.toArray⟩ : ByteArray) := by
    rw [← hs]
  refine ⟨a, by simpa using World.var?_cell h1 h3 0, by rw [← hs2]; exact hc, c, t, hb⟩

def msgB (i : Nat) : List UInt8 := (preL ++ nmL i).data.toList
def errD (i : Nat) : DataW Unit := .iface "*errors.errorString" (.ptr (.agg [.lit (.string (msgB i))]))
def errN : Nat → String
  | 0 => "nurserypy/api.ErrText"
  | 1 => "nurserypy/api.ErrBound"
  | 2 => "nurserypy/api.ErrShape"
  | 3 => "nurserypy/api.ErrName"
  | 4 => "nurserypy/api.ErrPlace"
  | 5 => "nurserypy/api.ErrFull"
  | _ => "nurserypy/api.ErrNone"
theorem namesPlain_eq : namesPlain = (List.range 7).map fun i => (errN i, errD i) := by rfl
theorem errN_g (i : Nat) (h : i < 7) : Tryd.prog.globalNamed (errN i) = some (errG i) ∧ (Tryd.prog.globals[errG i]?).map (·.type) = some 25 := by
  match i, h with
  | 0, _ => exact ⟨by kernel_rfl, by kernel_rfl⟩
  | 1, _ => exact ⟨by kernel_rfl, by kernel_rfl⟩
  | 2, _ => exact ⟨by kernel_rfl, by kernel_rfl⟩
  | 3, _ => exact ⟨by kernel_rfl, by kernel_rfl⟩
  | 4, _ => exact ⟨by kernel_rfl, by kernel_rfl⟩
  | 5, _ => exact ⟨by kernel_rfl, by kernel_rfl⟩
  | 6, _ => exact ⟨by kernel_rfl, by kernel_rfl⟩
theorem msg_inj (i j : Nat) (hi : i < 7) (hj : j < 7) (h : preL ++ nmL i = preL ++ nmL j) : i = j := by
  have hh : ∀ i j : Fin 7, (preL ++ nmL i.val).data.toList = (preL ++ nmL j.val).data.toList → i = j := by decide +kernel
  have := hh ⟨i, hi⟩ ⟨j, hj⟩ (by rw [h])
  exact congrArg Fin.val this

theorem cutRt : (Tryd.prog.cutTypes.find? (·.1 == "internal/reflectlite.rtype")).map (·.2) = some 95 := by kernel_rfl
theorem oneRow_ : ((List.range Tryd.prog.types.size).filter fun t => Tryd.prog.rowNamed t [101, 114, 114, 111, 114]) = [25] := by kernel_rfl
theorem gET : Tryd.prog.globalNamed "errors.errorType" = some 7 := by kernel_rfl

set_option maxRecDepth 100000 in
/-- WHAT THE CONDITION GIVES THE WALK. -/
theorem errs_of_laid {W : World} (h : laidMetH Tryd.prog namesLaid W) : ∃ p, ErrsM p W := by
  have h' : laidMet Tryd.prog namesPlain W ∧ handlesMet Tryd.prog [("errors.errorType", Rows.laid_errors_errorType)] W := h
  obtain ⟨name, u, ty, e1, e2, e3, e4, e5⟩ := h'.2 _ (List.mem_singleton.2 rfl)
  have en : name = [101, 114, 114, 111, 114] := (Option.some.inj e1).symm
  subst en
  obtain rfl := Option.some.inj (cutRt.symm.trans e2)
  have hm : ty ∈ (List.range Tryd.prog.types.size).filter fun t => Tryd.prog.rowNamed t [101, 114, 114, 111, 114] := List.mem_filter.2 ⟨List.mem_range.2 e3, e4⟩
  rw [oneRow_] at hm
  obtain rfl := List.mem_singleton.1 hm
  have hh : typeHandle Tryd.prog 25 = .pointer (some ⟨23, 25, none⟩) := by kernel_rfl
  rw [hh] at e5
  have each : ∀ i, i < 7 → ∃ a : Addr, W.cell? ⟨errG i, 0, none⟩ = some (.iface 52 (.pointer (some a))) ∧ W.cell? a = some (.string (preL ++ nmL i)) ∧ ∃ c t, W.heap[a.block]? = some (.cells c t (0, 0)) := by
    intro i hi
    obtain ⟨q1, q2⟩ := errN_g i hi
    have := laid_err h'.1 (errN i) (msgB i) (errG i) (by rw [namesPlain_eq]; exact List.mem_map.2 ⟨i, List.mem_range.2 hi, rfl⟩) q1 q2
    exact this
  have hch : ∃ p : Nat → Addr, ∀ i, i < 7 → W.cell? ⟨errG i, 0, none⟩ = some (.iface 52 (.pointer (some (p i)))) ∧ W.cell? (p i) = some (.string (preL ++ nmL i)) ∧ ∃ c t, W.heap[(p i).block]? = some (.cells c t (0, 0)) := by
    classical
    refine ⟨fun i => if hi : i < 7 then Classical.choose (each i hi) else ⟨0, 0, none⟩, fun i hi => ?_⟩
    simp only [dif_pos hi]
    exact Classical.choose_spec (each i hi)
  obtain ⟨p, hp⟩ := hch
  refine ⟨p, ⟨by simpa using World.var?_cell gET e5 0, fun i hi => (hp i hi).1, fun i j hi hj e => ?_, fun i hi => (hp i hi).2.2⟩, fun i hi => (hp i hi).2.1⟩
  have h1 := (hp i hi).2.1
  have h2 := (hp j hj).2.1
  rw [e, h2] at h1
  injection h1 with h1
  injection h1 with h1
  exact msg_inj i j hi hj h1.symm

set_option maxRecDepth 100000 in
theorem names_lifted (os : Os) (started : os.Started) (H : Type) (enc : TypeId × Value → H) :
    ReturnsInHanded {} Tryd.checked os 3 .any (fun w args => (Rows.namesSpec.pre enc Tryd.prog Tryd.f3 [] false w args ∧ laidMetH Tryd.prog namesLaid w) ∧ sizedMet enc Tryd.prog Tryd.f3 (OpenSpec.ofChange Rows.namesSpec) false w args)
      (Rows.namesSpec.post enc Tryd.prog Tryd.f3 false true false false) := by
  refine returnsInHanded_of_change_and (C := Tryd.checked) (X := fun w _ => laidMetH Tryd.prog namesLaid w) (fun _ _ _ hh h => h.of_heap hh) ownN started (by kernel_rfl) Tryd.func3
    (ChangeSpec.witness_shaped (enc := enc) (C := Tryd.checked) (os := os) (X := fun w _ => laidMetH Tryd.prog namesLaid w) false (namesWorld os) #[] 8 (namesWorld_os os)
      (namesWorld_shaped os) (by kernel_rfl) (by kernel_rfl) (by kernel_rfl) (namesWorld_met os _)) ?_
  intro W base args ds gs before hval0 hW _ _ hL _
  have hW' := hW
  obtain ⟨p, q, hA0, hV, rfl, hfz, hnd⟩ := hW
  have hA : DataW.TrodAll enc Tryd.prog W 0 (fun _ => true) true Tryd.f3.params.toList args.toList ds p := hA0
  rw [Tryd.params3] at hA
  obtain ⟨rfl, rfl, rfl⟩ := trodAll_none hA
  obtain ⟨rfl, rfl⟩ := trodVars_none hV
  obtain ⟨pp, hE⟩ := errs_of_laid hL
  clear hA0 hval0
  simp only [List.append_nil] at hW'
  refine (names_any hE).mono fun e W' ⟨he, hb⟩ => ?_
  subst he
  exact ⟨_, rfl, _, _, _, [], [], [], hW', trodAll_mk1 (shut_bool Tryd.underlying4 true), rfl, rfl, hb.frame _, fun h => by cases h⟩

theorem names_holds : Rows.NamesSaid :=
  OpenClaim.holds_of_wide 3 Tryd.f3 rfl rfl rfl rfl rfl rfl rfl ⟨rfl, rfl, rfl, rfl, rfl⟩ rfl rfl rfl rfl rfl (by kernel_rfl) Tryd.func3 (by kernel_rfl)
    (of_decide_eq_true (by kernel_rfl)) (by unfold Func.isWrapper; first | (rw [if_pos (by decide +kernel)]; kernel_rfl) | (rw [if_neg (by decide +kernel)]; exact ⟨rfl, rfl⟩))
    (fun os started H enc _ => names_lifted os started H enc)

/-- THE TIED CARD. -/
theorem names_card_holds : Rows.NamesCardSaid :=
  Claim7.holds_tied_plain_at .later [] [.handle, .sentinel, .sentinel, .sentinel, .sentinel, .sentinel, .sentinel, .sentinel] true (true, "b56e68458e1d0a4b5ec60ede163cb417d6717ec06d73733a11ffef15a1b1df17") true
    names_holds (fun _ h => by cases h) (by kernel_rfl) (fun _ h => by cases h) names_row_tie rfl ⟨rfl, rfl⟩ (by kernel_rfl) rfl
    (fun f fn hf hfn => by
      obtain rfl : f = 3 := Option.some.inj ((show Tryd.prog.funcNamed "nurserypy/nurserypylaw1.Names" = some 3 by kernel_rfl).symm.trans hf) |>.symm
      obtain rfl : fn = Tryd.f3 := (Option.some.inj (Tryd.func3.symm.trans hfn)).symm
      exact ⟨by kernel_rfl, fun j t ht => by
        rw [Tryd.params3] at ht
        simp at ht⟩)
    (by kernel_rfl)
#print axioms names_card_holds

end Go.Proofs.YtdoaeapahgmfoaaDoor
