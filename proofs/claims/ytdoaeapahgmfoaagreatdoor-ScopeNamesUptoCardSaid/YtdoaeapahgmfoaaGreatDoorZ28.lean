/- plain.Code: an error's number and place. What the list of ScopeNames' row gives: as RL, and the errors with the type's handle. The witness' world. How great the finder becomes: plain bounds. -/
import Derived.LaidHandle
import Derived.Lib.Hide
import Derived.Test.YtdoaeapahgmfoaaGreatDoorZ08
import Derived.Test.YtdoaeapahgmfoaaGreatDoorZ24
import Derived.Test.YtdoaeapahgmfoaaGreatDoorZ27
namespace Go.Proofs.YtdoaeapahgmfoaaGreatDoor
open Go.RowKit Go.Extern.Stop Go.Stop Go.Extern
def errG:Nat→Nat
 | 0=>2
 | 1=>1
 | 2=>0
 | 3=>3
 | 4=>4
 | 5=>5
 | _=>6
structure Errs (p:Nat→Addr) (w:World):Prop where
 handle:w.cell? ⟨7,0,none⟩=some (.iface 233 (.agg #[.pointer (some ⟨19,27,none⟩)]))
 cell:∀ i,i < 7→w.cell? ⟨errG i,0,none⟩=some (.iface 281 (.pointer (some (p i))))
 inj:∀ i j,i < 7→j < 7→p i=p j→i=j
 blk:∀ i,i < 7→∃ c t,w.heap[(p i).block]? =some (.cells c t (0,0))
theorem Errs.below {p:Nat→Addr} {w w':World} (h:Errs p w) (hb:Below w.heap.size w w'):Errs p w':=by
 refine ⟨(hb.cell (World.block_lt_of_cell? w _ h.handle)).trans h.handle,fun i hi=>(hb.cell (World.block_lt_of_cell? w _ (h.cell i hi))).trans (h.cell i hi),h.inj,fun i hi=> ?_⟩
 obtain ⟨c,t,hc⟩:=h.blk i hi
 refine ⟨c,t,(hb.block _ ?_).trans hc⟩
 rcases Nat.lt_or_ge (p i).block w.heap.size with h' | h'
 · exact h'
 · rw [Array.getElem?_eq_none h'] at hc;cases hc
theorem as_cells (p:Nat→Addr) (w:World) (k:Nat) (hk:k < 7):
 (w.alloc (.cells #[.iface 281 (.pointer (some (p 0))),.iface 281 (.pointer (some (p 1))),.iface 281 (.pointer (some (p 2))),.iface 281 (.pointer (some (p 3))),.iface 281 (.pointer (some (p 4))),.iface 281 (.pointer (some (p 5))),.iface 281 (.pointer (some (p 6)))] 27)).cell? ⟨w.heap.size,k,none⟩=some (.iface 281 (.pointer (some (p k)))):=by
 match k,hk with
 | 0,_=>simp
 | 1,_=>simp
 | 2,_=>simp
 | 3,_=>simp
 | 4,_=>simp
 | 5,_=>simp
 | 6,_=>simp
set_option maxRecDepth 100000 in
set_option maxHeartbeats 8000000 in
theorem code_fault {p:Nat→Addr} {w:World} (h:Errs p w) (N:Nat) (at_:Int) (n:Nat) (hn:n < 7) (hN0:w.cell? ⟨N,0,none⟩=some (.int .i64 at_)) (hN1:w.cell? ⟨N,1,none⟩=some (.iface 281 (.pointer (some (p n))))):
 Calls Tryz.prog 43 #[.iface 107 (.pointer (some ⟨N,0,none⟩))] w fun e w'=>e= .returned (.tuple #[.int .i64 ((n:Int)+1),.int .i64 at_])∧Below w.heap.size w w':=by
 have hNl:N < w.heap.size:=World.block_lt_of_cell? w _ hN0
 have hg1:(w.alloc (.cells #[.pointer none] 107)).cell? ⟨7,0,none⟩=some (.iface 233 (.agg #[.pointer (some ⟨19,27,none⟩)])):=by
  rw [World.cell?_alloc_lt _ _ ⟨7,0,none⟩ (World.block_lt_of_cell? w _ h.handle)];exact h.handle
 have htA:(w.alloc (.cells #[.pointer none] 107)).cell? ⟨w.heap.size,0,none⟩=some (.pointer none):=by simp
 have hfA:(w.alloc (.cells #[.pointer none] 107)).frozen? ⟨w.heap.size,0,none⟩=false:=by simp
 go_enter Tryz.func43,Tryz.ntmps43
 go_wp2_with fail
 refine (as_hit ⟨N,0,none⟩ ⟨w.heap.size,0,none⟩ (.pointer none) _ hg1 htA hfA).mono ?_
 rintro e w2 ⟨rfl,hw2⟩
 have hb2:Below w.heap.size w w2:=by
  rw [hw2]
  exact (((((Below.refl _ _).alloc (Nat.le_refl _) _).alloc (by simp) _).alloc (by simp;omega) _).alloc (by simp;omega) _).alloc (by simp;omega) _ |>.setCell (p:=⟨w.heap.size,0,none⟩) (Nat.le_refl _) _
 have ct:w2.cell? ⟨w.heap.size,0,none⟩=some (.pointer (some ⟨N,0,none⟩)):=by
  rw [hw2]
  refine World.cell?_setCell_same _ _ _ (u:= .pointer none) ?_
  rw [World.cell?_alloc_lt _ _ ⟨w.heap.size,0,none⟩ (by simp;omega),World.cell?_alloc_lt _ _ ⟨w.heap.size,0,none⟩ (by simp;omega),World.cell?_alloc_lt _ _ ⟨w.heap.size,0,none⟩ (by simp;omega),World.cell?_alloc_lt _ _ ⟨w.heap.size,0,none⟩ (by simp)]
  simp
 have h2:=h.below hb2
 have cN:=(hb2.cell (p:=⟨N,0,none⟩) hNl).trans hN0
 clear hw2 hg1 htA hfA
 have g0:w2.cell? ⟨2,0,none⟩=some (.iface 281 (.pointer (some (p 0)))):=h2.cell 0 (by omega)
 have g1:w2.cell? ⟨1,0,none⟩=some (.iface 281 (.pointer (some (p 1)))):=h2.cell 1 (by omega)
 have g2:w2.cell? ⟨0,0,none⟩=some (.iface 281 (.pointer (some (p 2)))):=h2.cell 2 (by omega)
 have g3:w2.cell? ⟨3,0,none⟩=some (.iface 281 (.pointer (some (p 3)))):=h2.cell 3 (by omega)
 have g4:w2.cell? ⟨4,0,none⟩=some (.iface 281 (.pointer (some (p 4)))):=h2.cell 4 (by omega)
 have g5:w2.cell? ⟨5,0,none⟩=some (.iface 281 (.pointer (some (p 5)))):=h2.cell 5 (by omega)
 have g6:w2.cell? ⟨6,0,none⟩=some (.iface 281 (.pointer (some (p 6)))):=h2.cell 6 (by omega)
 go_wp2_with fail
 clear g0 g1 g2 g3 g4 g5 g6
 have hcs:=as_cells p w2
 have hb3:Below w2.heap.size w2 (w2.alloc (.cells #[.iface 281 (.pointer (some (p 0))),.iface 281 (.pointer (some (p 1))),.iface 281 (.pointer (some (p 2))),.iface 281 (.pointer (some (p 3))),.iface 281 (.pointer (some (p 4))),.iface 281 (.pointer (some (p 5))),.iface 281 (.pointer (some (p 6)))] 27)):=(Below.refl _ _).alloc (Nat.le_refl _) _
 generalize w2.alloc (.cells #[.iface 281 (.pointer (some (p 0))),.iface 281 (.pointer (some (p 1))),.iface 281 (.pointer (some (p 2))),.iface 281 (.pointer (some (p 3))),.iface 281 (.pointer (some (p 4))),.iface 281 (.pointer (some (p 5))),.iface 281 (.pointer (some (p 6)))] 27)=W3 at hcs hb3 ⊢
 have h3:=h2.below hb3
 have hbl:Below w.heap.size w W3:=hb2.trans (hb3.mono hb2.size)
 have Hcs:=Lib.hid hcs
 clear hcs
 have hN1':W3.cell? ⟨N,0+1,none⟩=some (.iface 281 (.pointer (some (p n)))):=(hbl.cell (p:=⟨N,1,none⟩) hNl).trans hN1
 obtain ⟨ca,ta,ha3⟩:=h3.blk n hn
 go_loop [3,25] (fun pl v=>∃ k:Nat,k≤n∧pl= .int .i64 at_∧v= .int .i64 k) (fun _ v=>8 - (intOf v).toNat)
 case atStart=>exact ⟨0,by omega,rfl,rfl⟩
 case round=>
  obtain ⟨k,hkn,rfl,rfl⟩:=hrel
  have h7:k < 7:=by omega
  have t1:decide ((k:Int) < 7)=true:=by simp;omega
  have hck:=Hcs.out k h7
  by_cases hlt:k < n
  · have hne:p n≠p k:=fun e=>by have:=h3.inj n k hn h7 e;omega
    obtain ⟨cb,tb,hpb⟩:=h3.blk k h7
    go_wp2_with fail
    refine (is_wrap_other N 0 (p k) (p n) ca cb ta tb W3 hN1' hne ha3 hpb).mono ?_
    rintro e w4 ⟨rfl,rfl⟩
    go_wp2_with fail
    go_round
    case rel=>exact ⟨k+1,by omega,rfl,by go_num⟩
    case measure=>simp [intOf];omega
  · have hkn':k=n:=by omega
    subst hkn'
    go_wp2_with fail
    refine (is_wrap_same N 0 (p k) W3 hN1').mono ?_
    rintro e w4 ⟨rfl,rfl⟩
    go_wp2_with fail
    go_ret2
    exact ⟨rfl,hbl⟩
end Go.Proofs.YtdoaeapahgmfoaaGreatDoor
namespace Go.Proofs.YtdoaeapahgmfoaaGreatDoor
open Go.ChangeShapes Go.WideShapes Go.ChangeAt Go.RowKit
def namesPlain:List (String × DataW Unit):= [("math/bits.deBruijn32tab",Rows.laid_math_bits_deBruijn32tab),("math/bits.deBruijn64tab",Rows.laid_math_bits_deBruijn64tab),("internal/strconv.uint64pow10",Rows.laid_internal_strconv_uint64pow10),("unicode/utf8.acceptRanges",Rows.laid_unicode_utf8_acceptRanges),("nurserypy/api.ErrText",Rows.laid_nurserypy_api_ErrText),("nurserypy/api.ErrBound",Rows.laid_nurserypy_api_ErrBound),("nurserypy/api.ErrShape",Rows.laid_nurserypy_api_ErrShape),("nurserypy/api.ErrName",Rows.laid_nurserypy_api_ErrName),("nurserypy/api.ErrPlace",Rows.laid_nurserypy_api_ErrPlace),("nurserypy/api.ErrFull",Rows.laid_nurserypy_api_ErrFull),("nurserypy/api.ErrNone",Rows.laid_nurserypy_api_ErrNone),("strconv.ErrRange",Rows.laid_strconv_ErrRange),("strconv.ErrSyntax",Rows.laid_strconv_ErrSyntax),("nurserypy/lex.words",Rows.laid_nurserypy_lex_words),("nurserypy/lex.ops",Rows.laid_nurserypy_lex_ops),("nurserypy/tree.levels",Rows.laid_nurserypy_tree_levels),("unicode/utf8.first",Rows.laid_unicode_utf8_first)]
def namesLaid:List (String × DataW Unit):= [("math/bits.deBruijn32tab",Rows.laid_math_bits_deBruijn32tab),("math/bits.deBruijn64tab",Rows.laid_math_bits_deBruijn64tab),("internal/strconv.uint64pow10",Rows.laid_internal_strconv_uint64pow10),("unicode/utf8.acceptRanges",Rows.laid_unicode_utf8_acceptRanges),("errors.errorType",Rows.laid_errors_errorType),("nurserypy/api.ErrText",Rows.laid_nurserypy_api_ErrText),("nurserypy/api.ErrBound",Rows.laid_nurserypy_api_ErrBound),("nurserypy/api.ErrShape",Rows.laid_nurserypy_api_ErrShape),("nurserypy/api.ErrName",Rows.laid_nurserypy_api_ErrName),("nurserypy/api.ErrPlace",Rows.laid_nurserypy_api_ErrPlace),("nurserypy/api.ErrFull",Rows.laid_nurserypy_api_ErrFull),("nurserypy/api.ErrNone",Rows.laid_nurserypy_api_ErrNone),("strconv.ErrRange",Rows.laid_strconv_ErrRange),("strconv.ErrSyntax",Rows.laid_strconv_ErrSyntax),("nurserypy/lex.words",Rows.laid_nurserypy_lex_words),("nurserypy/lex.ops",Rows.laid_nurserypy_lex_ops),("nurserypy/tree.levels",Rows.laid_nurserypy_tree_levels),("unicode/utf8.first",Rows.laid_unicode_utf8_first)]
noncomputable def namesHand (os:Os):World:=
 let w0:=World.holding Tryz.prog os ⟨#[],#[],[]⟩
 { w0 with heap:=w0.heap.modify 7 fun
    | .cells _ t frozen=> .cells #[.iface 233 (.agg #[.pointer (some ⟨19,27,none⟩)])] t frozen
    | o=>o }
noncomputable def namesWorld (os:Os):World:=(namesHand os).layVars Tryz.prog namesPlain
theorem namesWorld_os (os:Os):(namesWorld os).os=os:=World.layVars_os _ _ _
theorem namesWorld_plain (os:Os) (args:Array Value):laidMet Tryz.prog namesPlain ((namesWorld os).forCall (fun _ _=>0) ⟨#[],args,[]⟩).memory:=by
 have e1:(namesPlain.filter fun x=>(namesPlain.map (·.1)).contains x.1)=namesPlain:=List.filter_eq_self.2 fun x hx=>List.contains_iff_mem.2 (List.mem_map.2 ⟨x,hx,rfl⟩)
 have e2:(namesPlain.filter fun x=> !(namesPlain.map (·.1)).contains x.1)= []:=List.filter_eq_nil_iff.2 fun x hx=>by rw [List.contains_iff_mem.2 (List.mem_map.2 ⟨x,hx,rfl⟩)];simp
 have h:laidMet Tryz.prog namesPlain (namesWorld os):=laidMet_layVars (w0:=namesHand os) (namesPlain.map (·.1)) [] (by rw [e1];rfl) (by rw [e1];kernel_rfl) (by rw [e1];kernel_rfl) (by rw [e2];exact LaidIn.none)
 exact h.of_heap (by simp [World.memory,World.forCall,Input.heap])
theorem namesWorld_met (os:Os) (args:Array Value):laidMetH Tryz.prog namesLaid ((namesWorld os).forCall (fun _ _=>0) ⟨#[],args,[]⟩).memory:=
 laidMetH_of_parts (namesWorld_plain os args) (by kernel_rfl)
theorem laid_mem2 {P:Program} {w:World}:∀ {l:List (String × DataW Unit)} {ps:List MemPlace},DataW.LaidVars P w l ps→∀ n d,(n,d) ∈ l→
 ∃ g t cs fuel p,P.globalNamed n=some g∧(P.globals[g]?).map (·.type)=some t∧w.var? P n=some cs∧DataW.trod (fun _=>()) P w 0 (fun _=>true) false fuel t cs.toList=some (d,p)∧∀ x ∈ MemPlace.row ⟨g,0,none⟩ cs.size ++ p,x ∈ ps
 | [],_,_,_,_,hm=>by cases hm
 | x :: r,ps,h,n,d,hm=>by
   obtain ⟨g,t,cs,fuel,p,q,h1,h2,h3,h4,h5,h6⟩:=h
   rcases List.mem_cons.1 hm with rfl | hm
   · exact ⟨g,t,cs,fuel,p,h1,h2,h3,h4,fun x hx=>by rw [h6];exact List.mem_append_left _ hx⟩
   · obtain ⟨g',t',cs',fuel',p',k1,k2,k3,k4,k5⟩:=laid_mem2 h5 n d hm
     exact ⟨g',t',cs',fuel',p',k1,k2,k3,k4,fun x hx=>by rw [h6];exact List.mem_append_right _ (k5 x hx)⟩
theorem star_: "*" ++ "errors.errorString" = "*errors.errorString" :=by decide
theorem rowErr (u:TypeId) (h:Tryz.prog.typeName? 3 u=some "*errors.errorString"):u=281:=
 typeName_ptr_named (nm:= "errors.errorString") (by rw [star_];kernel_rfl) (by kernel_rfl) (by decide) u (by rw [star_];exact h)
theorem cellsErr:Tryz.prog.cellsOf 283=1:=by kernel_rfl
theorem cellsStr:Tryz.prog.cellsOf 9=1:=by kernel_rfl
set_option maxRecDepth 100000 in
theorem laid_err {W:World} {l:List (String × DataW Unit)} (h:laidMet Tryz.prog l W) (n:String) (text:List UInt8) (g:Nat) (hm:(n,(.iface "*errors.errorString" (.ptr (.agg [.lit (.string text)])):DataW Unit)) ∈ l)
 (hgn:Tryz.prog.globalNamed n=some g) (hgt:(Tryz.prog.globals[g]?).map (·.type)=some 27):
 ∃ a:Addr,W.cell? ⟨g,0,none⟩=some (.iface 281 (.pointer (some a)))∧W.cell? a=some (.string (⟨text.toArray⟩:ByteArray))∧∃ c t,W.heap[a.block]? =some (.cells c t (0,0)):=by
 obtain ⟨ps,hv,_,hrows⟩:=h
 obtain ⟨g',t,cs,fuel,p,h1,h2,h3,h4,h5⟩:=laid_mem2 hv n _ hm
 obtain rfl:=Option.some.inj (hgn.symm.trans h1)
 obtain rfl:=Option.some.inj (hgt.symm.trans h2)
 obtain ⟨l⟩:=cs
 have ok:∀ u v,l= [.iface u v]→Value.okWide Tryz.prog W .any 0 u v:=fun u v e=>by
  subst e
  exact (hrows g 0 (h5 _ (by simp [MemPlace.row]))).2 u v (by simpa using World.var?_cell h1 h3 0)
 obtain ⟨a,s,rfl,hc,hs,_,rfl⟩:=errorString_of_trod Tryz.underlying27 rowErr Tryz.underlying281 Tryz.underlying283 rfl rfl Tryz.underlying9 cellsErr cellsStr h4 ok
 obtain ⟨c,t,hb⟩:=(hrows a.block a.off (h5 _ (by simp [MemPlace.row]))).1
 have hs2:s=(⟨text.toArray⟩:ByteArray):=by
  rw [← hs]
 refine ⟨a,by simpa using World.var?_cell h1 h3 0,by rw [← hs2];exact hc,c,t,hb⟩
def msgT:Nat→List UInt8
 | 0=> [110,117,114,115,101,114,121,112,121,58,32,116,101,120,116]
 | 1=> [110,117,114,115,101,114,121,112,121,58,32,98,111,117,110,100]
 | 2=> [110,117,114,115,101,114,121,112,121,58,32,115,104,97,112,101]
 | 3=> [110,117,114,115,101,114,121,112,121,58,32,110,97,109,101]
 | 4=> [110,117,114,115,101,114,121,112,121,58,32,112,108,97,99,101]
 | 5=> [110,117,114,115,101,114,121,112,121,58,32,102,117,108,108]
 | _=> [110,117,114,115,101,114,121,112,121,58,32,110,111,110,101]
def errD (i:Nat):DataW Unit:= .iface "*errors.errorString" (.ptr (.agg [.lit (.string (msgT i))]))
def errN:Nat→String
 | 0=> "nurserypy/api.ErrText"
 | 1=> "nurserypy/api.ErrBound"
 | 2=> "nurserypy/api.ErrShape"
 | 3=> "nurserypy/api.ErrName"
 | 4=> "nurserypy/api.ErrPlace"
 | 5=> "nurserypy/api.ErrFull"
 | _=> "nurserypy/api.ErrNone"
theorem plain_err (i:Nat) (h:i < 7):(errN i,errD i) ∈ namesPlain:=by
 match i,h with
 | 0,_=>simp [namesPlain,errN,errD,msgT,Rows.laid_nurserypy_api_ErrText]
 | 1,_=>simp [namesPlain,errN,errD,msgT,Rows.laid_nurserypy_api_ErrBound]
 | 2,_=>simp [namesPlain,errN,errD,msgT,Rows.laid_nurserypy_api_ErrShape]
 | 3,_=>simp [namesPlain,errN,errD,msgT,Rows.laid_nurserypy_api_ErrName]
 | 4,_=>simp [namesPlain,errN,errD,msgT,Rows.laid_nurserypy_api_ErrPlace]
 | 5,_=>simp [namesPlain,errN,errD,msgT,Rows.laid_nurserypy_api_ErrFull]
 | 6,_=>simp [namesPlain,errN,errD,msgT,Rows.laid_nurserypy_api_ErrNone]
theorem errN_g (i:Nat) (h:i < 7):Tryz.prog.globalNamed (errN i)=some (errG i)∧(Tryz.prog.globals[errG i]?).map (·.type)=some 27:=by
 match i,h with
 | 0,_=>exact ⟨by kernel_rfl,by kernel_rfl⟩
 | 1,_=>exact ⟨by kernel_rfl,by kernel_rfl⟩
 | 2,_=>exact ⟨by kernel_rfl,by kernel_rfl⟩
 | 3,_=>exact ⟨by kernel_rfl,by kernel_rfl⟩
 | 4,_=>exact ⟨by kernel_rfl,by kernel_rfl⟩
 | 5,_=>exact ⟨by kernel_rfl,by kernel_rfl⟩
 | 6,_=>exact ⟨by kernel_rfl,by kernel_rfl⟩
theorem msgT_inj (i j:Nat) (hi:i < 7) (hj:j < 7) (h:msgT i=msgT j):i=j:=by
 have hh:∀ i j:Fin 7,msgT i.val=msgT j.val→i=j:=by decide +kernel
 have:=hh ⟨i,hi⟩ ⟨j,hj⟩ h
 exact congrArg Fin.val this
theorem cutRt:(Tryz.prog.cutTypes.find? (·.1 == "internal/reflectlite.rtype")).map (·.2)=some 233:=by kernel_rfl
theorem oneRow_:((List.range Tryz.prog.types.size).filter fun t=>Tryz.prog.rowNamed t [101,114,114,111,114])= [27]:=by kernel_rfl
theorem gET:Tryz.prog.globalNamed "errors.errorType" =some 7:=by kernel_rfl
set_option maxRecDepth 100000 in
theorem errs_of_parts {W:World} {l:List (String × DataW Unit)} (hp:laidMet Tryz.prog l W) (hl:∀ i,i < 7→(errN i,errD i) ∈ l) (hh0:handlesMet Tryz.prog [("errors.errorType",Rows.laid_errors_errorType)] W):∃ p,Errs p W:=by
 obtain ⟨name,u,ty,e1,e2,e3,e4,e5⟩:=hh0 _ (List.mem_singleton.2 rfl)
 have en:name= [101,114,114,111,114]:=(Option.some.inj e1).symm
 subst en
 obtain rfl:=Option.some.inj (cutRt.symm.trans e2)
 have hm:ty ∈ (List.range Tryz.prog.types.size).filter fun t=>Tryz.prog.rowNamed t [101,114,114,111,114]:=List.mem_filter.2 ⟨List.mem_range.2 e3,e4⟩
 rw [oneRow_] at hm
 obtain rfl:=List.mem_singleton.1 hm
 have hh:typeHandle Tryz.prog 27= .pointer (some ⟨19,27,none⟩):=by kernel_rfl
 rw [hh] at e5
 have each:∀ i,i < 7→∃ a:Addr,W.cell? ⟨errG i,0,none⟩=some (.iface 281 (.pointer (some a)))∧W.cell? a=some (.string (⟨(msgT i).toArray⟩:ByteArray))∧∃ c t,W.heap[a.block]? =some (.cells c t (0,0)):=by
  intro i hi
  obtain ⟨q1,q2⟩:=errN_g i hi
  exact laid_err hp (errN i) (msgT i) (errG i) (hl i hi) q1 q2
 have hch:∃ p:Nat→Addr,∀ i,i < 7→W.cell? ⟨errG i,0,none⟩=some (.iface 281 (.pointer (some (p i))))∧W.cell? (p i)=some (.string (⟨(msgT i).toArray⟩:ByteArray))∧∃ c t,W.heap[(p i).block]? =some (.cells c t (0,0)):=by
  classical
  refine ⟨fun i=>if hi:i < 7 then Classical.choose (each i hi) else ⟨0,0,none⟩,fun i hi=> ?_⟩
  simp only [dif_pos hi]
  exact Classical.choose_spec (each i hi)
 obtain ⟨p,hpp⟩:=hch
 refine ⟨p,by simpa using World.var?_cell gET e5 0,fun i hi=>(hpp i hi).1,fun i j hi hj e=> ?_,fun i hi=>(hpp i hi).2.2⟩
 have h1:=(hpp i hi).2.1
 have h2:=(hpp j hj).2.1
 rw [e,h2] at h1
 injection h1 with h1
 injection h1 with h1
 injection h1 with h1
 exact msgT_inj i j hi hj (by simpa using h1.symm)
set_option maxRecDepth 100000 in
theorem names_of_laid {W:World} (h:laidMetH Tryz.prog namesLaid W):GlobT W.heap.size W∧∃ p,Errs p W:=by
 have h':laidMet Tryz.prog namesPlain W∧handlesMet Tryz.prog [("errors.errorType",Rows.laid_errors_errorType)] W:=h
 obtain ⟨hp,hh⟩:=h'
 refine ⟨?_,errs_of_parts hp plain_err hh⟩
 obtain ⟨ps,hv,_⟩:=hp
 obtain ⟨a,b,c⟩:=glob_of_vars hv (by simp [namesPlain]) (by simp [namesPlain]) (by simp [namesPlain]) (by simp [namesPlain]) (by simp [namesPlain]) (by simp [namesPlain]) (by simp [namesPlain])
 have hsh:=laid_iface (g:=0) hv _ _ _ (show ("nurserypy/api.ErrShape",Rows.laid_nurserypy_api_ErrShape) ∈ namesPlain by simp [namesPlain]) (by kernel_rfl) (by kernel_rfl)
 obtain ⟨g',t,cs,fuel,p,k1,k2,k3,k4⟩:=laid_mem hv "unicode/utf8.acceptRanges" Rows.laid_unicode_utf8_acceptRanges (by simp [namesPlain])
 have hsz:18 < W.heap.size:=laid_size (by kernel_rfl) k3
 exact ⟨⟨a,b,c⟩,by omega,laid_levels hv (by simp [namesPlain]),hsh,laid_pow hv (by simp [namesPlain])⟩
end Go.Proofs.YtdoaeapahgmfoaaGreatDoor
namespace Go.Proofs.YtdoaeapahgmfoaaGreatDoor
open Go.RowKit
def Fr.row (x:Fr):Nat→List (List UInt8)
 | 0=>x.bound
 | 1=>x.used
 | 2=>x.glob
 | _=>x.nonl
structure Sm (d:Fd) (N:Nat):Prop where
 fr:d.fr.length≤N
 bad:d.bad.length≤N
 row:∀ i k,((d.fr.getD i dfr).row k).length≤N
 loops:∀ i,(d.fr.getD i dfr).loops≤N
 lo: -1≤d.stmt
 hi:d.stmt≤N
theorem Sm.mono {d:Fd} {N M:Nat} (h:Sm d N) (hN:N≤M):Sm d M:=⟨by have:=h.fr;omega,by have:=h.bad;omega,fun i k=>by have:=h.row i k;omega,fun i=>by have:=h.loops i;omega,h.lo,by have:=h.hi;omega⟩
theorem Sm.failIf {d:Fd} {N:Nat} (h:Sm d N) (b:Bool):Sm (d.failIf b) (N+1):=by
 refine ⟨by rw [fail_fr];have:=h.fr;omega,?_,fun i k=>by rw [fail_fr];have:=h.row i k;omega,fun i=>by rw [fail_fr];have:=h.loops i;omega,?_,?_⟩
 · rw [fail_bad]
   have:=h.bad
   split <;> simp <;> omega
 · have:(d.failIf b).stmt=d.stmt:=by unfold Fd.failIf Fd.fail;split <;> rfl
   rw [this];exact h.lo
 · have:(d.failIf b).stmt=d.stmt:=by unfold Fd.failIf Fd.fail;split <;> rfl
   rw [this];have:=h.hi;omega
theorem Sm.set {d:Fd} {N M:Nat} (h:Sm d N) (hM:N≤M) (i:Nat) (f:Fr→Fr) (hr:∀ k,((f (d.fr.getD i dfr)).row k).length≤M) (hl:(f (d.fr.getD i dfr)).loops≤M):Sm (d.set i f) M:=by
 have h':=h.mono hM
 refine ⟨by simpa [Fd.set] using h'.fr,h'.bad,fun j k=> ?_,fun j=> ?_,h'.lo,h'.hi⟩
 · show (((d.fr.modify i f).getD j dfr).row k).length≤M
   rw [getD_modify]
   split
   · rename_i hc;obtain ⟨rfl,_⟩:=hc;exact hr k
   · exact h'.row j k
 · show ((d.fr.modify i f).getD j dfr).loops≤M
   rw [getD_modify]
   split
   · rename_i hc;obtain ⟨rfl,_⟩:=hc;exact hl
   · exact h'.loops j
theorem addL_len (l:List (List UInt8)) (s:List UInt8):(addL l s).length≤l.length+1:=by unfold addL;split <;> simp
theorem Sm.setRow {d:Fd} {N:Nat} (h:Sm d N) (i:Nat) (f:Fr→Fr) (hr:∀ x:Fr,∀ k,((f x).row k).length≤(x.row k).length+1) (hl:∀ x:Fr,(f x).loops=x.loops):Sm (d.set i f) (N+1):=
 h.set (by omega) i f (fun k=>by have:=hr (d.fr.getD i dfr) k;have:=h.row i k;omega) (by rw [hl];have:=h.loops i;omega)
theorem sm_openP:∀ (ps b:List (List UInt8)) (d:Fd) (N:Nat),Sm d N→Sm (openP d b ps) (N+ps.length)
 | [],_,_,_,h=>h
 | p :: r,b,d,N,h=>by
   unfold openP
   have:=sm_openP r (b ++ [p]) _ _ (h.failIf (b.contains p))
   refine this.mono ?_
   simp;omega
theorem Sm.open_ {d:Fd} {N:Nat} (h:Sm d N) (i:Int) (ps:List (List UInt8)):Sm (d.open_ i ps) (N+ps.length+1):=by
 have h1:=(sm_openP ps [] d N h).mono (Nat.le_succ _)
 unfold Fd.open_
 refine ⟨?_,h1.bad,fun j k=> ?_,fun j=> ?_,h1.lo,h1.hi⟩
 · have:=(sm_openP ps [] d N h).fr;simp;omega
 · show ((((openP d [] ps).fr ++ [_]).getD j dfr).row k).length≤_
   rw [getD_snoc]
   split
   · match k with
     | 0=>show ps.length≤_;omega
     | 1=>exact Nat.zero_le _
     | 2=>exact Nat.zero_le _
     | _+3=>exact Nat.zero_le _
   · exact h1.row j k
 · show (((openP d [] ps).fr ++ [_]).getD j dfr).loops≤_
   rw [getD_snoc]
   split
   · exact Nat.zero_le _
   · exact h1.loops j
theorem Sm.bind {d:Fd} {N:Nat} (h:Sm d N) (i:Nat) (n:List UInt8):Sm (d.bind i n) (N+1):=by
 unfold Fd.bind
 split
 · exact h.mono (Nat.le_succ _)
 · refine h.setRow i _ (fun x k=> ?_) fun _=>rfl
   match k with
   | 0=>exact addL_len _ _
   | 1=>exact Nat.le_succ _
   | 2=>exact Nat.le_succ _
   | _+3=>exact Nat.le_succ _
theorem sm_exs (f:Fd→Ex→Fd):∀ (l:List Ex) (_:∀ e ∈ l,∀ N d,Sm d N→Sm (f d e) (N+8 * e.bulk)) (N:Nat) (d:Fd),Sm d N→Sm (l.foldl f d) (N+8 * exsBulk l)
 | [],_,N,d,h=>by simpa [exsBulk] using h
 | e :: r,hf,N,d,h=>by
   have h1:=hf e List.mem_cons_self N d h
   have h2:=sm_exs f r (fun a ha=>hf a (List.mem_cons_of_mem _ ha)) _ _ h1
   refine h2.mono ?_
   show _≤N+8 * (e.bulk+exsBulk r)
   omega
theorem sm_stms (f:Fd→Stm→Fd):∀ (l:List Stm) (_:∀ e ∈ l,∀ N d,Sm d N→Sm (f d e) (N+8 * e.bulk)) (N:Nat) (d:Fd),Sm d N→Sm (l.foldl f d) (N+8 * stmsBulk l)
 | [],_,N,d,h=>by simpa [stmsBulk] using h
 | e :: r,hf,N,d,h=>by
   have h1:=hf e List.mem_cons_self N d h
   have h2:=sm_stms f r (fun a ha=>hf a (List.mem_cons_of_mem _ ha)) _ _ h1
   refine h2.mono ?_
   show _≤N+8 * (e.bulk+stmsBulk r)
   omega
theorem sm_use (d:Fd) (N i:Nat) (e:Ex) (h:Sm d N):Sm (if e.op=oName then d.set i (fun x=> { x with used:=addL x.used e.s }) else d) (N+1):=by
 split
 · refine h.setRow i _ (fun x k=> ?_) fun _=>rfl
   match k with
   | 0=>exact Nat.le_succ _
   | 1=>exact addL_len _ _
   | 2=>exact Nat.le_succ _
   | _+3=>exact Nat.le_succ _
 · exact h.mono (Nat.le_succ _)
theorem sm_term:∀ (f:Nat) (e:Ex) (i N:Nat) (d:Fd),Sm d N→Sm (termF f e i d) (N+8 * e.bulk)
 | 0,_,_,_,_,h=>h.mono (Nat.le_add_right _ _)
 | f+1,e,i,N,d,h=>by
   have hb:=Ex.bulk_eq e
   have hp:=strsBulk_len e.p
   have h1:=sm_use d N i e h
   unfold termF
   dsimp only
   generalize (if e.op=oName then d.set i (fun x=> { x with used:=addL x.used e.s }) else d)=d2 at h1 ⊢
   split
   · have h2:=sm_exs (fun a e=>termF f e d2.fr.length a) e.l (fun a _ N d h=>sm_term f a _ N d h) _ _ (h1.open_ i e.p)
     exact h2.mono (by omega)
   · have h2:=sm_exs (fun a e=>termF f e i a) e.l (fun a _ N d h=>sm_term f a _ N d h) _ _ h1
     exact h2.mono (by omega)
theorem sm_said (i:Nat) (g:Bool):∀ (ps:List (List UInt8)) (N:Nat) (d:Fd),Sm d N→Sm (saidF d i g ps) (N+2 * ps.length)
 | [],_,_,h=>h
 | n :: r,N,d,h=>by
   unfold saidF
   simp only [List.foldl_cons]
   have h1:=h.failIf ((d.at_ i).bound.contains n || (d.at_ i).used.contains n || (d.at_ i).glob.contains n || (d.at_ i).nonl.contains n)
   have h2:Sm (if g then (d.failIf ((d.at_ i).bound.contains n || (d.at_ i).used.contains n || (d.at_ i).glob.contains n || (d.at_ i).nonl.contains n)).set i (fun x=> { x with glob:=x.glob ++ [n] }) else (d.failIf ((d.at_ i).bound.contains n || (d.at_ i).used.contains n || (d.at_ i).glob.contains n || (d.at_ i).nonl.contains n)).set i (fun x=> { x with nonl:=x.nonl ++ [n] })) (N+1+1):=by
    split
    · refine h1.setRow i _ (fun x k=> ?_) fun _=>rfl
      match k with
      | 0=>exact Nat.le_succ _
      | 1=>exact Nat.le_succ _
      | 2=>show (x.glob ++ [n]).length≤x.glob.length+1;simp
      | _+3=>exact Nat.le_succ _
    · refine h1.setRow i _ (fun x k=> ?_) fun _=>rfl
      match k with
      | 0=>exact Nat.le_succ _
      | 1=>exact Nat.le_succ _
      | 2=>exact Nat.le_succ _
      | _+3=>show (x.nonl ++ [n]).length≤x.nonl.length+1;simp
   have h3:=sm_said i g r _ _ h2
   refine h3.mono ?_
   simp only [List.length_cons];omega
theorem sm_stmt {d:Fd} {N:Nat} (h:Sm d N):Sm { d with stmt:=d.stmt+1 } (N+1):=by
 have h1:=h.mono (Nat.le_succ N)
 exact ⟨h1.fr,h1.bad,h1.row,h1.loops,by have:=h.lo;show -1≤d.stmt+1;omega,by have:=h.hi;show d.stmt+1≤((N+1:Nat):Int);omega⟩
def kindF1 (s:Stm) (i:Nat) (d:Fd):Fd:=if s.kind=sBreak∨s.kind=sContinue then d.failIf (decide ((d.at_ i).loops=0))
    else if s.kind=sReturn then d.failIf (decide (i=0))
    else if s.kind=sGlobal∨s.kind=sNonlocal then saidF (d.failIf (decide (i=0))) i (decide (s.kind=sGlobal)) s.p
    else d
def kindF2 (s:Stm) (i:Nat) (d:Fd):Fd:=if s.kind=sSet∨s.kind=sFor∨s.kind=sDef then d.bind i s.name else d
def kindF3 (f:Nat) (s:Stm) (i:Nat) (d:Fd):Fd:=if s.kind=sWhile∨s.kind=sFor then
     (blockF f s.body i (d.set i fun x=> { x with loops:=x.loops+1 })).set i fun x=> { x with loops:=x.loops - 1 }
    else if s.kind=sDef then blockF f s.body d.fr.length (d.open_ i s.p)
    else blockF f s.els i (if s.kind=sTry then (blockF f s.body i d).bind i s.name else blockF f s.body i d)
theorem headF_eq (s:Stm) (i:Nat) (d:Fd):headF s i d=kindF2 s i (s.l.foldl (fun a e=>termF e.nodes e i a) (kindF1 s i { d with stmt:=d.stmt+1 })):=rfl
theorem blockF_eq (f:Nat) (l:List Stm) (i:Nat) (d:Fd):blockF (f+1) l i d=l.foldl (fun d s=>kindF3 f s i (headF s i d)) d:=rfl
theorem sm_kind1 (s:Stm) (i N:Nat) (d:Fd) (h:Sm d N):Sm (kindF1 s i d) (N+1+2 * s.p.length):=by
 unfold kindF1
 split
 · exact (h.failIf _).mono (by omega)
 · split
   · exact (h.failIf _).mono (by omega)
   · split
     · exact sm_said i _ s.p _ _ (h.failIf _)
     · exact h.mono (by omega)
theorem sm_kind2 (s:Stm) (i N:Nat) (d:Fd) (h:Sm d N):Sm (kindF2 s i d) (N+1):=by
 unfold kindF2
 split
 · exact h.bind _ _
 · exact h.mono (by omega)
theorem sm_head (s:Stm) (i N:Nat) (d:Fd) (h:Sm d N):Sm (headF s i d) (N+3+2 * s.p.length+8 * exsBulk s.l):=by
 rw [headF_eq]
 have h1:=sm_kind1 s i _ _ (sm_stmt h)
 have h2:=sm_exs (fun a e=>termF e.nodes e i a) s.l (fun e _ N d h=>sm_term _ e i N d h) _ _ h1
 exact (sm_kind2 s i _ _ h2).mono (by omega)
theorem sm_block:∀ (f:Nat) (l:List Stm) (i N:Nat) (d:Fd),Sm d N→Sm (blockF f l i d) (N+8 * stmsBulk l)
 | 0,_,_,_,_,h=>h.mono (Nat.le_add_right _ _)
 | f+1,l,i,N,d,h=>by
   rw [blockF_eq]
   refine sm_stms _ l (fun s _ N d h=> ?_) N d h
   have hb:=Stm.bulk_eq s
   have hp:=strsBulk_len s.p
   have h1:=sm_head s i N d h
   generalize headF s i d=d1 at h1
   unfold kindF3
   split
   · have h2:Sm (d1.set i fun x=> { x with loops:=x.loops+1 }) (N+3+2 * s.p.length+8 * exsBulk s.l+1):=h1.set (by omega) i _ (fun k=>by
      have:=h1.row i k
      match k with
      | 0=>exact Nat.le_succ_of_le this
      | 1=>exact Nat.le_succ_of_le this
      | 2=>exact Nat.le_succ_of_le this
      | _+3=>exact Nat.le_succ_of_le this) (by have:=h1.loops i;show _+1≤_;omega)
     have h3:=sm_block f s.body i _ _ h2
     have h4:=h3.set (Nat.le_refl _) i (fun x=> { x with loops:=x.loops - 1 }) (fun k=>by
      have:=h3.row i k
      match k with
      | 0=>exact this
      | 1=>exact this
      | 2=>exact this
      | _+3=>exact this) (by have:=h3.loops i;show _ - 1≤_;omega)
     exact h4.mono (by omega)
   · split
     · exact (sm_block f s.body _ _ _ (h1.open_ i s.p)).mono (by omega)
     · have h2:=sm_block f s.body i _ _ h1
       have h3:Sm (if s.kind=sTry then (blockF f s.body i d1).bind i s.name else blockF f s.body i d1) (N+3+2 * s.p.length+8 * exsBulk s.l+8 * stmsBulk s.body+1):=by
        split
        · exact h2.bind _ _
        · exact h2.mono (by omega)
       exact (sm_block f s.els i _ _ h3).mono (by omega)
end Go.Proofs.YtdoaeapahgmfoaaGreatDoor
