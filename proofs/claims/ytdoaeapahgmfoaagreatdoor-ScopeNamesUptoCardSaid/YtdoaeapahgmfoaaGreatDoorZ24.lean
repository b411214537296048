/- What package scope computes, in plain words: the finder; owners; the scopes. The plain law of ScopeCloses: where the finder finds nothing bad, each free name is a cell or free of the scope around, none is two of the three, the program has none. The plain law of ScopeNames: by other names (each with a letter more) the scopes are the same, by those names. -/
import Derived.Test.YtdoaeapahgmfoaaGreatDoorZ08
namespace Go.Proofs.YtdoaeapahgmfoaaGreatDoor
open Go.RowKit
structure Fr where
 around:Int
 params:Nat
 bound:List (List UInt8)
 used:List (List UInt8)
 glob:List (List UInt8)
 nonl:List (List UInt8)
 loops:Nat
def dfr:Fr:=⟨0,0,[],[],[],[],0⟩
structure Fd where
 fr:List Fr
 stmt:Int
 bad:List Int
def addL (l:List (List UInt8)) (s:List UInt8):List (List UInt8):=if l.contains s then l else l ++ [s]
def Fd.fail (d:Fd):Fd:= { d with bad:=d.bad ++ [d.stmt] }
def Fd.failIf (d:Fd) (b:Bool):Fd:=if b then d.fail else d
def Fd.set (d:Fd) (i:Nat) (f:Fr→Fr):Fd:= { d with fr:=d.fr.modify i f }
def Fd.at_ (d:Fd) (i:Nat):Fr:=d.fr.getD i dfr
def openP (d:Fd) (b:List (List UInt8)):List (List UInt8)→Fd
 | []=>d
 | p :: r=>openP (d.failIf (b.contains p)) (b ++ [p]) r
def Fd.open_ (d:Fd) (around:Int) (ps:List (List UInt8)):Fd:=
 let d:=openP d [] ps
 { d with fr:=d.fr ++ [⟨around,ps.length,ps,[],[],[],0⟩] }
def Fd.bind (d:Fd) (i:Nat) (name:List UInt8):Fd:=
 if (d.at_ i).glob.contains name || (d.at_ i).nonl.contains name then d else d.set i fun x=> { x with bound:=addL x.bound name }
def termF:Nat→Ex→Nat→Fd→Fd
 | 0,_,_,d=>d
 | f+1,e,i,d=>
   let d:=if e.op=oName then d.set i (fun x=> { x with used:=addL x.used e.s }) else d
   if e.op=oLambda then e.l.foldl (fun a e=>termF f e d.fr.length a) (d.open_ i e.p)
   else e.l.foldl (fun a e=>termF f e i a) d
def saidF (d:Fd) (i:Nat) (g:Bool) (ps:List (List UInt8)):Fd:=ps.foldl (fun d n=>
 let x:=d.at_ i
 let d:=d.failIf (x.bound.contains n || x.used.contains n || x.glob.contains n || x.nonl.contains n)
 if g then d.set i (fun x=> { x with glob:=x.glob ++ [n] }) else d.set i (fun x=> { x with nonl:=x.nonl ++ [n] })) d
def headF (s:Stm) (i:Nat) (d:Fd):Fd:=
 let d:= { d with stmt:=d.stmt+1 }
 let d:=if s.kind=sBreak∨s.kind=sContinue then d.failIf (decide ((d.at_ i).loops=0))
  else if s.kind=sReturn then d.failIf (decide (i=0))
  else if s.kind=sGlobal∨s.kind=sNonlocal then saidF (d.failIf (decide (i=0))) i (decide (s.kind=sGlobal)) s.p
  else d
 let d:=s.l.foldl (fun a e=>termF e.nodes e i a) d
 if s.kind=sSet∨s.kind=sFor∨s.kind=sDef then d.bind i s.name else d
def blockF:Nat→List Stm→Nat→Fd→Fd
 | 0,_,_,d=>d
 | f+1,l,i,d=>l.foldl (fun d s=>
   let d:=headF s i d
   if s.kind=sWhile∨s.kind=sFor then
    (blockF f s.body i (d.set i fun x=> { x with loops:=x.loops+1 })).set i fun x=> { x with loops:=x.loops - 1 }
   else if s.kind=sDef then blockF f s.body d.fr.length (d.open_ i s.p)
   else
    let d:=blockF f s.body i d
    let d:=if s.kind=sTry then d.bind i s.name else d
    blockF f s.els i d) d
def ownerGo:Nat→List Fr→Int→Int→List UInt8→Nat
 | 0,_,_,_,_=>0
 | f+1,fr,first,i,n=>if i≤0 then 0 else
   let x:=fr.getD i.toNat dfr
   if x.glob.contains n then 0
   else if x.bound.contains n && (decide (i≠first) || !x.nonl.contains n) then i.toNat
   else ownerGo f fr first x.around n
def ownerF (fr:List Fr) (i:Int) (n:List UInt8):Nat:=ownerGo (fr.length+1) fr i i n
def lambdasF:Nat→Ex→Nat→Nat
 | 0,_,k=>k
 | f+1,e,k=>e.l.foldl (fun k e=>lambdasF f e k) (if e.op=oLambda then k+1 else k)
structure Ag where
 stmt:Int
 next:Nat
 bad:List Int
def nonlF (fr:List Fr) (i:Nat) (ps:List (List UInt8)) (a:Ag):Ag:=ps.foldl (fun a n=>
 if ownerF fr ((fr.getD i dfr).around) n=0 then { a with bad:=a.bad ++ [a.stmt] } else a) a
def againF:Nat→List Fr→List Stm→Nat→Ag→Ag
 | 0,_,_,_,a=>a
 | f+1,fr,l,i,a=>l.foldl (fun a s=>
   let a:= { a with stmt:=a.stmt+1,next:=s.l.foldl (fun k e=>lambdasF e.nodes e k) a.next }
   let a:=if s.kind=sNonlocal then nonlF fr i s.p a else a
   if s.kind=sDef then againF f fr s.body (a.next+1) { a with next:=a.next+1 }
   else againF f fr s.els i (againF f fr s.body i a)) a
def firstF (l:List Stm):Fd:=blockF (stmsNodes l+1) l 0 (Fd.open_ ⟨[],-1,[]⟩ (-1) [])
def secondF (l:List Stm):Ag:=againF (stmsNodes l+1) (firstF l).fr l 0 ⟨-1,0,(firstF l).bad⟩
structure Sc where
 around:Int
 params:Nat
 locals:List (List UInt8)
 cells:List (List UInt8)
 frees:List (List UInt8)
structure CF where
 cells:List (List (List UInt8))
 frees:List (List (List UInt8))
def chainF:Nat→List Fr→Nat→Nat→List UInt8→List (List (List UInt8))→List (List (List UInt8))
 | 0,_,_,_,_,fs=>fs
 | f+1,fr,k,own,n,fs=>if k=own then fs else
   chainF f fr ((fr.getD k dfr).around.toNat) own n (fs.modify k (addL · n))
def useF (fr:List Fr) (i:Nat) (c:CF) (n:List UInt8):CF:=
 let own:=ownerF fr i n
 if own=0∨own=i then c else ⟨c.cells.modify own (addL · n),chainF (fr.length+1) fr i own n c.frees⟩
def usesF (fr:List Fr):CF:=(List.range fr.length).foldl (fun c i=>
 let x:=fr.getD i dfr
 (x.used ++ x.nonl).foldl (useF fr i) c) ⟨List.replicate fr.length [],List.replicate fr.length []⟩
end Go.Proofs.YtdoaeapahgmfoaaGreatDoor
namespace Go.Proofs.YtdoaeapahgmfoaaGreatDoor
open Go.RowKit
structure Arnd (fr:List Fr):Prop where
 pos:0 < fr.length
 zero:(fr.getD 0 dfr).around= -1
 lt:∀ i,1≤i→i < fr.length→0≤(fr.getD i dfr).around∧(fr.getD i dfr).around < (i:Int)
def Disj (fr:List Fr):Prop:=∀ i m,m ∈ (fr.getD i dfr).bound→m ∈ (fr.getD i dfr).nonl→False
theorem getD_modify (fr:List Fr) (i j:Nat) (f:Fr→Fr):(fr.modify i f).getD j dfr=if i=j∧j < fr.length then f (fr.getD j dfr) else fr.getD j dfr:=by
 rw [List.getD_eq_getElem?_getD,List.getD_eq_getElem?_getD,List.getElem?_modify]
 rcases Nat.lt_or_ge j fr.length with h | h
 · rw [List.getElem?_eq_getElem h]
   by_cases e:i=j
   · simp [e,h]
   · simp [e]
 · rw [List.getElem?_eq_none h]
   have:¬ (i=j∧j < fr.length):=by omega
   rw [if_neg this]
   by_cases e:i=j <;> simp [e]
theorem getD_snoc (fr:List Fr) (x:Fr) (j:Nat):(fr ++ [x]).getD j dfr=if j=fr.length then x else fr.getD j dfr:=by
 rw [List.getD_eq_getElem?_getD,List.getD_eq_getElem?_getD]
 rcases Nat.lt_trichotomy j fr.length with h | h | h
 · rw [List.getElem?_append_left h,if_neg (by omega)]
 · rw [List.getElem?_append_right (by omega),if_pos h];subst h;simp
 · rw [List.getElem?_append_right (by omega),if_neg (by omega),List.getElem?_eq_none (by simp;omega),List.getElem?_eq_none (by omega)]
structure Inv (d:Fd):Prop where
 arnd:Arnd d.fr
 disj:d.bad= []→Disj d.fr
structure Gd2 (d d':Fd):Prop where
 len:d.fr.length≤d'.fr.length
 inv:Inv d→Inv d'
 bad:d'.bad= []→d.bad= []
theorem Gd2.refl (d:Fd):Gd2 d d:=⟨Nat.le_refl _,id,id⟩
theorem Gd2.trans {a b c:Fd} (h:Gd2 a b) (k:Gd2 b c):Gd2 a c:=⟨Nat.le_trans h.len k.len,fun i=>k.inv (h.inv i),fun e=>h.bad (k.bad e)⟩
theorem gd_fold {α :Type} (f:Fd→ α →Fd) (l:List α) (n:Nat) (hf:∀ d a,a ∈ l→n≤d.fr.length→Gd2 d (f d a)):∀ d,n≤d.fr.length→Gd2 d (l.foldl f d):=by
 induction l with
 | nil=>intro d _;exact Gd2.refl d
 | cons a r ih=>
   intro d hn
   have h1:=hf d a (List.mem_cons_self) hn
   exact h1.trans (ih (fun d b hb=>hf d b (List.mem_cons_of_mem _ hb)) _ (Nat.le_trans hn h1.len))
theorem fail_fr (d:Fd) (b:Bool):(d.failIf b).fr=d.fr:=by unfold Fd.failIf Fd.fail;split <;> rfl
theorem fail_bad (d:Fd) (b:Bool):(d.failIf b).bad=if b then d.bad ++ [d.stmt] else d.bad:=by unfold Fd.failIf Fd.fail;split <;> rfl
theorem gd_failIf (d:Fd) (b:Bool):Gd2 d (d.failIf b):=by
 refine ⟨by rw [fail_fr];exact Nat.le_refl _,fun h=>⟨by rw [fail_fr];exact h.arnd,fun e=> ?_⟩,fun e=> ?_⟩
 · rw [fail_fr];refine h.disj ?_
   rw [fail_bad] at e;split at e
   · simp at e
   · exact e
 · rw [fail_bad] at e;split at e
   · simp at e
   · exact e
theorem gd_stmt (d:Fd) (n:Int):Gd2 d { d with stmt:=n }:=⟨Nat.le_refl _,fun h=>⟨h.arnd,h.disj⟩,id⟩
theorem arnd_set {fr:List Fr} (h:Arnd fr) (i:Nat) (f:Fr→Fr) (hf:∀ x,(f x).around=x.around):Arnd (fr.modify i f):=by
 have e:∀ j,((fr.modify i f).getD j dfr).around=(fr.getD j dfr).around:=fun j=>by
  rw [getD_modify];split
  · exact hf _
  · rfl
 refine ⟨by simpa using h.pos,by rw [e];exact h.zero,fun j h1 h2=>by rw [e];exact h.lt j h1 (by simpa using h2)⟩
theorem gd_set (d:Fd) (i:Nat) (f:Fr→Fr) (ha:∀ x,(f x).around=x.around) (hd:d.bad= []→Disj d.fr→∀ m,m ∈ (f (d.at_ i)).bound→m ∈ (f (d.at_ i)).nonl→False):Gd2 d (d.set i f):=by
 refine ⟨by simp [Fd.set],fun h=>⟨arnd_set h.arnd i f ha,fun e=> ?_⟩,id⟩
 intro j m
 show m ∈ ((d.fr.modify i f).getD j dfr).bound→m ∈ ((d.fr.modify i f).getD j dfr).nonl→False
 rw [getD_modify]
 split
 · rename_i hc
   obtain ⟨rfl,_⟩:=hc
   exact hd e (h.disj e) m
 · exact h.disj e j m
theorem openP_fr:∀ (ps b:List (List UInt8)) (d:Fd),(openP d b ps).fr=d.fr
 | [],_,_=>rfl
 | p :: r,b,d=>by unfold openP;rw [openP_fr r,fail_fr]
theorem gd_openP:∀ (ps b:List (List UInt8)) (d:Fd),Gd2 d (openP d b ps)
 | [],_,d=>Gd2.refl d
 | _ :: r,_,d=>(gd_failIf d _).trans (gd_openP r _ _)
theorem open_len (d:Fd) (i:Int) (ps:List (List UInt8)):(d.open_ i ps).fr.length=d.fr.length+1:=by
 unfold Fd.open_;simp [openP_fr]
theorem gd_open (d:Fd) (i:Nat) (ps:List (List UInt8)) (hi:i < d.fr.length):Gd2 d (d.open_ i ps):=by
 refine (gd_openP ps [] d).trans ?_
 show Gd2 (openP d [] ps) { (openP d [] ps) with fr:=(openP d [] ps).fr ++ [⟨i,ps.length,ps,[],[],[],0⟩] }
 generalize he:openP d [] ps=d2
 have hl:d2.fr.length=d.fr.length:=by rw [← he,openP_fr]
 refine ⟨by simp,fun h=>⟨⟨by simp,?_,?_⟩,?_⟩,id⟩
 · show ((d2.fr ++ [_]).getD 0 dfr).around= -1
   rw [getD_snoc,if_neg (by have:=h.arnd.pos;omega)];exact h.arnd.zero
 · intro j h1 h2
   show 0≤((d2.fr ++ [_]).getD j dfr).around∧((d2.fr ++ [_]).getD j dfr).around < (j:Int)
   rw [getD_snoc]
   split
   · rename_i e
     exact ⟨Int.natCast_nonneg _,by show (i:Int) < (j:Int);omega⟩
   · exact h.arnd.lt j h1 (by simp at h2;omega)
 · intro e j m
   show m ∈ ((d2.fr ++ [_]).getD j dfr).bound→m ∈ ((d2.fr ++ [_]).getD j dfr).nonl→False
   rw [getD_snoc]
   split
   · intro _ h2;simp at h2
   · exact h.disj e j m
theorem mem_addL {l:List (List UInt8)} {s m:List UInt8}:m ∈ addL l s ↔ m ∈ l∨m=s:=by
 unfold addL
 split
 · rename_i h
   rw [List.contains_eq_mem,decide_eq_true_iff] at h
   constructor
   · exact .inl
   · rintro (h1 | rfl)
     · exact h1
     · exact h
 · simp
theorem gd_bind (d:Fd) (i:Nat) (n:List UInt8):Gd2 d (d.bind i n):=by
 unfold Fd.bind
 split
 · exact Gd2.refl d
 · rename_i hc
   refine gd_set d i _ (fun _=>rfl) fun hb hd m h1 h2=> ?_
   rcases mem_addL.1 h1 with h1 | rfl
   · exact hd i m h1 h2
   · apply hc
     have:(d.at_ i).nonl.contains m=true:=by rw [List.contains_eq_mem,decide_eq_true_iff];exact h2
     rw [this,Bool.or_true]
theorem gd_term:∀ (f:Nat) (e:Ex) (i:Nat) (d:Fd),i < d.fr.length→Gd2 d (termF f e i d)
 | 0,_,_,d,_=>Gd2.refl d
 | f+1,e,i,d,hi=>by
   have h1:Gd2 d (if e.op=oName then d.set i (fun x=> { x with used:=addL x.used e.s }) else d):=by
    split
    · exact gd_set d i _ (fun _=>rfl) fun _ hd m h1 h2=>hd i m h1 h2
    · exact Gd2.refl d
   unfold termF
   generalize (if e.op=oName then d.set i (fun x=> { x with used:=addL x.used e.s }) else d)=d2 at h1 ⊢
   have hi2:i < d2.fr.length:=Nat.lt_of_lt_of_le hi h1.len
   refine h1.trans ?_
   show Gd2 d2 (if e.op=oLambda then e.l.foldl (fun a e=>termF f e d2.fr.length a) (d2.open_ i e.p) else e.l.foldl (fun a e=>termF f e i a) d2)
   split
   · refine (gd_open d2 i e.p hi2).trans ?_
     refine gd_fold _ e.l (d2.fr.length+1) (fun a e _ hn=>gd_term f e _ a (by omega)) _ (by rw [open_len];exact Nat.le_refl _)
   · exact gd_fold _ e.l (i+1) (fun a e _ hn=>gd_term f e _ a (by omega)) _ (by omega)
theorem gd_said (ps:List (List UInt8)) (i:Nat) (g:Bool) (d:Fd):Gd2 d (saidF d i g ps):=by
 refine gd_fold _ ps 0 (fun d n _ _=> ?_) d (Nat.zero_le _)
 dsimp only
 generalize hb:((d.at_ i).bound.contains n || (d.at_ i).used.contains n || (d.at_ i).glob.contains n || (d.at_ i).nonl.contains n)=b
 have hat:(d.failIf b).at_ i=d.at_ i:=by unfold Fd.at_;rw [fail_fr]
 refine (gd_failIf d b).trans ?_
 show Gd2 (d.failIf b) (if g then (d.failIf b).set i (fun x=> { x with glob:=x.glob ++ [n] }) else (d.failIf b).set i (fun x=> { x with nonl:=x.nonl ++ [n] }))
 split
 · exact gd_set _ i _ (fun _=>rfl) fun _ hd m h1 h2=>hd i m h1 h2
 · refine gd_set _ i _ (fun _=>rfl) fun e hd m h1 h2=> ?_
   rw [hat] at h1 h2
   rcases List.mem_append.1 h2 with h2 | h2
   · have:=hd i m
     rw [show (d.failIf b).fr.getD i dfr=d.at_ i from hat] at this
     exact this h1 h2
   · have hm:m=n:=by simpa using h2
     subst hm
     rw [fail_bad] at e
     have hbt:b=true:=by
      rw [← hb]
      have:(d.at_ i).bound.contains m=true:=by rw [List.contains_eq_mem,decide_eq_true_iff];exact h1
      rw [this];simp
     rw [if_pos hbt] at e
     simp at e
theorem gd_head (s:Stm) (i:Nat) (d:Fd) (hi:i < d.fr.length):Gd2 d (headF s i d):=by
 unfold headF
 dsimp only
 have h1:=gd_stmt d (d.stmt+1)
 refine h1.trans ?_
 generalize hd1:({ d with stmt:=d.stmt+1 }:Fd)=d1
 have hl1:i < d1.fr.length:=by rw [← hd1];exact hi
 have h2:Gd2 d1 (if s.kind=sBreak∨s.kind=sContinue then d1.failIf (decide ((d1.at_ i).loops=0))
  else if s.kind=sReturn then d1.failIf (decide (i=0))
  else if s.kind=sGlobal∨s.kind=sNonlocal then saidF (d1.failIf (decide (i=0))) i (decide (s.kind=sGlobal)) s.p
  else d1):=by
  split
  · exact gd_failIf _ _
  · split
    · exact gd_failIf _ _
    · split
      · exact (gd_failIf _ _).trans (gd_said _ _ _ _)
      · exact Gd2.refl _
 refine h2.trans ?_
 generalize hd2:(if s.kind=sBreak∨s.kind=sContinue then d1.failIf (decide ((d1.at_ i).loops=0))
  else if s.kind=sReturn then d1.failIf (decide (i=0))
  else if s.kind=sGlobal∨s.kind=sNonlocal then saidF (d1.failIf (decide (i=0))) i (decide (s.kind=sGlobal)) s.p
  else d1)=d2 at h2
 have hl2:i < d2.fr.length:=Nat.lt_of_lt_of_le hl1 h2.len
 have h3:Gd2 d2 (s.l.foldl (fun a e=>termF e.nodes e i a) d2):=gd_fold _ s.l (i+1) (fun a e _ hn=>gd_term _ e i a (by omega)) d2 hl2
 refine h3.trans ?_
 generalize s.l.foldl (fun a e=>termF e.nodes e i a) d2=d3
 show Gd2 d3 (if s.kind=sSet∨s.kind=sFor∨s.kind=sDef then d3.bind i s.name else d3)
 split
 · exact gd_bind _ _ _
 · exact Gd2.refl _
theorem gd_block:∀ (f:Nat) (l:List Stm) (i:Nat) (d:Fd),i < d.fr.length→Gd2 d (blockF f l i d)
 | 0,_,_,d,_=>Gd2.refl d
 | f+1,l,i,d,hi=>by
   unfold blockF
   refine gd_fold _ l (i+1) (fun d s _ hn=> ?_) d hi
   have h1:=gd_head s i d hn
   refine h1.trans ?_
   generalize headF s i d=d1 at h1
   have hl1:i < d1.fr.length:=Nat.lt_of_lt_of_le hn h1.len
   show Gd2 d1 (if s.kind=sWhile∨s.kind=sFor then
    (blockF f s.body i (d1.set i fun x=> { x with loops:=x.loops+1 })).set i fun x=> { x with loops:=x.loops - 1 }
    else if s.kind=sDef then blockF f s.body d1.fr.length (d1.open_ i s.p)
    else blockF f s.els i (if s.kind=sTry then (blockF f s.body i d1).bind i s.name else blockF f s.body i d1))
   split
   · have h2:Gd2 d1 (d1.set i fun x=> { x with loops:=x.loops+1 }):=gd_set _ i _ (fun _=>rfl) fun _ hd m h1 h2=>hd i m h1 h2
     refine h2.trans ((gd_block f s.body i _ (Nat.lt_of_lt_of_le hl1 h2.len)).trans ?_)
     exact gd_set _ i _ (fun _=>rfl) fun _ hd m h1 h2=>hd i m h1 h2
   · split
     · exact (gd_open d1 i s.p hl1).trans (gd_block f s.body _ _ (by rw [open_len];omega))
     · have h2:=gd_block f s.body i d1 hl1
       refine h2.trans ?_
       generalize blockF f s.body i d1=d2 at h2
       have hl2:i < d2.fr.length:=Nat.lt_of_lt_of_le hl1 h2.len
       have h3:Gd2 d2 (if s.kind=sTry then d2.bind i s.name else d2):=by
        split
        · exact gd_bind _ _ _
        · exact Gd2.refl _
       exact h3.trans (gd_block f s.els i _ (Nat.lt_of_lt_of_le hl2 h3.len))
theorem firstF_inv (l:List Stm):Inv (firstF l):=by
 unfold firstF
 have h0:Inv (Fd.open_ ⟨[],-1,[]⟩ (-1) []):=by
  refine ⟨⟨by simp [Fd.open_,openP],rfl,fun i h1 h2=> ?_⟩,fun _ i m h1 h2=> ?_⟩
  · simp [Fd.open_,openP] at h2;omega
  · rcases i with _ | i
    · simp [Fd.open_,openP] at h2
    · simp [Fd.open_,openP,dfr] at h2
 exact (gd_block _ l 0 _ (by rw [open_len];omega)).inv h0
theorem ag_fold {α :Type} (f:Ag→ α →Ag) (l:List α) (hf:∀ d a,a ∈ l→(f d a).bad= []→d.bad= []):∀ d,(l.foldl f d).bad= []→d.bad= []:=by
 induction l with
 | nil=>intro d h;exact h
 | cons a r ih=>intro d h;exact hf d a List.mem_cons_self (ih (fun d b hb=>hf d b (List.mem_cons_of_mem _ hb)) _ h)
theorem nonlF_bad (fr:List Fr) (i:Nat) (ps:List (List UInt8)) (a:Ag) (h:(nonlF fr i ps a).bad= []):a.bad= []:=by
 refine ag_fold _ ps (fun d n _ h=> ?_) a h
 split at h
 · simp at h
 · exact h
theorem againF_bad:∀ (f:Nat) (fr:List Fr) (l:List Stm) (i:Nat) (a:Ag),(againF f fr l i a).bad= []→a.bad= []
 | 0,_,_,_,_,h=>h
 | f+1,fr,l,i,a,h=>by
   unfold againF at h
   refine ag_fold _ l (fun d s _ h=> ?_) a h
   dsimp only at h
   split at h
   · have h1:=againF_bad f fr s.body _ _ h
     split at h1
     · have h2:=nonlF_bad _ _ _ _ h1
       exact h2
     · exact h1
   · have h1:=againF_bad f fr s.body _ _ (againF_bad f fr s.els _ _ h)
     split at h1
     · have h2:=nonlF_bad _ _ _ _ h1
       exact h2
     · exact h1
theorem secondF_ok (l:List Stm) (h:(secondF l).bad= []):Arnd (firstF l).fr∧Disj (firstF l).fr:=by
 have hb:(firstF l).bad= []:=againF_bad _ _ _ _ _ h
 exact ⟨(firstF_inv l).arnd,(firstF_inv l).disj hb⟩
theorem owner_le:∀ (f:Nat) (fr:List Fr) (first:Int) (i:Int) (n:List UInt8),Arnd fr→i < fr.length→(ownerGo f fr first i n:Int)≤i∨ownerGo f fr first i n=0
 | 0,_,_,_,_,_,_=> .inr rfl
 | f+1,fr,first,i,n,ha,hi=>by
   unfold ownerGo
   split
   · exact .inr rfl
   · rename_i h0
     dsimp only
     split
     · exact .inr rfl
     · split
       · left;omega
       · have hlt:=ha.lt i.toNat (by omega) (by omega)
         rcases owner_le f fr first (fr.getD i.toNat dfr).around n ha (by omega) with h | h
         · left;omega
         · exact .inr h
theorem getD_modifyL (fs:List (List (List UInt8))) (i j:Nat) (f:List (List UInt8)→List (List UInt8)):(fs.modify i f).getD j []=if i=j∧j < fs.length then f (fs.getD j []) else fs.getD j []:=by
 rw [List.getD_eq_getElem?_getD,List.getD_eq_getElem?_getD,List.getElem?_modify]
 rcases Nat.lt_or_ge j fs.length with h | h
 · rw [List.getElem?_eq_getElem h]
   by_cases e:i=j
   · simp [e,h]
   · simp [e]
 · rw [List.getElem?_eq_none h]
   have:¬ (i=j∧j < fs.length):=by omega
   rw [if_neg this]
   by_cases e:i=j <;> simp [e]
theorem nodup_addL {l:List (List UInt8)} {s:List UInt8} (h:l.Nodup):(addL l s).Nodup:=by
 unfold addL
 split
 · exact h
 · rename_i hc
   rw [List.contains_eq_mem,decide_eq_true_iff] at hc
   rw [List.nodup_append]
   refine ⟨h,by simp,fun a ha b hb=> ?_⟩
   have:b=s:=by simpa using hb
   subst this
   intro e;subst e;exact hc ha
end Go.Proofs.YtdoaeapahgmfoaaGreatDoor
namespace Go.Proofs.YtdoaeapahgmfoaaGreatDoor
open Go.RowKit
def qn (s:List UInt8):List UInt8:=s ++ [113]
theorem qn_inj {a b:List UInt8} (h:qn a=qn b):a=b:=by unfold qn at h;exact List.append_cancel_right h
mutual
def Ex.ren:Ex→Ex
 | .mk op n s p l=> .mk op n (if op=oName then qn s else s) (p.map qn) (exsRen l)
def exsRen:List Ex→List Ex
 | []=> []
 | e :: r=>e.ren :: exsRen r
end
mutual
def Stm.ren:Stm→Stm
 | .mk k n p l b e=> .mk k (if n= [] then [] else qn n) (p.map qn) (exsRen l) (stmsRen b) (stmsRen e)
def stmsRen:List Stm→List Stm
 | []=> []
 | s :: r=>s.ren :: stmsRen r
end
theorem exsRen_map:∀ l:List Ex,exsRen l=l.map Ex.ren
 | []=>rfl
 | e :: r=>by unfold exsRen;rw [exsRen_map r];rfl
theorem stmsRen_map:∀ l:List Stm,stmsRen l=l.map Stm.ren
 | []=>rfl
 | e :: r=>by unfold stmsRen;rw [stmsRen_map r];rfl
theorem Ex.ren_op (e:Ex):e.ren.op=e.op:=by rcases e with ⟨_,_,_,_,_⟩;rfl
theorem Ex.ren_n (e:Ex):e.ren.n=e.n:=by rcases e with ⟨_,_,_,_,_⟩;rfl
theorem Ex.ren_s (e:Ex):e.ren.s=if e.op=oName then qn e.s else e.s:=by rcases e with ⟨_,_,_,_,_⟩;rfl
theorem Ex.ren_p (e:Ex):e.ren.p=e.p.map qn:=by rcases e with ⟨_,_,_,_,_⟩;rfl
theorem Ex.ren_l (e:Ex):e.ren.l=e.l.map Ex.ren:=by rcases e with ⟨_,_,_,_,l⟩;exact exsRen_map l
theorem Stm.ren_kind (e:Stm):e.ren.kind=e.kind:=by rcases e with ⟨_,_,_,_,_,_⟩;rfl
theorem Stm.ren_name (e:Stm):e.ren.name=if e.name= [] then [] else qn e.name:=by rcases e with ⟨_,_,_,_,_,_⟩;rfl
theorem Stm.ren_p (e:Stm):e.ren.p=e.p.map qn:=by rcases e with ⟨_,_,_,_,_,_⟩;rfl
theorem Stm.ren_l (e:Stm):e.ren.l=e.l.map Ex.ren:=by rcases e with ⟨_,_,_,l,_,_⟩;exact exsRen_map l
theorem Stm.ren_body (e:Stm):e.ren.body=stmsRen e.body:=by rcases e with ⟨_,_,_,_,_,_⟩;rfl
theorem Stm.ren_els (e:Stm):e.ren.els=stmsRen e.els:=by rcases e with ⟨_,_,_,_,_,_⟩;rfl
mutual
theorem Ex.ren_nodes:∀ e:Ex,e.ren.nodes=e.nodes
 | .mk _ _ _ _ l=>by unfold Ex.ren Ex.nodes;rw [exsRen_nodes l]
theorem exsRen_nodes:∀ l:List Ex,exsNodes (exsRen l)=exsNodes l
 | []=>rfl
 | e :: r=>by unfold exsRen exsNodes;rw [Ex.ren_nodes e,exsRen_nodes r]
end
mutual
theorem Stm.ren_nodes:∀ e:Stm,e.ren.nodes=e.nodes
 | .mk _ _ _ l b e=>by unfold Stm.ren Stm.nodes;rw [exsRen_nodes l,stmsRen_nodes b,stmsRen_nodes e]
theorem stmsRen_nodes:∀ l:List Stm,stmsNodes (stmsRen l)=stmsNodes l
 | []=>rfl
 | e :: r=>by unfold stmsRen stmsNodes;rw [Stm.ren_nodes e,stmsRen_nodes r]
end
mutual
def Stm.named:Stm→Prop
 | .mk k n _ _ b e=>((k=sSet∨k=sFor∨k=sDef∨k=sTry)→n≠ [])∧((k=sWhile∨k=sFor)→e= [])∧stmsNamed b∧stmsNamed e
def stmsNamed:List Stm→Prop
 | []=>True
 | s :: r=>s.named∧stmsNamed r
end
theorem Stm.named_eq (s:Stm):s.named ↔ ((s.kind=sSet∨s.kind=sFor∨s.kind=sDef∨s.kind=sTry)→s.name≠ [])∧((s.kind=sWhile∨s.kind=sFor)→s.els= [])∧stmsNamed s.body∧stmsNamed s.els:=by rcases s with ⟨_,_,_,_,_,_⟩;unfold Stm.named;exact Iff.rfl
theorem stmsNamed_mem:∀ {l:List Stm} {s:Stm},stmsNamed l→s ∈ l→s.named
 | a :: r,s,h,hm=>by
   unfold stmsNamed at h
   rcases List.mem_cons.1 hm with rfl | hm
   · exact h.1
   · exact stmsNamed_mem h.2 hm
def Fr.ren (x:Fr):Fr:= { x with bound:=x.bound.map qn,used:=x.used.map qn,glob:=x.glob.map qn,nonl:=x.nonl.map qn }
def Fd.ren (d:Fd):Fd:= { d with fr:=d.fr.map Fr.ren }
theorem has_ren (l:List (List UInt8)) (s:List UInt8):(l.map qn).contains (qn s)=l.contains s:=by
 rw [List.contains_eq_mem,List.contains_eq_mem,decide_eq_decide,List.mem_map]
 constructor
 · rintro ⟨a,h,e⟩;rw [← qn_inj e];exact h
 · exact fun h=>⟨s,h,rfl⟩
theorem addL_ren (l:List (List UInt8)) (s:List UInt8):addL (l.map qn) (qn s)=(addL l s).map qn:=by
 unfold addL;rw [has_ren];split <;> simp
theorem frAt_ren (fr:List Fr) (i:Nat):(fr.map Fr.ren).getD i dfr=(fr.getD i dfr).ren:=by
 rw [List.getD_eq_getElem?_getD,List.getD_eq_getElem?_getD,List.getElem?_map]
 rcases fr[i]? with _ | x <;> rfl
theorem at_ren (d:Fd) (i:Nat):d.ren.at_ i=(d.at_ i).ren:=frAt_ren d.fr i
theorem map_modify {α :Type} (l:List α) (i:Nat) (g: α → α) (f f': α → α) (h:∀ x,f' (g x)=g (f x)):(l.map g).modify i f'=(l.modify i f).map g:=by
 apply List.ext_getElem?
 intro j
 rw [List.getElem?_modify,List.getElem?_map,List.getElem?_map,List.getElem?_modify]
 rcases l[j]? with _ | x
 · rfl
 · by_cases e:i=j <;> simp [e,h]
theorem set_ren (d:Fd) (i:Nat) (f f':Fr→Fr) (h:∀ x:Fr,f' x.ren=(f x).ren):d.ren.set i f'=(d.set i f).ren:=by
 unfold Fd.set Fd.ren
 simp only [map_modify _ _ _ f f' h]
theorem failIf_ren (d:Fd) (b:Bool):d.ren.failIf b=(d.failIf b).ren:=by unfold Fd.failIf;split <;> rfl
theorem ren_len (d:Fd):d.ren.fr.length=d.fr.length:=by simp [Fd.ren]
theorem openP_ren:∀ (ps b:List (List UInt8)) (d:Fd),openP d.ren (b.map qn) (ps.map qn)=(openP d b ps).ren
 | [],_,_=>rfl
 | p :: r,b,d=>by
   simp only [List.map_cons]
   unfold openP
   rw [has_ren,failIf_ren,← openP_ren r (b ++ [p])]
   simp
theorem open_ren (d:Fd) (i:Int) (ps:List (List UInt8)):d.ren.open_ i (ps.map qn)=(d.open_ i ps).ren:=by
 unfold Fd.open_
 have h:=openP_ren ps [] d
 simp only [List.map_nil] at h
 rw [h]
 simp [Fd.ren,Fr.ren]
theorem bind_ren (d:Fd) (i:Nat) (n:List UInt8):d.ren.bind i (qn n)=(d.bind i n).ren:=by
 unfold Fd.bind
 rw [at_ren]
 have h1:(d.at_ i).ren.glob.contains (qn n)=(d.at_ i).glob.contains n:=has_ren _ _
 have h2:(d.at_ i).ren.nonl.contains (qn n)=(d.at_ i).nonl.contains n:=has_ren _ _
 rw [h1,h2]
 split
 · rfl
 · exact set_ren _ _ _ _ fun x=>by simp [Fr.ren,addL_ren]
theorem fold_ren {α :Type} (g: α → α) (f f':Fd→ α →Fd) (l:List α) (h:∀ d a,a ∈ l→f' d.ren (g a)=(f d a).ren):∀ d:Fd,(l.map g).foldl f' d.ren=(l.foldl f d).ren:=by
 induction l with
 | nil=>intro d;rfl
 | cons a r ih=>
   intro d
   simp only [List.map_cons,List.foldl_cons]
   rw [h d a List.mem_cons_self]
   exact ih (fun d b hb=>h d b (List.mem_cons_of_mem _ hb)) _
theorem term_ren:∀ (f:Nat) (e:Ex) (i:Nat) (d:Fd),termF f e.ren i d.ren=(termF f e i d).ren
 | 0,_,_,_=>rfl
 | f+1,e,i,d=>by
   unfold termF
   simp only [Ex.ren_op,Ex.ren_s,Ex.ren_l,Ex.ren_p]
   have h1:(if e.op=oName then d.ren.set i (fun x=> { x with used:=addL x.used (if e.op=oName then qn e.s else e.s) }) else d.ren)=(if e.op=oName then d.set i (fun x=> { x with used:=addL x.used e.s }) else d).ren:=by
    by_cases h:e.op=oName
    · simp only [if_pos h]
      exact set_ren _ _ _ _ fun x=>by simp [Fr.ren,addL_ren]
    · simp only [if_neg h]
   rw [h1]
   generalize (if e.op=oName then d.set i (fun x=> { x with used:=addL x.used e.s }) else d)=d2
   split
   · rw [open_ren,ren_len]
     exact fold_ren Ex.ren _ _ e.l (fun d a _=>term_ren f a _ d) _
   · exact fold_ren Ex.ren _ _ e.l (fun d a _=>term_ren f a _ d) _
theorem said_ren (d:Fd) (i:Nat) (g:Bool) (ps:List (List UInt8)):saidF d.ren i g (ps.map qn)=(saidF d i g ps).ren:=by
 unfold saidF
 refine fold_ren qn _ _ ps (fun d n _=> ?_) d
 dsimp only
 rw [at_ren]
 have h1:(d.at_ i).ren.bound.contains (qn n)=(d.at_ i).bound.contains n:=has_ren _ _
 have h2:(d.at_ i).ren.used.contains (qn n)=(d.at_ i).used.contains n:=has_ren _ _
 have h3:(d.at_ i).ren.glob.contains (qn n)=(d.at_ i).glob.contains n:=has_ren _ _
 have h4:(d.at_ i).ren.nonl.contains (qn n)=(d.at_ i).nonl.contains n:=has_ren _ _
 rw [h1,h2,h3,h4,failIf_ren]
 split
 · exact set_ren _ _ _ _ fun x=>by simp [Fr.ren]
 · exact set_ren _ _ _ _ fun x=>by simp [Fr.ren]
theorem stmt_ren (d:Fd) (n:Int):({ d.ren with stmt:=n }:Fd)=({ d with stmt:=n }:Fd).ren:=rfl
theorem head_ren (s:Stm) (hs:s.named) (i:Nat) (d:Fd):headF s.ren i d.ren=(headF s i d).ren:=by
 have hn:=(Stm.named_eq s).1 hs
 unfold headF
 simp only [Stm.ren_kind,Stm.ren_name,Stm.ren_p,Stm.ren_l]
 rw [show d.ren.stmt=d.stmt from rfl,stmt_ren]
 generalize ({ d with stmt:=d.stmt+1 }:Fd)=d1
 have h2:(if s.kind=sBreak∨s.kind=sContinue then d1.ren.failIf (decide ((d1.ren.at_ i).loops=0))
  else if s.kind=sReturn then d1.ren.failIf (decide (i=0))
  else if s.kind=sGlobal∨s.kind=sNonlocal then saidF (d1.ren.failIf (decide (i=0))) i (decide (s.kind=sGlobal)) (s.p.map qn)
  else d1.ren)=(if s.kind=sBreak∨s.kind=sContinue then d1.failIf (decide ((d1.at_ i).loops=0))
  else if s.kind=sReturn then d1.failIf (decide (i=0))
  else if s.kind=sGlobal∨s.kind=sNonlocal then saidF (d1.failIf (decide (i=0))) i (decide (s.kind=sGlobal)) s.p
  else d1).ren:=by
  rw [failIf_ren d1 (decide (i=0)),said_ren,show (d1.ren.at_ i).loops=(d1.at_ i).loops from by rw [at_ren];rfl]
  split
  · exact failIf_ren d1 (decide ((d1.at_ i).loops=0))
  · split
    · rfl
    · split <;> rfl
 rw [h2]
 generalize (if s.kind=sBreak∨s.kind=sContinue then d1.failIf (decide ((d1.at_ i).loops=0))
  else if s.kind=sReturn then d1.failIf (decide (i=0))
  else if s.kind=sGlobal∨s.kind=sNonlocal then saidF (d1.failIf (decide (i=0))) i (decide (s.kind=sGlobal)) s.p
  else d1)=d2
 have h3:(s.l.map Ex.ren).foldl (fun a e=>termF e.nodes e i a) d2.ren=(s.l.foldl (fun a e=>termF e.nodes e i a) d2).ren:=fold_ren Ex.ren _ _ s.l (fun d a _=>by rw [Ex.ren_nodes];exact term_ren _ a i d) d2
 rw [h3]
 split
 · rename_i hk
   have:s.name≠ []:=hn.1 (by rcases hk with h | h | h <;> simp [h])
   rw [if_neg this]
   exact bind_ren _ _ _
 · rfl
theorem block_ren:∀ (f:Nat) (l:List Stm) (i:Nat) (d:Fd),stmsNamed l→blockF f (stmsRen l) i d.ren=(blockF f l i d).ren
 | 0,_,_,_,_=>rfl
 | f+1,l,i,d,hl=>by
   unfold blockF
   rw [stmsRen_map]
   refine fold_ren Stm.ren _ _ l (fun d s hs=> ?_) d
   have hn:=stmsNamed_mem hl hs
   have hn2:=(Stm.named_eq s).1 hn
   dsimp only
   rw [head_ren s hn]
   simp only [Stm.ren_kind,Stm.ren_name,Stm.ren_p,Stm.ren_body,Stm.ren_els]
   generalize headF s i d=d1
   split
   · rw [set_ren d1 i (fun x=> { x with loops:=x.loops+1 }) _ (fun x=>rfl),block_ren f s.body i _ hn2.2.2.1]
     exact set_ren _ _ _ _ fun x=>rfl
   · split
     · rw [open_ren,ren_len]
       exact block_ren f s.body _ _ hn2.2.2.1
     · rw [block_ren f s.body i _ hn2.2.2.1]
       generalize blockF f s.body i d1=d2
       have h3:(if s.kind=sTry then d2.ren.bind i (if s.name= [] then [] else qn s.name) else d2.ren)=(if s.kind=sTry then d2.bind i s.name else d2).ren:=by
        split
        · rename_i hk
          have:s.name≠ []:=hn2.1 (by simp [hk])
          rw [if_neg this]
          exact bind_ren _ _ _
        · rfl
       rw [h3]
       exact block_ren f s.els i _ hn2.2.2.2
theorem firstF_ren (l:List Stm) (hl:stmsNamed l):firstF (stmsRen l)=(firstF l).ren:=by
 unfold firstF
 rw [stmsRen_nodes]
 exact block_ren (stmsNodes l+1) l 0 (Fd.open_ ⟨[],-1,[]⟩ (-1) []) hl
theorem ownerGo_ren:∀ (f:Nat) (fr:List Fr) (first i:Int) (n:List UInt8),ownerGo f (fr.map Fr.ren) first i (qn n)=ownerGo f fr first i n
 | 0,_,_,_,_=>rfl
 | f+1,fr,first,i,n=>by
   unfold ownerGo
   rw [frAt_ren]
   have h1:(fr.getD i.toNat dfr).ren.bound.contains (qn n)=(fr.getD i.toNat dfr).bound.contains n:=has_ren _ _
   have h3:(fr.getD i.toNat dfr).ren.glob.contains (qn n)=(fr.getD i.toNat dfr).glob.contains n:=has_ren _ _
   have h4:(fr.getD i.toNat dfr).ren.nonl.contains (qn n)=(fr.getD i.toNat dfr).nonl.contains n:=has_ren _ _
   have h5:(fr.getD i.toNat dfr).ren.around=(fr.getD i.toNat dfr).around:=rfl
   dsimp only
   rw [h1,h3,h4,h5,ownerGo_ren f]
theorem owner_ren (fr:List Fr) (i:Int) (n:List UInt8):ownerF (fr.map Fr.ren) i (qn n)=ownerF fr i n:=by
 unfold ownerF;rw [List.length_map];exact ownerGo_ren _ _ _ _ _
theorem foldl_map2 {α β :Type} (g: α → α) (f f': β → α → β) (l:List α) (h:∀ b a,a ∈ l→f' b (g a)=f b a):∀ b,(l.map g).foldl f' b=l.foldl f b:=by
 induction l with
 | nil=>intro b;rfl
 | cons a r ih=>
   intro b
   simp only [List.map_cons,List.foldl_cons]
   rw [h b a List.mem_cons_self]
   exact ih (fun d b hb=>h d b (List.mem_cons_of_mem _ hb)) _
theorem lambdas_ren:∀ (f:Nat) (e:Ex) (k:Nat),lambdasF f e.ren k=lambdasF f e k
 | 0,_,_=>rfl
 | f+1,e,k=>by
   unfold lambdasF
   rw [Ex.ren_l,Ex.ren_op]
   exact foldl_map2 Ex.ren _ _ e.l (fun b a _=>lambdas_ren f a b) _
theorem nonl_ren (fr:List Fr) (i:Nat) (ps:List (List UInt8)) (a:Ag):nonlF (fr.map Fr.ren) i (ps.map qn) a=nonlF fr i ps a:=by
 unfold nonlF
 refine foldl_map2 qn _ _ ps (fun b n _=> ?_) a
 rw [frAt_ren,show (fr.getD i dfr).ren.around=(fr.getD i dfr).around from rfl,owner_ren]
theorem again_ren:∀ (f:Nat) (fr:List Fr) (l:List Stm) (i:Nat) (a:Ag),againF f (fr.map Fr.ren) (stmsRen l) i a=againF f fr l i a
 | 0,_,_,_,_=>rfl
 | f+1,fr,l,i,a=>by
   unfold againF
   rw [stmsRen_map]
   refine foldl_map2 Stm.ren _ _ l (fun a s _=> ?_) a
   dsimp only
   simp only [Stm.ren_kind,Stm.ren_p,Stm.ren_body,Stm.ren_els,Stm.ren_l]
   have h1:(s.l.map Ex.ren).foldl (fun k e=>lambdasF e.nodes e k) a.next=s.l.foldl (fun k e=>lambdasF e.nodes e k) a.next:=foldl_map2 Ex.ren _ _ s.l (fun b a _=>by rw [Ex.ren_nodes];exact lambdas_ren _ a b) _
   rw [h1,nonl_ren]
   split
   · exact again_ren f fr s.body _ _
   · rw [again_ren f fr s.body,again_ren f fr s.els]
theorem secondF_ren (l:List Stm) (hl:stmsNamed l):secondF (stmsRen l)=secondF l:=by
 unfold secondF
 rw [stmsRen_nodes,firstF_ren l hl]
 exact again_ren _ _ l 0 _
def CF.ren (c:CF):CF:=⟨c.cells.map (·.map qn),c.frees.map (·.map qn)⟩
theorem chain_ren:∀ (f:Nat) (fr:List Fr) (k own:Nat) (n:List UInt8) (fs:List (List (List UInt8))),chainF f (fr.map Fr.ren) k own (qn n) (fs.map (·.map qn))=(chainF f fr k own n fs).map (·.map qn)
 | 0,_,_,_,_,_=>rfl
 | f+1,fr,k,own,n,fs=>by
   unfold chainF
   split
   · rfl
   · rw [frAt_ren,show (fr.getD k dfr).ren.around=(fr.getD k dfr).around from rfl,map_modify fs k (·.map qn) (addL · n) (addL · (qn n)) (fun x=>addL_ren x n)]
     exact chain_ren f fr _ own n _
theorem use_ren (fr:List Fr) (i:Nat) (c:CF) (n:List UInt8):useF (fr.map Fr.ren) i c.ren (qn n)=(useF fr i c n).ren:=by
 unfold useF
 dsimp only
 rw [owner_ren]
 split
 · rfl
 · unfold CF.ren
   rw [List.length_map,chain_ren,map_modify c.cells _ (·.map qn) (addL · n) (addL · (qn n)) (fun x=>addL_ren x n)]
theorem foldC_ren {α :Type} (g: α → α) (f f':CF→ α →CF) (l:List α) (h:∀ d a,a ∈ l→f' d.ren (g a)=(f d a).ren):∀ d:CF,(l.map g).foldl f' d.ren=(l.foldl f d).ren:=by
 induction l with
 | nil=>intro d;rfl
 | cons a r ih=>
   intro d
   simp only [List.map_cons,List.foldl_cons]
   rw [h d a List.mem_cons_self]
   exact ih (fun d b hb=>h d b (List.mem_cons_of_mem _ hb)) _
theorem uses_ren (fr:List Fr):usesF (fr.map Fr.ren)=(usesF fr).ren:=by
 have h0:(⟨List.replicate fr.length [],List.replicate fr.length []⟩:CF).ren=⟨List.replicate fr.length [],List.replicate fr.length []⟩:=by simp [CF.ren]
 have h:=foldC_ren (fun i:Nat=>i) (fun c i=>((fr.getD i dfr).used ++ (fr.getD i dfr).nonl).foldl (useF fr i) c) (fun c i=>(((fr.map Fr.ren).getD i dfr).used ++ ((fr.map Fr.ren).getD i dfr).nonl).foldl (useF (fr.map Fr.ren) i) c) (List.range fr.length) (fun c i _=>by
  rw [frAt_ren,show (fr.getD i dfr).ren.used ++ (fr.getD i dfr).ren.nonl=((fr.getD i dfr).used ++ (fr.getD i dfr).nonl).map qn by simp [Fr.ren]]
  exact foldC_ren qn _ _ _ (fun c n _=>use_ren fr i c n) c) ⟨List.replicate fr.length [],List.replicate fr.length []⟩
 rw [h0,List.map_id'] at h
 unfold usesF
 rw [List.length_map]
 exact h
end Go.Proofs.YtdoaeapahgmfoaaGreatDoor
