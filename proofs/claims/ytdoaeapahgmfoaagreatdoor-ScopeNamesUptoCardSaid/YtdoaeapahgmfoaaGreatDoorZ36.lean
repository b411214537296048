/- How many scopes a program opens: both passes open alike, so each scope that the second pass looks at is there. -/
import Derived.Test.YtdoaeapahgmfoaaGreatDoorZ24
namespace Go.Proofs.YtdoaeapahgmfoaaGreatDoor
open Go.RowKit
mutual
def Ex.opens:Ex→Nat
 | .mk op _ _ _ l=>(if op=oLambda then 1 else 0)+exsOpens l
def exsOpens:List Ex→Nat
 | []=>0
 | e :: r=>e.opens+exsOpens r
end
mutual
def Stm.opens:Stm→Nat
 | .mk k _ _ l b e=>exsOpens l+(if k=sDef then 1+stmsOpens b else stmsOpens b+stmsOpens e)
def stmsOpens:List Stm→Nat
 | []=>0
 | s :: r=>s.opens+stmsOpens r
end
theorem Ex.opens_eq (e:Ex):e.opens=(if e.op=oLambda then 1 else 0)+exsOpens e.l:=by rcases e with ⟨_,_,_,_,_⟩;rfl
theorem Stm.opens_eq (s:Stm):s.opens=exsOpens s.l+(if s.kind=sDef then 1+stmsOpens s.body else stmsOpens s.body+stmsOpens s.els):=by rcases s with ⟨_,_,_,_,_,_⟩;rfl
theorem exNodes_mem {l:List Ex} {e:Ex} (h:e ∈ l):e.nodes≤exsNodes l:=by
 induction l with
 | nil=>cases h
 | cons a r ih=>
   simp only [exsNodes]
   rcases List.mem_cons.1 h with rfl | h
   · omega
   · have:=ih h;omega
theorem stmNodes_mem {l:List Stm} {s:Stm} (h:s ∈ l):s.nodes≤stmsNodes l:=by
 induction l with
 | nil=>cases h
 | cons a r ih=>
   simp only [stmsNodes]
   rcases List.mem_cons.1 h with rfl | h
   · omega
   · have:=ih h;omega
theorem Ex.nodes_ls (e:Ex):e.nodes=1+exsNodes e.l:=by rcases e with ⟨_,_,_,_,_⟩;rfl
theorem Stm.nodes_ls (e:Stm):e.nodes=1+exsNodes e.l+stmsNodes e.body+stmsNodes e.els:=by rcases e with ⟨_,_,_,_,_,_⟩;rfl
theorem opens_exs {β :Type} (m: β →Nat) (f: β →Ex→ β):∀ (l:List Ex) (_:∀ e ∈ l,∀ d,m (f d e)=m d+e.opens) (d: β),m (l.foldl f d)=m d+exsOpens l
 | [],_,d=>rfl
 | e :: r,h,d=>by
   simp only [List.foldl_cons,exsOpens]
   rw [opens_exs m f r (fun a ha=>h a (List.mem_cons_of_mem _ ha)),h e List.mem_cons_self]
   omega
theorem opens_stms {β :Type} (m: β →Nat) (f: β →Stm→ β):∀ (l:List Stm) (_:∀ e ∈ l,∀ d,m (f d e)=m d+e.opens) (d: β),m (l.foldl f d)=m d+stmsOpens l
 | [],_,d=>rfl
 | e :: r,h,d=>by
   simp only [List.foldl_cons,stmsOpens]
   rw [opens_stms m f r (fun a ha=>h a (List.mem_cons_of_mem _ ha)),h e List.mem_cons_self]
   omega
theorem set_len (d:Fd) (i:Nat) (f:Fr→Fr):(d.set i f).fr.length=d.fr.length:=by simp [Fd.set]
theorem lambdas_opens:∀ (f:Nat) (e:Ex) (k:Nat),e.nodes≤f→lambdasF f e k=k+e.opens
 | 0,e,_,h=>by have:=Ex.nodes_ls e;omega
 | f+1,e,k,h=>by
   have hn:=Ex.nodes_ls e
   unfold lambdasF
   have h1:∀ k,e.l.foldl (fun k e=>lambdasF f e k) k=k+exsOpens e.l:=fun k=>opens_exs id (fun k e=>lambdasF f e k) e.l (fun a ha k=>lambdas_opens f a k (by have:=exNodes_mem ha;omega)) k
   rw [h1,Ex.opens_eq]
   split <;> omega
theorem term_opens:∀ (f:Nat) (e:Ex) (i:Nat) (d:Fd),e.nodes≤f→(termF f e i d).fr.length=d.fr.length+e.opens
 | 0,e,_,_,h=>by have:=Ex.nodes_ls e;omega
 | f+1,e,i,d,h=>by
   have hn:=Ex.nodes_ls e
   unfold termF
   dsimp only
   have h1:(if e.op=oName then d.set i (fun x=> { x with used:=addL x.used e.s }) else d).fr.length=d.fr.length:=by
    split
    · exact set_len _ _ _
    · rfl
   generalize (if e.op=oName then d.set i (fun x=> { x with used:=addL x.used e.s }) else d)=d1 at h1 ⊢
   rw [Ex.opens_eq]
   split
   · rw [opens_exs (fun d:Fd=>d.fr.length) _ e.l (fun a ha d=>term_opens f a _ d (by have:=exNodes_mem ha;omega)),open_len,h1]
     omega
   · rw [opens_exs (fun d:Fd=>d.fr.length) _ e.l (fun a ha d=>term_opens f a _ d (by have:=exNodes_mem ha;omega)),h1]
     omega
theorem bind_len (d:Fd) (i:Nat) (n:List UInt8):(d.bind i n).fr.length=d.fr.length:=by
 unfold Fd.bind
 split
 · rfl
 · exact set_len _ _ _
theorem said_len (i:Nat) (g:Bool):∀ (ps:List (List UInt8)) (d:Fd),(saidF d i g ps).fr.length=d.fr.length
 | [],_=>rfl
 | n :: r,d=>by
   unfold saidF
   simp only [List.foldl_cons]
   refine (said_len i g r _).trans ?_
   split <;> rw [set_len,fail_fr]
theorem head_opens (s:Stm) (i:Nat) (d:Fd):(headF s i d).fr.length=d.fr.length+exsOpens s.l:=by
 unfold headF
 dsimp only
 have h0:({ d with stmt:=d.stmt+1 }:Fd).fr.length=d.fr.length:=rfl
 generalize ({ d with stmt:=d.stmt+1 }:Fd)=d0 at h0 ⊢
 have h1:(if s.kind=sBreak∨s.kind=sContinue then d0.failIf (decide ((d0.at_ i).loops=0))
  else if s.kind=sReturn then d0.failIf (decide (i=0))
  else if s.kind=sGlobal∨s.kind=sNonlocal then saidF (d0.failIf (decide (i=0))) i (decide (s.kind=sGlobal)) s.p
  else d0).fr.length=d0.fr.length:=by
  split
  · rw [fail_fr]
  · split
    · rw [fail_fr]
    · split
      · rw [said_len,fail_fr]
      · rfl
 generalize (if s.kind=sBreak∨s.kind=sContinue then d0.failIf (decide ((d0.at_ i).loops=0))
  else if s.kind=sReturn then d0.failIf (decide (i=0))
  else if s.kind=sGlobal∨s.kind=sNonlocal then saidF (d0.failIf (decide (i=0))) i (decide (s.kind=sGlobal)) s.p
  else d0)=d1 at h1 ⊢
 have h2:(s.l.foldl (fun a e=>termF e.nodes e i a) d1).fr.length=d1.fr.length+exsOpens s.l:=opens_exs (fun d:Fd=>d.fr.length) (fun a e=>termF e.nodes e i a) s.l (fun a _ d=>term_opens _ a i d (Nat.le_refl _)) d1
 split
 · rw [bind_len,h2];omega
 · rw [h2];omega
theorem block_opens:∀ (f:Nat) (l:List Stm) (i:Nat) (d:Fd),stmsNodes l < f→stmsNamed l→(blockF f l i d).fr.length=d.fr.length+stmsOpens l
 | 0,_,_,_,h,_=>by omega
 | f+1,l,i,d,h,hl=>by
   unfold blockF
   refine opens_stms (fun d:Fd=>d.fr.length) _ l (fun s hs d=> ?_) d
   have hn:=Stm.nodes_ls s
   have hm:=stmNodes_mem hs
   have hnm:=(Stm.named_eq s).1 (stmsNamed_mem hl hs)
   have hh:=head_opens s i d
   dsimp only
   generalize headF s i d=d1 at hh ⊢
   rw [Stm.opens_eq]
   split
   · rename_i hk
     have hd:¬ s.kind=sDef:=by rcases hk with h | h <;> rw [h] <;> decide
     rw [if_neg hd,set_len,block_opens f s.body i _ (by omega) hnm.2.2.1,set_len,hnm.2.1 hk,hh]
     simp only [stmsOpens];omega
   · split
     · rw [block_opens f s.body _ _ (by omega) hnm.2.2.1,open_len,hh];omega
     · rw [block_opens f s.els i _ (by omega) hnm.2.2.2]
       have h3:(if s.kind=sTry then (blockF f s.body i d1).bind i s.name else blockF f s.body i d1).fr.length=(blockF f s.body i d1).fr.length:=by
        split
        · exact bind_len _ _ _
        · rfl
       rw [h3,block_opens f s.body i _ (by omega) hnm.2.2.1,hh];omega
theorem nonl_next (fr:List Fr) (i:Nat):∀ (ps:List (List UInt8)) (a:Ag),(nonlF fr i ps a).next=a.next∧(nonlF fr i ps a).stmt=a.stmt
 | [],_=>⟨rfl,rfl⟩
 | n :: r,a=>by
   unfold nonlF
   simp only [List.foldl_cons]
   refine ⟨(nonl_next fr i r _).1.trans ?_,(nonl_next fr i r _).2.trans ?_⟩ <;> split <;> rfl
theorem again_opens:∀ (f:Nat) (fr:List Fr) (l:List Stm) (i:Nat) (a:Ag),stmsNodes l < f→(againF f fr l i a).next=a.next+stmsOpens l
 | 0,_,_,_,_,h=>by omega
 | f+1,fr,l,i,a,h=>by
   unfold againF
   refine opens_stms (fun a:Ag=>a.next) _ l (fun s hs a=> ?_) a
   have hn:=Stm.nodes_ls s
   have hm:=stmNodes_mem hs
   dsimp only
   have h1:s.l.foldl (fun k e=>lambdasF e.nodes e k) a.next=a.next+exsOpens s.l:=opens_exs id (fun k e=>lambdasF e.nodes e k) s.l (fun e _ k=>lambdas_opens _ e k (Nat.le_refl _)) a.next
   rw [h1]
   have h2:(if s.kind=sNonlocal then nonlF fr i s.p ⟨a.stmt+1,a.next+exsOpens s.l,a.bad⟩ else ⟨a.stmt+1,a.next+exsOpens s.l,a.bad⟩).next=a.next+exsOpens s.l:=by
    split
    · exact (nonl_next _ _ _ _).1
    · rfl
   generalize (if s.kind=sNonlocal then nonlF fr i s.p ⟨a.stmt+1,a.next+exsOpens s.l,a.bad⟩ else ⟨a.stmt+1,a.next+exsOpens s.l,a.bad⟩)=a1 at h2 ⊢
   rw [Stm.opens_eq]
   split
   · rw [again_opens f fr s.body _ _ (by omega)]
     dsimp only
     omega
   · rw [again_opens f fr s.els _ _ (by omega),again_opens f fr s.body _ _ (by omega)]
     omega
theorem firstF_len (l:List Stm) (h:stmsNamed l):(firstF l).fr.length=1+stmsOpens l:=by
 unfold firstF
 rw [block_opens _ l 0 _ (Nat.lt_succ_self _) h,open_len]
 rfl
end Go.Proofs.YtdoaeapahgmfoaaGreatDoor
