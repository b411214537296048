/- tree.bare: has a term nothing beside what its op names? -/
import Derived.Test.YtdoaeapahgmfoaaGreatDoorZ10
namespace Go.Proofs.YtdoaeapahgmfoaaGreatDoor
open Go.RowKit
def partsV:Option Nat→Int
 | none=> -1
 | some k=>(k:Int)
theorem bare_eq (e:Ex) (n s p:Bool) (q:Option Nat):
 bareL e n s p q=((((if n then true else e.n == 0) && (if s then true else (toBA e.s).toList == [])) && (if p then true else ((e.p.length:Int) == 0))) && (if decide (partsV q < 0) then true else ((e.l.length:Int) == partsV q))):=by
 have h2:((toBA e.s).toList == [])=decide (e.s= []):=by
  rw [m_toList]
  rcases e.s with _ | ⟨a,r⟩ <;> simp
 have h3:((e.p.length:Int) == 0)=decide (e.p= []):=by
  rcases e.p with _ | ⟨a,r⟩
  · simp
  · simp;omega
 have h1:(e.n == 0)=decide (e.n=0):=rfl
 have h4:(if decide (partsV q < 0) then true else ((e.l.length:Int) == partsV q))=(match q with | none=>true | some k=>decide (e.l.length=k)):=by
  rcases q with _ | k
  · rfl
  · have:¬ ((k:Int) < 0):=by omega
    simp only [partsV,this,decide_false,Bool.false_eq_true,if_false]
    rcases h:decide (e.l.length=k) with _ | _
    · rw [beq_eq_false_iff_ne];rw [decide_eq_false_iff_not] at h;omega
    · rw [beq_iff_eq];rw [decide_eq_true_eq] at h;omega
 rw [h1,h2,h3,h4]
 unfold bareL
 rcases n <;> rcases s <;> rcases p <;> rfl
set_option maxRecDepth 100000 in
set_option maxHeartbeats 20000000 in
theorem bare_any (w:World) (e:Ex) (ap al:Option Addr) (cp cl:Nat) (n s p:Bool) (q:Option Nat):
 Calls Tryz.prog 105 #[exV e (.slice ap e.p.length cp) (.slice al e.l.length cl),.bool n,.bool s,.bool p,.int .i64 (partsV q)] w fun r w'=>r= .returned (.bool (bareL e n s p q))∧Below w.heap.size w w':=by
 rw [bare_eq]
 unfold exV
 have hblk:=heap_alloc_new w (.cells #[.string (toBA e.s),.int .i64 e.n,.string (toBA e.s),.slice ap e.p.length cp,.slice al e.l.length cl] 140)
 have hbA:Below w.heap.size w (w.alloc (.cells #[.string (toBA e.op),.int .i64 e.n,.string (toBA e.s),.slice ap e.p.length cp,.slice al e.l.length cl] 140)):=(Below.refl _ _).alloc (Nat.le_refl _) _
 clear hblk
 generalize hP:partsV q=P
 clear hP
 generalize toBA e.s=S at hbA ⊢
 generalize toBA e.op=O at hbA ⊢
 generalize e.n=nn at hbA ⊢
 generalize e.p.length=pl at hbA ⊢
 generalize e.l.length=ll at hbA ⊢
 rcases h1:(nn == 0) with _ | _ <;> rcases h2:(S.toList == []) with _ | _ <;> rcases h3:((pl:Int) == 0) with _ | _ <;> rcases h4:((ll:Int) == P) with _ | _ <;> rcases h5:decide (P < 0) with _ | _ <;> rcases n <;> rcases s <;> rcases p <;>
 · go_enter Tryz.func105,Tryz.ntmps105
   go_wp2_with fail
   refine bodyPost_ret (results_tmp rfl _ _ _) rfl ?_
   exact ⟨rfl,hbA⟩
end Go.Proofs.YtdoaeapahgmfoaaGreatDoor
