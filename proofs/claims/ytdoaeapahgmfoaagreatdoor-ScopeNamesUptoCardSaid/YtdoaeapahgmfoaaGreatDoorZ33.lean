/- finder.term: what it is given; the loop over a term's terms. finder.term: neither a name nor a lambda. finder.term: a lambda. A region that draws its order, whose last operation may break what the loads read: S is asked behind each operation but the last. -/
import Derived.Deep.RegionHeld3
import Derived.OrdersHeld
import Derived.Test.YtdoaeapahgmfoaaGreatDoorZ14
import Derived.Test.YtdoaeapahgmfoaaGreatDoorZ24
import Derived.Test.YtdoaeapahgmfoaaGreatDoorZ32
namespace Go.Proofs.YtdoaeapahgmfoaaGreatDoor
open Go.RowKit
def FTermC (f:Nat):Prop:=∀ (e:Ex) (i:Nat) (w:World) (x B m N:Nat) (c:Clr) (d:Fd) (vl vb vp vz:Value) (ys:List Nat) (vss:Nat→Nat→Value),e.nodes≤f→FdC w x c B d m vl vb ys vss→m=d.fr.length→i < m→Sm d N→N+8 * e.bulk≤16000000→B≤w.heap.size→
 StrsAt w (Un w c) vp e.p→ExsAt w (Un w c) vz e.l→
 Calls Tryz.prog 111 #[.pointer (some ⟨x,0,none⟩),.int .i64 (i:Int),.agg #[.string (toBA e.op),.int .i64 e.n,.string (toBA e.s),vp,vz]] w (FdPost w x B c (termF f e i d) (.tuple #[]))
theorem fold_take {α β :Type} (g: β → α → β) (l:List α) (d: β) (j:Nat) (hj:j < l.length):(l.take (j+1)).foldl g d=g ((l.take j).foldl g d) l[j]:=by
 rw [List.take_succ_eq_append_getElem hj,List.foldl_append];rfl
theorem terms_len (f i:Nat):∀ (l:List Ex) (d:Fd),i < d.fr.length→d.fr.length≤(l.foldl (fun a e=>termF f e i a) d).fr.length
 | [],_,_=>Nat.le_refl _
 | e :: r,d,h=>by
   have h1:=(gd_term f e i d h).len
   simp only [List.foldl_cons]
   exact Nat.le_trans h1 (terms_len f i r _ (Nat.lt_of_lt_of_le h h1))
theorem sm_terms (f i:Nat) (l:List Ex) (N:Nat) (d:Fd) (h:Sm d N):Sm (l.foldl (fun a e=>termF f e i a) d) (N+8 * exsBulk l):=sm_exs _ l (fun a _ N d h=>sm_term f a i N d h) N d h
end Go.Proofs.YtdoaeapahgmfoaaGreatDoor
namespace Go.Proofs.YtdoaeapahgmfoaaGreatDoor
open Go.RowKit
set_option maxRecDepth 100000 in
set_option maxHeartbeats 16000000 in
theorem fterm_other {f:Nat} (hf:FTermC f) (e:Ex) (i:Nat) (w:World) (x B m N:Nat) (c:Clr) (d:Fd) (vl vb vp vz:Value) (ys:List Nat) (vss:Nat→Nat→Value) (hnd:e.nodes≤f+1) (h:FdC w x c B d m vl vb ys vss) (hm:m=d.fr.length) (hi:i < m) (hN:Sm d N) (hN2:N+8 * e.bulk≤16000000) (hB:B≤w.heap.size)
 (hp:StrsAt w (Un w c) vp e.p) (hx:ExsAt w (Un w c) vz e.l) (h1:¬ e.op=oName) (h2:¬ e.op=oLambda):
 Calls Tryz.prog 111 #[.pointer (some ⟨x,0,none⟩),.int .i64 (i:Int),.agg #[.string (toBA e.op),.int .i64 e.n,.string (toBA e.s),vp,vz]] w (FdPost w x B c (termF (f+1) e i d) (.tuple #[])):=by
 obtain ⟨ap,cp,rfl,hpcap,hpr⟩:=id hp
 obtain ⟨al,cl,rfl,hlcap,hlr⟩:=id hx
 have hbA:=(Below.refl w.heap.size w).alloc (Nat.le_refl _) (.cells #[.string (toBA e.op),.int .i64 e.n,.string (toBA e.s),.slice ap e.p.length cp,.slice al e.l.length cl] 140)
 obtain ⟨hFA,sA⟩:=h.grow hbA
 have hne:=Ex.nodes_l e
 have hbe:=Ex.bulk_eq e
 have hblk:=heap_alloc_new w (.cells #[.string (toBA e.op),.int .i64 e.n,.string (toBA e.s),.slice ap e.p.length cp,.slice al e.l.length cl] 140)
 have hbU:Un (w.alloc (.cells #[.string (toBA e.op),.int .i64 e.n,.string (toBA e.s),.slice ap e.p.length cp,.slice al e.l.length cl] 140)) c w.heap.size:=⟨by simp,h.fresh (Nat.le_refl _)⟩
 have hel:e.l.length≤exsBulk e.l:=exsBulk_len e.l
 have hT:termF (f+1) e i d=e.l.foldl (fun a e=>termF f e i a) d:=by
  show (if e.op=oLambda then _ else _)=_
  rw [if_neg h2,if_neg h1]
 have u1:((toBA e.op).toList == [110,97,109,101])=false:=m_ne h1
 have u2:((toBA e.op).toList == [108,97,109,98,100,97])=false:=m_ne h2
 have c0:=cell_of_blk (o:=0) hblk
 have c4:=cell_of_blk (o:=4) hblk
 obtain ⟨N0,hN0⟩:∃ N0,N0=N:=⟨_,rfl⟩
 rw [← hN0] at hN hN2
 rw [hm] at hFA
 have HF0:=Lib.hid hFA;have HS0:=Lib.hid sA;have HI0:=Lib.hid (hm ▸ hi:i < d.fr.length);have HN0:=Lib.hid hN;have Hrow:=Lib.hid hlr;have Hf:=Lib.hid hf;have Hnd:=Lib.hid (show exsNodes e.l≤f by omega);have HT:=Lib.hid hT
 clear hFA sA hN hlr hf hT hpr hblk hbU hbA h hp hx h1 h2 hm hi hN0
 go_enter Tryz.func111,Tryz.ntmps111
 go_wp2_with fail
 skip
 go_loopw [44] (fun t wr=>∃ (j:Nat) (c1:Clr) (vl1 vb1:Value) (ys1:List Nat) (vss1:Nat→Nat→Value),j≤e.l.length∧t= .int .i64 j∧FdC wr x c1 B ((e.l.take j).foldl (fun a e=>termF f e i a) d) ((e.l.take j).foldl (fun a e=>termF f e i a) d).fr.length vl1 vb1 ys1 vss1∧FStp c c1 w wr) (fun t _=>e.l.length - (intOf t).toNat)
 case atStart=>exact ⟨0,_,_,_,_,_,by omega,rfl,HF0.out,HS0.out⟩
 case round=>
  obtain ⟨j,c1,vl1,vb1,ys1,vss1,hj,rfl,hF,sS⟩:=hrel
  by_cases hjl:j < e.l.length
  · have t1:decide ((j:Int) < (e.l.length:Int))=true:=by simp;omega
    obtain ⟨b,o,rfl,hbU,hrow⟩:=Hrow.out (by omega)
    obtain ⟨vp1,vz1,q0,q1,q2,q3,q4,hp1,hx1⟩:=(hrow.at_ _ _ _ j hjl).open_
    have Hp1:=Lib.hid hp1;have Hx1:=Lib.hid hx1
    obtain ⟨ap1,cp1,rfl,_⟩:=hp1
    obtain ⟨al1,cl1,rfl,_⟩:=hx1
    have q0:=(sS.cell hbU).trans q0
    have q1:=(sS.cell hbU).trans q1
    have q2:=(sS.cell hbU).trans q2
    have q3:=(sS.cell hbU).trans q3
    have q4:=(sS.cell hbU).trans q4
    have hbA:=(Below.refl wr.heap.size wr).alloc (Nat.le_refl _) (.cells #[.string (toBA e.l[j].op),.int .i64 e.l[j].n,.string (toBA e.l[j].s),.slice ap1 e.l[j].p.length cp1,.slice al1 e.l[j].l.length cl1] 140)
    obtain ⟨hFA,sA⟩:=hF.grow hbA
    have hsA:=sS.trans sA
    have hm:=exs_mem (List.getElem_mem hjl)
    have hbt:=exsBulk_take e.l j hjl
    have hbl:exsBulk (e.l.take (j+1))≤exsBulk e.l:=exsBulk_le _ _
    have hsm:=sm_terms f i (e.l.take j) N0 d HN0.out
    have hln:=terms_len f i (e.l.take j) d HI0.out
    have hcall:=Hf.out e.l[j] i _ x B _ _ c1 _ vl1 vb1 _ _ ys1 vss1 (by have:=Hnd.out;omega) hFA rfl (Nat.lt_of_lt_of_le HI0.out hln) hsm (by omega) (by have:=hsA.size;omega) (hsA.strs Hp1.out) (hsA.exs Hx1.out)
    rw [← fold_take (fun a e=>termF f e i a) e.l d j hjl] at hcall
    have Hcall:=Lib.hid hcall;have HsA:=Lib.hid hsA
    clear hcall hsA hFA sA hF sS hrow hm hbt hbl hsm hln hbA
    go_wp2_with fail
    refine Hcall.out.mono ?_
    rintro _ w2 ⟨rfl,c2,vl2,vb2,ys2,vss2,hF2,s2⟩
    have HF2:=Lib.hid hF2;have HS2:=Lib.hid (HsA.out.trans s2)
    clear hF2 s2 Hcall q0 q1 q2 q3 q4
    go_wp2_with fail
    go_roundw
    case rel=>exact ⟨j+1,c2,vl2,vb2,ys2,vss2,by omega,by go_num,HF2.out,HS2.out⟩
    case measure=>simp [intOf];omega
  · have t1:decide ((j:Int) < (e.l.length:Int))=false:=by simp;omega
    obtain rfl:j=e.l.length:=by omega
    rw [List.take_of_length_le (Nat.le_refl _)] at hF
    have HFe:=Lib.hid hF;have HSe:=Lib.hid sS
    clear hF sS
    go_wp2_with fail
    go_end0
    refine ⟨rfl,c1,vl1,vb1,ys1,vss1,?_,HSe.out⟩
    rw [HT.out]
    exact HFe.out
end Go.Proofs.YtdoaeapahgmfoaaGreatDoor
namespace Go.Proofs.YtdoaeapahgmfoaaGreatDoor
open Go.RowKit
theorem open_len' (d:Fd) (a:Int) (ps:List (List UInt8)):(d.open_ a ps).fr.length=d.fr.length+1:=by rw [← openD_all,openD_len]
set_option maxRecDepth 100000 in
set_option maxHeartbeats 16000000 in
theorem fterm_lambda {f:Nat} (hf:FTermC f) (e:Ex) (i:Nat) (w:World) (x B m N:Nat) (c:Clr) (d:Fd) (vl vb vp vz:Value) (ys:List Nat) (vss:Nat→Nat→Value) (hnd:e.nodes≤f+1) (h:FdC w x c B d m vl vb ys vss) (hm:m=d.fr.length) (hi:i < m) (hN:Sm d N) (hN2:N+8 * e.bulk≤16000000) (hB:B≤w.heap.size)
 (hp:StrsAt w (Un w c) vp e.p) (hx:ExsAt w (Un w c) vz e.l) (h2:e.op=oLambda):
 Calls Tryz.prog 111 #[.pointer (some ⟨x,0,none⟩),.int .i64 (i:Int),.agg #[.string (toBA e.op),.int .i64 e.n,.string (toBA e.s),vp,vz]] w (FdPost w x B c (termF (f+1) e i d) (.tuple #[])):=by
 subst hm
 obtain ⟨ap,cp,rfl,hpcap,hpr⟩:=id hp
 obtain ⟨al,cl,rfl,hlcap,hlr⟩:=id hx
 have hbA:=(Below.refl w.heap.size w).alloc (Nat.le_refl _) (.cells #[.string (toBA e.op),.int .i64 e.n,.string (toBA e.s),.slice ap e.p.length cp,.slice al e.l.length cl] 140)
 obtain ⟨hFA,sA⟩:=h.grow hbA
 have hne:=Ex.nodes_l e
 have hbe:=Ex.bulk_eq e
 have hblk:=heap_alloc_new w (.cells #[.string (toBA e.op),.int .i64 e.n,.string (toBA e.s),.slice ap e.p.length cp,.slice al e.l.length cl] 140)
 have hbU:Un (w.alloc (.cells #[.string (toBA e.op),.int .i64 e.n,.string (toBA e.s),.slice ap e.p.length cp,.slice al e.l.length cl] 140)) c w.heap.size:=⟨by simp,h.fresh (Nat.le_refl _)⟩
 have hel:e.l.length≤exsBulk e.l:=exsBulk_len e.l
 have hpl:=strsBulk_len e.p
 have h1:¬ e.op=oName:=by rw [h2];decide
 have hT:termF (f+1) e i d=e.l.foldl (fun a e=>termF f e d.fr.length a) (d.open_ (i:Int) e.p):=by
  show (if e.op=oLambda then _ else _)=_
  rw [if_pos h2,if_neg h1]
 have u1:=m_ne (a:=e.op) (b:= [110,97,109,101]) h1
 have u2:((toBA e.op).toList == [108,97,109,98,100,97])=true:=by rw [m_toList];simp [h2,oLambda]
 have c0:=cell_of_blk (o:=0) hblk
 have c3:=cell_of_blk (o:=3) hblk
 have hop:=open_any hFA rfl ⟨#[108,97,109,98,100,97]⟩ (i:Int) e.p _ (sA.strs hp) (by omega) hN (by omega) (by have:=sA.size;omega)
 have Hop:=Lib.hid hop;have HA:=Lib.hid sA;have HbU:=Lib.hid hbU;have Hblk:=Lib.hid hblk
 obtain ⟨N0,hN0⟩:∃ N0,Sm (d.open_ (i:Int) e.p) N0∧N0+8 * exsBulk e.l≤16000000:=⟨_,hN.open_ (i:Int) e.p,by omega⟩
 obtain ⟨hN0,hNb⟩:=hN0
 have HI0:=Lib.hid (show d.fr.length < (d.open_ (i:Int) e.p).fr.length by rw [open_len'];omega);have HN0:=Lib.hid hN0;have Hrow:=Lib.hid hlr;have Hf:=Lib.hid hf;have Hnd:=Lib.hid (show exsNodes e.l≤f by omega);have HT:=Lib.hid hT
 clear hFA sA hN hN2 hlr hf hT hpr hblk hbU hbA h hp hx h1 h2 hN0 hop
 go_enter Tryz.func111,Tryz.ntmps111
 go_wp2_with fail
 refine Hop.out.mono ?_
 rintro _ w1 ⟨rfl,cS,vlS,vbS,ysS,vssS,hF1,s1⟩
 have c4:=(s1.cell (o:=4) HbU.out).trans (cell_of_blk (o:=4) Hblk.out)
 have HF0:=Lib.hid hF1;have HS0:=Lib.hid (HA.out.trans s1)
 clear hF1 s1 Hop HA HbU Hblk c0 c3
 go_wp2_with fail
 skip
 go_loopw [44] (fun t wr=>∃ (j:Nat) (c1:Clr) (vl1 vb1:Value) (ys1:List Nat) (vss1:Nat→Nat→Value),j≤e.l.length∧t= .int .i64 j∧FdC wr x c1 B ((e.l.take j).foldl (fun a e=>termF f e d.fr.length a) (d.open_ (i:Int) e.p)) ((e.l.take j).foldl (fun a e=>termF f e d.fr.length a) (d.open_ (i:Int) e.p)).fr.length vl1 vb1 ys1 vss1∧FStp c c1 w wr) (fun t _=>e.l.length - (intOf t).toNat)
 case atStart=>exact ⟨0,_,_,_,_,_,by omega,rfl,HF0.out,HS0.out⟩
 case round=>
  obtain ⟨j,c1,vl1,vb1,ys1,vss1,hj,rfl,hF,sS⟩:=hrel
  by_cases hjl:j < e.l.length
  · have t1:decide ((j:Int) < (e.l.length:Int))=true:=by simp;omega
    obtain ⟨b,o,rfl,hbU,hrow⟩:=Hrow.out (by omega)
    obtain ⟨vp1,vz1,q0,q1,q2,q3,q4,hp1,hx1⟩:=(hrow.at_ _ _ _ j hjl).open_
    have Hp1:=Lib.hid hp1;have Hx1:=Lib.hid hx1
    obtain ⟨ap1,cp1,rfl,_⟩:=hp1
    obtain ⟨al1,cl1,rfl,_⟩:=hx1
    have q0:=(sS.cell hbU).trans q0
    have q1:=(sS.cell hbU).trans q1
    have q2:=(sS.cell hbU).trans q2
    have q3:=(sS.cell hbU).trans q3
    have q4:=(sS.cell hbU).trans q4
    have hbA:=(Below.refl wr.heap.size wr).alloc (Nat.le_refl _) (.cells #[.string (toBA e.l[j].op),.int .i64 e.l[j].n,.string (toBA e.l[j].s),.slice ap1 e.l[j].p.length cp1,.slice al1 e.l[j].l.length cl1] 140)
    obtain ⟨hFA,sA⟩:=hF.grow hbA
    have hsA:=sS.trans sA
    have hm:=exs_mem (List.getElem_mem hjl)
    have hbt:=exsBulk_take e.l j hjl
    have hbl:exsBulk (e.l.take (j+1))≤exsBulk e.l:=exsBulk_le _ _
    have hsm:=sm_terms f d.fr.length (e.l.take j) N0 (d.open_ (i:Int) e.p) HN0.out
    have hln:=terms_len f d.fr.length (e.l.take j) (d.open_ (i:Int) e.p) HI0.out
    have hcall:=Hf.out e.l[j] d.fr.length _ x B _ _ c1 _ vl1 vb1 _ _ ys1 vss1 (by have:=Hnd.out;omega) hFA rfl (Nat.lt_of_lt_of_le HI0.out hln) hsm (by omega) (by have:=hsA.size;omega) (hsA.strs Hp1.out) (hsA.exs Hx1.out)
    rw [← fold_take (fun a e=>termF f e d.fr.length a) e.l (d.open_ (i:Int) e.p) j hjl] at hcall
    have Hcall:=Lib.hid hcall;have HsA:=Lib.hid hsA
    clear hcall hsA hFA sA hF sS hrow hm hbt hbl hsm hln hbA
    go_wp2_with fail
    refine Hcall.out.mono ?_
    rintro _ w2 ⟨rfl,c2,vl2,vb2,ys2,vss2,hF2,s2⟩
    have HF2:=Lib.hid hF2;have HS2:=Lib.hid (HsA.out.trans s2)
    clear hF2 s2 Hcall q0 q1 q2 q3 q4
    go_wp2_with fail
    go_roundw
    case rel=>exact ⟨j+1,c2,vl2,vb2,ys2,vss2,by omega,by go_num,HF2.out,HS2.out⟩
    case measure=>simp [intOf];omega
  · have t1:decide ((j:Int) < (e.l.length:Int))=false:=by simp;omega
    obtain rfl:j=e.l.length:=by omega
    rw [List.take_of_length_le (Nat.le_refl _)] at hF
    have HFe:=Lib.hid hF;have HSe:=Lib.hid sS
    clear hF sS
    go_wp2_with fail
    go_end0
    refine ⟨rfl,c1,vl1,vb1,ys1,vss1,?_,HSe.out⟩
    rw [HT.out]
    exact HFe.out
end Go.Proofs.YtdoaeapahgmfoaaGreatDoor
namespace Go.Proofs.YtdoaeapahgmfoaaGreatDoor
open Go Go.RowKit
section
variable {P:Program} {md:Region.Mode} {ops:Array Oper} {Q:Exit→Act→World→Prop} {S:World→Prop}
def wpAnyR (P:Program) (md:Region.Mode) (ops:Array Oper) (Q:Exit→Act→World→Prop) (S:World→Prop) (z:Nat):Nat→Array Bool→Act→World→Prop
 | 0,listed,a,w=>Region.ready md ops listed= []∧Q .normal a w
 | fuel+1,listed,a,w=>
   (Region.ready md ops listed= []→Q .normal a w)∧
   ∀ i ∈ Region.ready md ops listed,wpOp P ops Q i (fun a' w'=>((listed.setIfInBounds i true).getD z true=false→S w')∧wpAnyR P md ops Q S z fuel (listed.setIfInBounds i true) a' w') a w
theorem wpAny_of_rest {z:Nat}:∀ (fuel:Nat) (listed:Array Bool) (a:Act) (w:World),wpAnyR P md ops Q S z fuel listed a w→wpAny P md ops Q fuel listed a w
 | 0,_,_,_,h=>h
 | fuel+1,_,_,_,h=>⟨h.1,fun i hi=>wpOp_mono (fun a' w' h'=>wpAny_of_rest fuel _ a' w' h'.2) (h.2 i hi)⟩
def Waits (md:Region.Mode) (ops:Array Oper) (k j:Nat):Prop:=∃ o,ops[j]? =some o∧∃ e ∈ o.after,Region.binds md e=true∧e.on=k
def Chn (md:Region.Mode) (ops:Array Oper):Nat→List Nat→Prop
 | _,[]=>True
 | k,j :: r=>Waits md ops k j∧Chn md ops j r
theorem not_waits {listed:Array Bool} {i j:Nat} (hi:listed.getD i true=false) (hj:j ∈ Region.ready md ops listed) (hw:Waits md ops i j):False:=by
 obtain ⟨_,oj,hoj,hall⟩:=mem_ready.1 hj
 obtain ⟨o,ho,e,he,hb,heq⟩:=hw
 rw [hoj] at ho
 obtain rfl:=Option.some.inj ho
 have h1:=hall e he hb
 rw [heq] at h1
 rcases Nat.lt_or_ge i listed.size with h' | h'
 · simp [h'] at hi h1;rw [hi] at h1;cases h1
 · simp [Array.getElem?_eq_none h'] at h1
theorem not_chain {listed:Array Bool} {j:Nat} (hj:j ∈ Region.ready md ops listed):∀ (ch:List Nat) (i:Nat),listed.getD i true=false→(∀ k ∈ ch,listed.getD k true=false)→Chn md ops i ch→j ∉ ch
 | [],_,_,_,_=>by simp
 | k :: r,i,hi,hu,hc=>by
   intro hm
   rcases List.mem_cons.1 hm with rfl | hm
   · exact not_waits hi hj hc.1
   · exact not_chain hj r k (hu k (List.mem_cons_self)) (fun q hq=>hu q (List.mem_cons_of_mem _ hq)) hc.2 hm
theorem wpAnyR_first {z i:Nat} {ch:List Nat} (hch:Chn md ops i ch) (hzc:z ∈ ch) {oi:Oper} {v:Value} (hi:ops[i]? =some oi) (hsel:∀ (j:Nat) (o:Oper) cs b,ops[j]? =some o→o.op≠ .select cs b)
 (hQ:∀ c a w,Q (.panic c) (a.put oi.dst v) w→Q (.panic c) a w):
 ∀ (fuel:Nat) (listed:Array Bool) (a:Act) (w:World),
   (∀ j oj,ops[j]? =some oj→j≠i→listed.getD j true=false→(∀ e ∈ oj.after,Region.binds md e=true→e.on≠i)→oi.apart ops oj=true)→
   (∀ k ∈ ch,listed.getD k true=false)→i ∉ ch→
   i ∈ Region.ready md ops listed→YieldsIf P ops S oi v a→S w→
   wpAnyR P md ops Q S z fuel (listed.setIfInBounds i true) (a.put oi.dst v) w→wpAnyR P md ops Q S z (fuel+1) listed a w:=by
 intro fuel
 induction fuel with
 | zero=>
   intro listed a w _ _ _ hr hy hS H
   refine ⟨fun h=>(by rw [h] at hr;cases hr),fun j hj=> ?_⟩
   by_cases hji:j=i
   · subst hji;exact hy.wpOp hi hS ⟨fun _=>hS,H⟩
   · have:=ready_mono hj hji
     rw [H.1] at this
     cases this
 | succ fuel ih=>
   intro listed a w hfree hu hic hr hy hS H
   refine ⟨fun h=>(by rw [h] at hr;cases hr),fun j hj=> ?_⟩
   by_cases hji:j=i
   · subst hji;exact hy.wpOp hi hS ⟨fun _=>hS,H⟩
   · have h1:=H.2 j (ready_mono hj hji)
     have hiu:=(mem_ready.1 hr).1
     have hjc:=not_chain hj ch i hiu hu hch
     obtain ⟨hjun,oj,hoj,hall⟩:=mem_ready.1 hj
     have hnot:∀ e ∈ oj.after,Region.binds md e=true→e.on≠i:=fun e he hb heq=>not_waits hiu hj ⟨oj,hoj,e,he,hb,heq⟩
     have h2:=wpOp_putIf hoj (hfree j oj hoj hji hjun hnot) (fun cs b=>hsel i oi cs b hi) (fun cs b=>hsel j oj cs b hoj) hQ hy h1
     have hfree':∀ k ok,ops[k]? =some ok→k≠i→(listed.setIfInBounds j true).getD k true=false→
      (∀ e ∈ ok.after,Region.binds md e=true→e.on≠i)→oi.apart ops ok=true:=fun k ok hk hki hun hno=>by
      refine hfree k ok hk hki ?_ hno
      by_cases hjk:j=k
      · subst hjk;exact hjun
      · rw [getD_set_ne true hjk] at hun;exact hun
     have hu':∀ k ∈ ch,(listed.setIfInBounds j true).getD k true=false:=fun k hk=>by
      have hne:j≠k:=fun e=>hjc (by rw [e];exact hk)
      rw [getD_set_ne true hne];exact hu k hk
     have hz:((listed.setIfInBounds i true).setIfInBounds j true).getD z true=false:=by
      have hn1:j≠z:=fun e=>hjc (by rw [e];exact hzc)
      have hn2:i≠z:=fun e=>hic (by rw [e];exact hzc)
      rw [getD_set_ne true hn1,getD_set_ne true hn2];exact hu z hzc
     refine wpOp_mono (fun a' w' h3=>⟨fun _=>h3.2.1 hz,ih (listed.setIfInBounds j true) a' w' hfree' hu' hic (ready_mono hr (Ne.symm hji)) h3.1 (h3.2.1 hz) ?_⟩) h2
     rw [Array.setIfInBounds_comm _ _ hji]
     exact h3.2.2
def waitsB (md:Region.Mode) (ops:Array Oper) (k j:Nat):Bool:=match ops[j]? with
 | some o=>o.after.any fun e=>Region.binds md e && e.on == k
 | none=>false
def chnB (md:Region.Mode) (ops:Array Oper):Nat→List Nat→Bool
 | _,[]=>true
 | k,j :: r=>waitsB md ops k j && chnB md ops j r
theorem waitsB_spec {k j:Nat} (h:waitsB md ops k j=true):Waits md ops k j:=by
 unfold waitsB at h
 split at h
 · rename_i o ho
   rw [Array.any_eq_true] at h
   obtain ⟨n,hn,hp⟩:=h
   rw [Bool.and_eq_true] at hp
   exact ⟨o,ho,o.after[n],Array.getElem_mem hn,hp.1,eq_of_beq hp.2⟩
 · cases h
theorem chnB_spec:∀ (ch:List Nat) (k:Nat),chnB md ops k ch=true→Chn md ops k ch
 | [],_,_=>trivial
 | j :: r,k,h=>by
   unfold chnB at h
   rw [Bool.and_eq_true] at h
   exact ⟨waitsB_spec h.1,chnB_spec r j h.2⟩
theorem wpAnyR_take {z i:Nat} (ch:List Nat) {oi:Oper} {v:Value} {fuel:Nat} {listed:Array Bool} {a:Act} {w:World} (hi:ops[i]? =some oi)
 (hs:Region.noSelect ops=true) (hf:Region.free md ops listed i=true) (hr:(Region.ready md ops listed).contains i=true)
 (hc:(chnB md ops i ch && ch.contains z && ch.all (fun k=> !listed.getD k true) && !ch.contains i)=true)
 (hQ:∀ c a w,Q (.panic c) (a.put oi.dst v) w→Q (.panic c) a w) (hy:YieldsIf P ops S oi v a) (hS:S w)
 (h:wpAnyR P md ops Q S z fuel (listed.setIfInBounds i true) (a.put oi.dst v) w):wpAnyR P md ops Q S z (fuel+1) listed a w:=by
 simp only [Bool.and_eq_true] at hc
 obtain ⟨⟨⟨h1,h2⟩,h3⟩,h4⟩:=hc
 refine wpAnyR_first (chnB_spec ch i h1) (by simpa using h2) hi (Region.noSelect_spec hs) hQ fuel listed a w (Region.free_spec hi hf) (fun k hk=> ?_) (by simpa using h4) (by simpa using hr) hy hS h
 have:=List.all_eq_true.1 h3 k hk
 simpa using this
theorem wpAnyR_all {z:Nat} {rs:List Nat} {fuel:Nat} {listed:Array Bool} {a:Act} {w:World} (hr:Region.ready md ops listed=rs) (hne:rs≠ [])
 (h:∀ i ∈ rs,wpOp P ops Q i (fun a' w'=>((listed.setIfInBounds i true).getD z true=false→S w')∧wpAnyR P md ops Q S z fuel (listed.setIfInBounds i true) a' w') a w):wpAnyR P md ops Q S z (fuel+1) listed a w:=
 ⟨fun h0=>absurd (hr ▸ h0) hne,hr ▸ h⟩
theorem wpAnyR_done {z:Nat} {listed:Array Bool} {a:Act} {w:World} (hr:Region.ready md ops listed= []) (h:Q .normal a w):∀ fuel,wpAnyR P md ops Q S z fuel listed a w
 | 0=>⟨hr,h⟩
 | _+1=>⟨fun _=>h,by rw [hr];simp⟩
theorem wpAnyR_one {z i:Nat} {fuel:Nat} {listed:Array Bool} {a:Act} {w:World} {o:Oper} (hr:Region.ready md ops listed= [i]) (ho:ops[i]? =some o)
 (h:∀ K':Act→World→Prop,Shut (∀ a w,((listed.setIfInBounds i true).getD z true=false→S w)→wpAnyR P md ops Q S z fuel (listed.setIfInBounds i true) a w→K' a w)→if Region.wanted o (yielded ops a.tmps)=true then Oper.wp P o a w K' Q else K' (a.put o.dst undef) w):
 wpAnyR P md ops Q S z (fuel+1) listed a w:=
 wpAnyR_all hr (by simp) fun j hj=>by
  obtain rfl:j=i:=by simpa using hj
  exact wpOp_step ho fun K' hK=>h K' fun a w hS hW=>hK a w ⟨hS,hW⟩
theorem wp_region_rest {id z:Nat} {a:Act} {w:World} (hm:P.follows .mixedOrders=true)
 (h:wpAnyR P .any ops Q S z ops.size (Array.replicate ops.size false) a { w with drawn:=w.drawn+1 }):(Code.region id ops true).wp P Q a w:=
 wp_region_any hm (wpAny_of_rest _ _ _ _ h)
end
end Go.Proofs.YtdoaeapahgmfoaaGreatDoor
