/- Small functions of package lex: low, digit, span: what each computes. The lexer in memory: what its cells hold, what a call of one of its methods leaves alone. The lexer's put. The closures of line and token. strconv.ParseUint of two small hexadecimal digits. -/
import Derived.BigQuiet
import Derived.Deep.AppendLies
import Derived.Deep.QuietTactic
import Derived.Deep.RegionHeld3
import Derived.Lib.Hide
import Derived.StillTailTactics
import Derived.Test.YtdoaeapahgmfoaaGreatDoorProg
import Derived.WalkKit
import Derived.WalkLawsBesides
import Derived.WalkSmall
namespace Go.Proofs.YtdoaeapahgmfoaaGreatDoor
open Go.RowKit
def lowB (b:UInt8):Bool:=decide (97≤b.toNat∧b.toNat≤122∨b.toNat=95)
def digitB (b:UInt8):Bool:=decide (48≤b.toNat∧b.toNat≤57)
theorem ret_bool {a b:Bool} (h:a=b):Ending.returned (.bool a)= .returned (.bool b):=by rw [h]
theorem ret_i64 {a b:Int} (h:a=b):Ending.returned (.int .i64 a)= .returned (.int .i64 b):=by rw [h]
set_option maxHeartbeats 400000 in
theorem digit_any (b:UInt8) (w:World):
 Calls Tryz.prog 133 #[.int .u8 b.toNat] w fun e w'=>e= .returned (.bool (digitB b))∧w=w':=by
 go_enter Tryz.func133,Tryz.ntmps133
 go_wp2
 all_goals (go_ret;refine ⟨ret_bool ?_,rfl⟩;rw [Bool.eq_iff_iff];simp [digitB];omega)
set_option maxHeartbeats 400000 in
theorem low_any (b:UInt8) (w:World):
 Calls Tryz.prog 131 #[.int .u8 b.toNat] w fun e w'=>e= .returned (.bool (lowB b))∧w=w':=by
 go_enter Tryz.func131,Tryz.ntmps131
 go_wp2
 all_goals (go_ret;refine ⟨ret_bool ?_,rfl⟩;rw [Bool.eq_iff_iff];simp [lowB];omega)
def spanL (p:UInt8→Bool) (l:List UInt8) (i:Nat):Nat:=i+((l.drop i).takeWhile p).length
theorem spanL_end (p:UInt8→Bool) (l:List UInt8) (i:Nat) (h:l.length≤i):spanL p l i=i:=by
 simp [spanL,List.drop_eq_nil_of_le h]
theorem spanL_yes (p:UInt8→Bool) (l:List UInt8) (i:Nat) (h:i < l.length) (hp:p l[i]=true):spanL p l i=spanL p l (i+1):=by
 simp only [spanL];rw [List.drop_eq_getElem_cons h,List.takeWhile_cons,if_pos hp];simp;omega
theorem spanL_no (p:UInt8→Bool) (l:List UInt8) (i:Nat) (h:i < l.length) (hp:p l[i]=false):spanL p l i=i:=by
 simp only [spanL];rw [List.drop_eq_getElem_cons h,List.takeWhile_cons,if_neg (by simp [hp])];simp
theorem spanL_le (p:UInt8→Bool) (l:List UInt8) (i:Nat) (h:i≤l.length):i≤spanL p l i∧spanL p l i≤l.length:=by
 have h1:=(List.takeWhile_sublist (l:=l.drop i) p).length_le
 simp only [List.length_drop] at h1
 unfold spanL;omega
structure ByteFn (f:Nat) (p:UInt8→Bool):Prop where
 enters:∀ (args:Array Value) (w:World),(callFunc f args).run Tryz.prog w= .ok (.enter f args) w
 answers:∀ (b:UInt8) (w:World),Calls Tryz.prog f #[.int .u8 b.toNat] w fun e w'=>e= .returned (.bool (p b))∧w=w'
set_option maxRecDepth 100000 in
set_option maxHeartbeats 400000 in
theorem span_any (f:Nat) (p:UInt8→Bool) (hf:ByteFn f p)
 (x:Nat) (s:ByteArray) (i:Nat) (w:World) (hs:s.size≤6000) (hi:i≤s.size) (hc:w.cell? ⟨x,0,none⟩=some (.string s)):
 Calls Tryz.prog 82 #[.pointer (some ⟨x,0,none⟩),.int .i64 i,.func (.func f) #[] #[]] w fun e w'=>e= .returned (.int .i64 (spanL p s.data.toList i))∧w=w':=by
 have he:=hf.enters
 go_enter Tryz.func82,Tryz.ntmps82
 go_wp2_with fail
 go_loop [1] (fun v=>∃ k:Nat,i≤k∧k≤s.size∧v= .int .i64 k∧spanL p s.data.toList k=spanL p s.data.toList i) (fun v=>s.size - (intOf v).toNat)
 case atStart=>exact ⟨i,Nat.le_refl _,hi,rfl,rfl⟩
 case round=>
  obtain ⟨k,hk,hk2,rfl,hsp⟩:=hrel
  have Hsp:=Lib.hid hsp;clear hsp
  by_cases hlt:k < s.size
  · go_wp2_with fail
    refine (hf.answers _ _).mono ?_;rintro e w' ⟨rfl,rfl⟩
    by_cases hp:p s[k]=true
    · have hn:=spanL_yes p s.data.toList k (by simpa using hlt) hp
      have Hn:=Lib.hid hn;clear hn
      go_wp2_with fail
      go_round
      case rel=>exact ⟨k+1,by omega,by omega,by go_num,by rw [← Hsp.out,Hn.out]⟩
      case measure=>simp [intOf];omega
    · have hp':p s[k]=false:=by simpa using hp
      have hn:=spanL_no p s.data.toList k (by simpa using hlt) hp'
      have Hn:=Lib.hid hn;clear hn
      go_wp2_with fail
      go_ret
      exact ⟨ret_i64 (by rw [← Hsp.out,Hn.out]),rfl⟩
  · have hn:=spanL_end p s.data.toList k (by simp;omega)
    have Hn:=Lib.hid hn;clear hn
    go_wp2_with fail
    go_ret
    exact ⟨ret_i64 (by rw [← Hsp.out,Hn.out]),rfl⟩
end Go.Proofs.YtdoaeapahgmfoaaGreatDoor
namespace Go.Proofs.YtdoaeapahgmfoaaGreatDoor
open Go.RowKit
structure Tok where
 kind:List UInt8
 text:List UInt8
 at_:Nat
 deriving DecidableEq
def S (l:List UInt8):Value:= .string ⟨l.toArray⟩
def Tok.cells (t:Tok):List Value:= [S t.kind,S t.text,.int .i64 t.at_]
def tokCells:List Tok→List Value
 | []=> []
 | t :: l=>t.cells ++ tokCells l
theorem tokCells_append (a b:List Tok):tokCells (a ++ b)=tokCells a ++ tokCells b:=by
 induction a with
 | nil=>rfl
 | cons t a ih=>simp [tokCells,ih]
def intCells (l:List Nat):List Value:=l.map fun n:Nat=>Value.int .i64 (n:Int)
theorem intCells_append (a b:List Nat):intCells (a ++ b)=intCells a ++ intCells b:=by simp [intCells]
structure LexC (w:World) (x:Nat) (s:ByteArray) (i:Nat) (vo vp:Value) (ts:List Tok) (os:List Nat):Prop where
 blk:w.heap[x]? =some (.cells #[.string s,.int .i64 i,vo,vp] 112 (0,0))
 out:w.ownsRow (x - 1) 104 3 vo ts.length (tokCells ts)
 opn:w.ownsRow (x - 1) 3 1 vp os.length (intCells os)
def Safe (w:World) (x k:Nat):Prop:=
 k < w.heap.size∧k≠x∧∀ s i vo vp T,w.heap[x]? =some (.cells #[s,i,vo,vp] T (0,0))→vo.ownBlock≠some k∧vp.ownBlock≠some k
structure Stp (x:Nat) (w w':World):Prop where
 os:w'.os=w.os
 tape:w'.tape=w.tape
 output:w'.output=w.output
 size:w.heap.size≤w'.heap.size
 safe:∀ k,Safe w x k→Safe w' x k∧w'.heap[k]? =w.heap[k]?
theorem Stp.refl (x:Nat) (w:World):Stp x w w:=⟨rfl,rfl,rfl,Nat.le_refl _,fun _ h=>⟨h,rfl⟩⟩
theorem Stp.trans {x:Nat} {a b c:World} (h:Stp x a b) (k:Stp x b c):Stp x a c:=
 ⟨k.os.trans h.os,k.tape.trans h.tape,k.output.trans h.output,Nat.le_trans h.size k.size,fun n hn=>
   let h1:=h.safe n hn;let h2:=k.safe n h1.1;⟨h2.1,h2.2.trans h1.2⟩⟩
theorem Stp.cell {x:Nat} {w w':World} (h:Stp x w w') {a:Addr} (hs:Safe w x a.block):w'.cell? a=w.cell? a:=
 World.cell?_of_block (h.safe _ hs).2
theorem Stp.frozen {x:Nat} {w w':World} (h:Stp x w w') {a:Addr} (hs:Safe w x a.block):w'.frozen? a=w.frozen? a:=
 World.frozen?_of_block (h.safe _ hs).2
theorem LexC.safe_below {w:World} {x:Nat} {s:ByteArray} {i:Nat} {vo vp:Value} {ts:List Tok} {os:List Nat} (h:LexC w x s i vo vp ts os) {k:Nat} (hk:k < x - 1):Safe w x k:=by
 have hx:x < w.heap.size:=by
  have:=h.blk
  rcases Nat.lt_or_ge x w.heap.size with h1 | h1
  · exact h1
  · simp [Array.getElem?_eq_none h1] at this
 refine ⟨by omega,by omega,?_⟩
 intro s' i' vo' vp' T hh
 rw [h.blk] at hh
 injection hh with hh
 injection hh with hh _
 simp only [Array.mk.injEq,List.cons.injEq,and_true] at hh
 obtain ⟨_,_,rfl,rfl⟩:=hh
 refine ⟨?_,?_⟩
 · intro hb;have:=h.out.lt k hb;omega
 · intro hb;have:=h.opn.lt k hb;omega
theorem Stp.below {w w':World} {x:Nat} {s:ByteArray} {i:Nat} {vo vp:Value} {ts:List Tok} {os:List Nat} (h:LexC w x s i vo vp ts os) (hs:Stp x w w'):Below (x - 1) w w':=
 ⟨hs.os,hs.tape,hs.output,hs.size,fun k hk=>(hs.safe k (h.safe_below hk)).2⟩
theorem heap_setCell_at {w:World} {b o:Nat} {cs:Array Value} {T:TypeId} {v:Value} (h:w.heap[b]? =some (.cells cs T (0,0))):
 (w.setCell ⟨b,o,none⟩ v).heap[b]? =some (.cells (cs.setIfInBounds o v) T (0,0)):=by
 simp [World.setCell,Array.getElem?_modify,h]
theorem cell_of_blk {w:World} {b o:Nat} {cs:Array Value} {T:TypeId} (h:w.heap[b]? =some (.cells cs T (0,0))):w.cell? ⟨b,o,none⟩=cs[o]? :=by
 simp [World.cell?,h]
theorem frozen_of_blk {w:World} {b o:Nat} {cs:Array Value} {T:TypeId} (h:w.heap[b]? =some (.cells cs T (0,0))):w.frozen? ⟨b,o,none⟩=false:=by
 simp [World.frozen?,h]
theorem lt_of_blk {w:World} {b:Nat} {ob:Obj} (h:w.heap[b]? =some ob):b < w.heap.size:=by
 rcases Nat.lt_or_ge b w.heap.size with h1 | h1
 · exact h1
 · simp [Array.getElem?_eq_none h1] at h
section
variable {w w' w1:World} {x i i':Nat} {s:ByteArray} {vo vp vo' vp':Value} {ts ts':List Tok} {os os':List Nat}
theorem LexC.c0 (h:LexC w x s i vo vp ts os):w.cell? ⟨x,0,none⟩=some (.string s):=by rw [cell_of_blk h.blk];rfl
theorem LexC.c1 (h:LexC w x s i vo vp ts os):w.cell? ⟨x,1,none⟩=some (.int .i64 i):=by rw [cell_of_blk h.blk];rfl
theorem LexC.c2 (h:LexC w x s i vo vp ts os):w.cell? ⟨x,2,none⟩=some vo:=by rw [cell_of_blk h.blk];rfl
theorem LexC.c3 (h:LexC w x s i vo vp ts os):w.cell? ⟨x,3,none⟩=some vp:=by rw [cell_of_blk h.blk];rfl
theorem LexC.f (h:LexC w x s i vo vp ts os) (o:Nat):w.frozen? ⟨x,o,none⟩=false:=frozen_of_blk h.blk
theorem LexC.lt (h:LexC w x s i vo vp ts os):x < w.heap.size:=lt_of_blk h.blk
theorem LexC.apart (h:LexC w x s i vo vp ts os) {k:Nat} (h1:vo.ownBlock=some k) (h2:vp.ownBlock=some k):False:=by
 rcases h.out.2 with ⟨rfl,_⟩ | ⟨g,cap,cur,rfl,_,hg,_⟩
 · simp [Value.ownBlock] at h1
 rcases h.opn.2 with ⟨rfl,_⟩ | ⟨g',cap',cur',rfl,_,hg',_⟩
 · simp [Value.ownBlock] at h2
 simp only [Value.ownBlock,Option.some.injEq] at h1 h2
 subst h1;subst h2
 rw [hg] at hg'
 injection hg' with hh
 injection hh with _ hT _
 cases hT
theorem LexC.next (h:LexC w x s i vo vp ts os) (blk':w'.heap[x]? =some (.cells #[.string s,.int .i64 i',vo',vp'] 112 (0,0)))
 (out':w'.ownsRow (x - 1) 104 3 vo' ts'.length (tokCells ts')) (opn':w'.ownsRow (x - 1) 3 1 vp' os'.length (intCells os'))
 (hos:w'.os=w.os) (htape:w'.tape=w.tape) (hout:w'.output=w.output) (hsize:w.heap.size≤w'.heap.size)
 (keep:∀ k,k < w.heap.size→k≠x→vo.ownBlock≠some k→vp.ownBlock≠some k→w'.heap[k]? =w.heap[k]?)
 (ho:∀ k,vo'.ownBlock=some k→vo.ownBlock=some k∨w.heap.size≤k) (hp:∀ k,vp'.ownBlock=some k→vp.ownBlock=some k∨w.heap.size≤k):
 LexC w' x s i' vo' vp' ts' os'∧Stp x w w':=by
 refine ⟨⟨blk',out',opn'⟩,hos,htape,hout,hsize,?_⟩
 intro k hk
 obtain ⟨hk1,hk2,hk3⟩:=hk
 have hk4:=hk3 _ _ _ _ _ h.blk
 refine ⟨⟨by omega,hk2,?_⟩,keep k hk1 hk2 hk4.1 hk4.2⟩
 intro s' i'' vo'' vp'' T hh
 rw [blk'] at hh
 injection hh with hh
 injection hh with hh _
 simp only [Array.mk.injEq,List.cons.injEq,and_true] at hh
 obtain ⟨_,_,rfl,rfl⟩:=hh
 refine ⟨fun e=> ?_,fun e=> ?_⟩
 · rcases ho k e with e | e
   · exact hk4.1 e
   · omega
 · rcases hp k e with e | e
   · exact hk4.2 e
   · omega
theorem ownsRow_setCell {B T sz n:Nat} {v:Value} {xs:List Value} (h:w.ownsRow B T sz v n xs) {b o:Nat} {u:Value} (hb:v.ownBlock≠some b):(w.setCell ⟨b,o,none⟩ u).ownsRow B T sz v n xs:=by
 refine ⟨h.1,?_⟩
 rcases h.2 with h2 | ⟨g,cap,cur,rfl,h3,h4,h5⟩
 · exact .inl h2
 · refine .inr ⟨g,cap,cur,rfl,h3,?_,h5⟩
   rw [Below.heap_setCell _ _ _ _ (by intro e;simp only at e;exact hb (by simp [Value.ownBlock,e]))]
   exact h4
theorem LexC.out_ne (h:LexC w x s i vo vp ts os):vo.ownBlock≠some x:=by
 intro e
 rcases h.out.2 with ⟨rfl,_⟩ | ⟨g,cap,cur,rfl,_,hg,_⟩
 · simp [Value.ownBlock] at e
 simp only [Value.ownBlock,Option.some.injEq] at e
 subst e
 have hb:=h.blk
 rw [hg] at hb
 injection hb with hh
 injection hh with _ hT _
 cases hT
theorem LexC.opn_ne (h:LexC w x s i vo vp ts os):vp.ownBlock≠some x:=by
 intro e
 rcases h.opn.2 with ⟨rfl,_⟩ | ⟨g,cap,cur,rfl,_,hg,_⟩
 · simp [Value.ownBlock] at e
 simp only [Value.ownBlock,Option.some.injEq] at e
 subst e
 have hb:=h.blk
 rw [hg] at hb
 injection hb with hh
 injection hh with _ hT _
 cases hT
theorem LexC.setAt (h:LexC w x s i vo vp ts os) (j:Nat):LexC (w.setCell ⟨x,1,none⟩ (.int .i64 j)) x s j vo vp ts os∧Stp x w (w.setCell ⟨x,1,none⟩ (.int .i64 j)):=by
 refine h.next ?_ (ownsRow_setCell h.out h.out_ne) (ownsRow_setCell h.opn h.opn_ne) rfl rfl rfl (by simp) ?_ (fun k e=> .inl e) (fun k e=> .inl e)
 · rw [heap_setCell_at h.blk];rfl
 · intro k _ hk _ _
   exact Below.heap_setCell _ _ _ _ hk
theorem LexC.grown_out (h:LexC w x s i vo vp ts os) {ob:Obj} (hg:(w.alloc ob).grownBy w1 vo.ownBlock):w1.heap[x]? =some (.cells #[.string s,.int .i64 i,vo,vp] 112 (0,0)):=by
 rw [hg.block x (by have:=h.lt;simp;omega) (Ne.symm h.out_ne),Below.heap_alloc _ _ _ h.lt,h.blk]
theorem LexC.grown_out2 (h:LexC w x s i vo vp ts os) {ob:Obj} (hg:(w.alloc ob).grownBy w1 vo.ownBlock):w1.cell? ⟨x,2,none⟩=some vo∧w1.frozen? ⟨x,2,none⟩=false:=
 ⟨cell_of_blk (h.grown_out hg),frozen_of_blk (h.grown_out hg)⟩
theorem LexC.drewN (h:LexC w x s i vo vp ts os) (n:Nat):LexC (w.drewN n) x s i vo vp ts os:=⟨h.blk,h.out,h.opn⟩
theorem Stp.drewN (x:Nat) (w:World) (n:Nat):Stp x w (w.drewN n):=⟨rfl,rfl,rfl,Nat.le_refl _,fun _ hk=>⟨hk,rfl⟩⟩
theorem LexC.putOut (h:LexC w x s i vo vp ts os) (t:Tok) {ob:Obj} {g cap:Nat}
 (hown:w1.ownsRow (x - 1) 104 3 (.slice (some ⟨g,0,none⟩) (ts.length+1) cap) (ts.length+1) (tokCells ts ++ t.cells))
 (hg:(w.alloc ob).grownBy w1 vo.ownBlock) (hat:vo.ownBlock=some g∨g=w.heap.size+1):
 LexC (w1.setCell ⟨x,2,none⟩ (.slice (some ⟨g,0,none⟩) (ts.length+1) cap)) x s i (.slice (some ⟨g,0,none⟩) (ts.length+1) cap) vp (ts ++ [t]) os∧
 Stp x w (w1.setCell ⟨x,2,none⟩ (.slice (some ⟨g,0,none⟩) (ts.length+1) cap)):=by
 have hx:=h.lt
 have hgx:(Value.slice (some ⟨g,0,none⟩) (ts.length+1) cap).ownBlock≠some x:=by
  intro e
  simp only [Value.ownBlock,Option.some.injEq] at e
  rcases hat with h2 | h2
  · exact h.out_ne (by rw [h2,e])
  · omega
 have hold:∀ k,k < w.heap.size→vo.ownBlock≠some k→w1.heap[k]? =w.heap[k]? :=by
  intro k hk hne
  rw [hg.block k (by simp;omega) (Ne.symm hne),Below.heap_alloc _ _ _ hk]
 have hopn1:w1.ownsRow (x - 1) 3 1 vp os.length (intCells os):=by
  refine (h.opn.alloc ob).kept hg ?_
  rcases hvp:vp.ownBlock with _ | k
  · exact .inl rfl
  · right;intro e;exact h.apart e.symm hvp
 have hb1:w1.heap[x]? =some (.cells #[.string s,.int .i64 i,vo,vp] 112 (0,0)):=by rw [hold x hx h.out_ne,h.blk]
 refine h.next ?_ ?_ (ownsRow_setCell hopn1 h.opn_ne) hg.os hg.tape hg.output (by have:=hg.size;simp at this ⊢;omega) ?_ ?_ (fun k e=> .inl e)
 · rw [heap_setCell_at hb1];rfl
 · have:=ownsRow_setCell (o:=2) (u:= .slice (some ⟨g,0,none⟩) (ts.length+1) cap) hown hgx
   rw [tokCells_append,List.length_append]
   simpa [tokCells] using this
 · intro k hk hne hne1 _
   rw [Below.heap_setCell _ _ _ _ hne,hold k hk hne1]
 · intro k e
   simp only [Value.ownBlock,Option.some.injEq] at e
   subst e
   rcases hat with e | e
   · exact .inl e
   · right;omega
end
theorem region_still_tail {P:Program} {id:Nat} {Q:Exit→Act→World→Prop} {a:Act} {w:World} {l:List Oper} (n:Nat) (hm:P.follows .mixedOrders=true) (hB:Region.lexTailB .any l.toArray n=true)
 (h:∀ w1:World,w1=w.drewN 1→wpStill P l.toArray w1 (fun a'=>wpList P l.toArray Q (l.drop n) a' w1) (l.take n) a):(Code.region id l.toArray true).wp P Q a w:=
 wp_region_still_tail n hm hB (h _ rfl)
end Go.Proofs.YtdoaeapahgmfoaaGreatDoor
namespace Go.Proofs.YtdoaeapahgmfoaaGreatDoor
open Go.RowKit
theorem Tryz.infoTok:(Tryz.prog.info? 104).map (fun i=>(i.zero,i.size,i.bytes))=some (some (.agg #[.string ⟨#[]⟩,.string ⟨#[]⟩,.int .i64 0]),3,40):=by kernel_rfl
theorem Tryz.infoInt:(Tryz.prog.info? 3).map (fun i=>(i.zero,i.size,i.bytes))=some (some (.int .i64 0),1,8):=by kernel_rfl
def maxToks:Nat:=100000
set_option maxRecDepth 100000 in
set_option maxHeartbeats 400000 in
theorem put_any {w:World} {x i:Nat} {s:ByteArray} {vo vp:Value} {ts:List Tok} {os:List Nat} (h:LexC w x s i vo vp ts os) (kd tx:ByteArray) (a:Nat) (hts:ts.length≤maxToks):
 Calls Tryz.prog 46 #[.pointer (some ⟨x,0,none⟩),.string kd,.string tx,.int .i64 a] w fun e w'=>e= .returned (.tuple #[])∧
  (∃ vo',LexC w' x s i vo' vp (ts ++ [⟨kd.data.toList,tx.data.toList,a⟩]) os)∧Stp x w w':=by
 obtain ⟨i0,hi,hz0,hz1,hz2⟩:=info_parts Tryz.infoTok
 have c2:=h.c2
 have f2:=h.f 2
 have hn:ts.length+1≤maxLen:=by unfold maxToks at hts;unfold maxLen;omega
 have hb:(ts.length+1) * 40≤140737488355328:=by unfold maxToks at hts;omega
 have Hn:=Lib.hid hn;have Hb:=Lib.hid hb;clear hn hb hts
 go_enter Tryz.func46,Tryz.ntmps46
 go_wp2_with (at_builtin;refine wpList_append_lies (w.alloc (.cells #[.string kd,.string tx,.int .i64 a] 104)) rfl (.tmp 12) (.tmp 17) 42 rfl (x - 1) 104 i0 _ 3 40 Tryz.underlying42 hi hz0 hz1 hz2 rfl (by decide) vo ts.length (tokCells ts) rfl (h.out.alloc _) ⟨w.heap.size,0,none⟩ 1 1 [.string kd,.string tx,.int .i64 a] rfl rfl (World.news_of_block (cs:= #[.string kd,.string tx,.int .i64 a]) (heap_alloc_new w _)) (by simp [Value.oneCell']) (by decide) Hn.out Hb.out (by have:=h.lt;simp;omega) (w.heap.size+1) (by simp) ?_;intro g cap w1 hown hg hat hlt;obtain ⟨d2,e2⟩:=h.grown_out2 hg)
 go_end0
 exact ⟨rfl,⟨_,(h.putOut ⟨kd.data.toList,tx.data.toList,a⟩ hown hg hat).1⟩,(h.putOut ⟨kd.data.toList,tx.data.toList,a⟩ hown hg hat).2⟩
end Go.Proofs.YtdoaeapahgmfoaaGreatDoor
namespace Go.Proofs.YtdoaeapahgmfoaaGreatDoor
open Go.RowKit
theorem enters_blank (args:Array Value) (w:World):(callFunc 81 args).run Tryz.prog w= .ok (.enter 81 args) w:=by kernel_rfl
set_option maxHeartbeats 400000 in
theorem blank_fn:ByteFn 81 (fun b=>b.toNat == 32):=by
 refine ⟨enters_blank,fun b w=> ?_⟩
 go_enter Tryz.func81,Tryz.ntmps81
 go_wp2
 all_goals (go_ret;refine ⟨ret_bool ?_,rfl⟩;rw [Bool.eq_iff_iff];simp;try omega)
theorem enters_nonl (args:Array Value) (w:World):(callFunc 85 args).run Tryz.prog w= .ok (.enter 85 args) w:=by kernel_rfl
set_option maxHeartbeats 400000 in
theorem nonl_fn:ByteFn 85 (fun b=>b.toNat != 10):=by
 refine ⟨enters_nonl,fun b w=> ?_⟩
 go_enter Tryz.func85,Tryz.ntmps85
 go_wp2
 all_goals (go_ret;refine ⟨ret_bool ?_,rfl⟩;rw [Bool.eq_iff_iff];simp;try omega)
theorem enters_digit (args:Array Value) (w:World):(callFunc 133 args).run Tryz.prog w= .ok (.enter 133 args) w:=by kernel_rfl
theorem digit_fn:ByteFn 133 digitB:=⟨enters_digit,digit_any⟩
def wordB (b:UInt8):Bool:=lowB b || digitB b
theorem enters_word (args:Array Value) (w:World):(callFunc 132 args).run Tryz.prog w= .ok (.enter 132 args) w:=by kernel_rfl
set_option maxHeartbeats 400000 in
theorem word_fn:ByteFn 132 wordB:=by
 refine ⟨enters_word,fun b w=> ?_⟩
 by_cases hl:lowB b=true
 · go_enter Tryz.func132,Tryz.ntmps132
   go_wp2_with fail
   refine (low_any _ _).mono ?_;rintro e w' ⟨rfl,rfl⟩
   go_wp2_with fail
   all_goals (go_ret;refine ⟨ret_bool ?_,rfl⟩;simp [wordB,hl])
 · have hl':lowB b=false:=by simpa using hl
   clear hl
   go_enter Tryz.func132,Tryz.ntmps132
   go_wp2_with fail
   refine (low_any _ _).mono ?_;rintro e w' ⟨rfl,rfl⟩
   go_wp2_with fail
   refine (digit_any _ _).mono ?_;rintro e w' ⟨rfl,rfl⟩
   go_wp2_with fail
   all_goals (go_ret;refine ⟨ret_bool ?_,rfl⟩;simp [wordB,hl'])
def endB (l:List UInt8) (i:Nat):Bool:=match l[i]? with
 | none=>true
 | some b=>b.toNat == 10
set_option maxRecDepth 100000 in
set_option maxHeartbeats 400000 in
theorem end_any {w:World} {x i bx:Nat} {s:ByteArray} {vo vp:Value} {ts:List Tok} {os:List Nat} (h:LexC w x s i vo vp ts os) (hi:i≤s.size)
 (hb:w.cell? ⟨bx,0,none⟩=some (.pointer (some ⟨x,0,none⟩))):
 Calls Tryz.prog 83 #[.pointer (some ⟨bx,0,none⟩)] w fun e w'=>e= .returned (.bool (endB s.data.toList i))∧∃ n,w'=w.drewN n:=by
 have c0:=h.c0
 have c1:=h.c1
 by_cases hlt:i < s.size
 · have hne:((i:Int) == (s.size:Int))=false:=by rw [beq_eq_false_iff_ne];omega
   have hE:endB s.data.toList i=(s[i].toNat == 10):=by
    unfold endB;rw [List.getElem?_eq_getElem (by simpa using hlt)];rfl
   have HE:=Lib.hid hE;clear hE h
   go_enter Tryz.func83,Tryz.ntmps83
   go_wp2_with fail
   go_quiet (fail)
   go_wp2_with fail
   go_ret
   exact ⟨ret_bool (by rw [HE.out,Bool.eq_iff_iff];simp;omega),nq,rfl⟩
 · have he:i=s.size:=by omega
   have hE:endB s.data.toList i=true:=by
    unfold endB;rw [List.getElem?_eq_none (by simp;omega)]
   have HE:=Lib.hid hE;clear hE h
   have hne:((i:Int) == (s.size:Int))=true:=by rw [beq_iff_eq];omega
   clear he
   go_enter Tryz.func83,Tryz.ntmps83
   go_wp2_with fail
   go_quiet (fail)
   go_wp2_with fail
   go_ret
   exact ⟨ret_bool (by rw [HE.out]),nq,rfl⟩
theorem enters_end (args:Array Value) (w:World):(callFunc 83 args).run Tryz.prog w= .ok (.enter 83 args) w:=by kernel_rfl
theorem end_quiet {w:World} {x i bx:Nat} {s:ByteArray} {vo vp:Value} {ts:List Tok} {os:List Nat} (h:LexC w x s i vo vp ts os) (hi:i≤s.size)
 (hb:w.cell? ⟨bx,0,none⟩=some (.pointer (some ⟨x,0,none⟩))) {b:Bool} (hE:endB s.data.toList i=b) (n:Nat):
 Calls Tryz.prog 83 #[.pointer (some ⟨bx,0,none⟩)] (w.drewN n) fun e w''=>e= .returned (.bool b)∧∃ m,w''=w.drewN m:=by
 subst hE
 exact Calls.quiet_of (end_any (h.drewN n) hi hb)
def commentL (l:List UInt8) (i:Nat):Nat:=match l[i]? with
 | none=>i
 | some b=>if b.toNat=35 then spanL (fun b=>b.toNat != 10) l i else i
theorem commentL_le (l:List UInt8) (i:Nat) (h:i≤l.length):i≤commentL l i∧commentL l i≤l.length:=by
 unfold commentL;split
 · omega
 · split
   · exact spanL_le _ _ _ h
   · omega
set_option maxRecDepth 100000 in
set_option maxHeartbeats 400000 in
theorem comment_any {w:World} {x i bx be:Nat} {s:ByteArray} {vo vp:Value} {ts:List Tok} {os:List Nat} (h:LexC w x s i vo vp ts os) (hs:s.size≤6000) (hi:i≤s.size)
 (hb:w.cell? ⟨bx,0,none⟩=some (.pointer (some ⟨x,0,none⟩))) (hbe:w.cell? ⟨be,0,none⟩=some (.func (.func 83) #[] #[.pointer (some ⟨bx,0,none⟩)])):
 Calls Tryz.prog 84 #[.pointer (some ⟨be,0,none⟩),.pointer (some ⟨bx,0,none⟩)] w fun e w'=>e= .returned (.tuple #[])∧
  LexC w' x s (commentL s.data.toList i) vo vp ts os∧Stp x w w':=by
 have c0:=h.c0
 have c1:=h.c1
 have he:=enters_end
 by_cases hE:endB s.data.toList i=true
 · have hC:commentL s.data.toList i=i:=by
    unfold endB at hE;unfold commentL
    split
    · rfl
    · rename_i b hb;rw [hb] at hE;simp only [beq_iff_eq] at hE
      rw [if_neg (by omega)]
   have HE:=Lib.hid hE;clear hE
   have HC:=Lib.hid hC;clear hC
   go_enter Tryz.func84,Tryz.ntmps84
   go_wp2_with fail
   go_quiet ((go_at_call 83;exact end_quiet h hi hb HE.out _))
   go_wp2_with fail
   go_end0
   refine ⟨rfl,?_,Stp.drewN _ _ _⟩
   rw [HC.out];exact h.drewN nq
 · have hlt:i < s.size:=by
    rcases Nat.lt_or_ge i s.size with h1 | h1
    · exact h1
    · exfalso;apply hE;unfold endB;rw [List.getElem?_eq_none (by simpa using h1)]
   have hE':endB s.data.toList i=false:=by simpa using hE
   have HE:=Lib.hid hE';clear hE hE'
   go_enter Tryz.func84,Tryz.ntmps84
   go_wp2_with fail
   go_quiet ((go_at_call 83;exact end_quiet h hi hb HE.out _))
   have h2:=h.drewN nq
   have b2:(w.drewN nq).cell? ⟨bx,0,none⟩=some (.pointer (some ⟨x,0,none⟩)):=hb
   have s2:=Stp.drewN x w nq
   clear c0 c1 hb hbe h
   generalize w.drewN nq=w2 at *
   go_wp2_with fail
   · refine region_still_tail 9 (by kernel_rfl) (by kernel_rfl) (fun w3 hw3=> ?_)
     have h3:LexC w3 x s i vo vp ts os:=by rw [hw3];exact h2.drewN 1
     have b3:w3.cell? ⟨bx,0,none⟩=some (.pointer (some ⟨x,0,none⟩)):=by rw [hw3];exact b2
     have s3:Stp x w w3:=s2.trans (by rw [hw3];exact Stp.drewN x w2 1)
     have c0:=h3.c0
     have c1:=h3.c1
     have f1:=h3.f 1
     clear hw3 h2 b2 s2
     simp only [List.take_succ_cons,List.take_zero,List.drop_succ_cons,List.drop_zero]
     repeat still_step
     still_call ((span_any _ _ nonl_fn x s i _ hs hi c0).mono fun _ _ ⟨h1,h2⟩=>⟨h1,h2.symm⟩)
     repeat still_step
     refine wpStill_nil ?_
     go_wp2_with fail
     go_end0
     have hx:((s[i].toNat:Int) == 35)=true:=by assumption
     have hx':s[i].toNat=35:=by simp at hx;omega
     have hC:commentL s.data.toList i=spanL (fun b=>b.toNat != 10) s.data.toList i:=by
      unfold commentL;rw [List.getElem?_eq_getElem (by simpa using hlt)];exact if_pos hx'
     rw [hC]
     have h4:=h3.setAt (spanL (fun b=>b.toNat != 10) s.data.toList i)
     exact ⟨rfl,h4.1,s3.trans h4.2⟩
   · go_end0
     have hx:((s[i].toNat:Int) == 35)=false:=by assumption
     have hx':s[i].toNat≠35:=by intro e;rw [e] at hx;simp at hx
     have hC:commentL s.data.toList i=i:=by
      unfold commentL;rw [List.getElem?_eq_getElem (by simpa using hlt)];exact if_neg hx'
     rw [hC]
     exact ⟨rfl,h2,s2⟩
theorem enters_comment (args:Array Value) (w:World):(callFunc 84 args).run Tryz.prog w= .ok (.enter 84 args) w:=by kernel_rfl
end Go.Proofs.YtdoaeapahgmfoaaGreatDoor
namespace Go.Proofs.YtdoaeapahgmfoaaGreatDoor
open Go.RowKit
def hexV (b:UInt8):Option Nat:=
 if 48≤b.toNat∧b.toNat≤57 then some (b.toNat - 48) else if 97≤b.toNat∧b.toNat≤102 then some (b.toNat - 87) else none
theorem lower_hex (b:UInt8) (h:97≤b.toNat) (h2:b.toNat≤102) (w:World):
 Calls Tryz.prog 191 #[.int .u8 b.toNat] w fun e w'=>e= .returned (.int .u8 b.toNat)∧w=w':=by
 have hb:∀ b:UInt8,97≤b.toNat→b.toNat≤102→bits BinOp.or IntKind.u8 (b.toNat:Int) 32=(b.toNat:Int):=by
  intro b h h2
  have hh:b.toNat=97∨b.toNat=98∨b.toNat=99∨b.toNat=100∨b.toNat=101∨b.toNat=102:=by omega
  rcases hh with e | e | e | e | e | e <;> rw [e] <;> decide
 have hb1:=hb b h h2
 clear hb
 have Hb:=Lib.hid hb1;clear hb1
 go_enter Tryz.func191,Tryz.ntmps191
 go_wp2
 go_ret
 exact ⟨by show Ending.returned (.int .u8 (bits BinOp.or IntKind.u8 b.toNat 32))=_;rw [Hb.out],rfl⟩
theorem conv_two (a b:UInt8) (w:World):∃ cap W,(convert 9 75 (.string ⟨#[a,b]⟩)).run Tryz.prog w= .ok (.slice (some ⟨w.heap.size,0,none⟩) 2 cap) W∧
 W.cell? ⟨w.heap.size,0,none⟩=some (.int .u8 a.toNat)∧W.cell? ⟨w.heap.size,1,none⟩=some (.int .u8 b.toNat)∧Below w.heap.size w W:=by
 refine ⟨_,_,run_bytes_of_string w 9 75 5 ⟨#[a,b]⟩ Tryz.underlying9 Tryz.underlying75 Tryz.underlying5,?_,?_,?_⟩
 · exact (World.cell?_alloc_mark w.drew _ _ _ 0).trans (bytesRow_at ⟨#[a,b]⟩ _ 0 (by simp))
 · exact (World.cell?_alloc_mark w.drew _ _ _ 1).trans (bytesRow_at ⟨#[a,b]⟩ _ 1 (by simp))
 · exact ((Below.refl _ _).drew).alloc (Nat.le_refl _) _
theorem vint {k:IntKind} {a b:Int} (h:a=b):Value.int k a=Value.int k b:=by rw [h]
def val2 (x y:Nat):Nat→Nat
 | 0=>0
 | 1=>x
 | _=>16 * x+y
theorem hexV_lt {b:UInt8} {x:Nat} (h:hexV b=some x):x < 16∧(48≤b.toNat∧b.toNat≤57∧x=b.toNat - 48∨97≤b.toNat∧b.toNat≤102∧x=b.toNat - 87):=by
 unfold hexV at h
 split at h
 · injection h with h;omega
 · split at h
   · injection h with h;omega
   · cases h
set_option maxRecDepth 100000 in
set_option maxHeartbeats 1000000 in
theorem iparse16 (a b:UInt8) (x y:Nat) (ha:hexV a=some x) (hb:hexV b=some y) (w:World):
 Calls Tryz.prog 174 #[.string ⟨#[a,b]⟩,.int .i64 16,.int .i64 8] w fun e w'=>e= .returned (.tuple #[.int .u64 ((16 * x+y:Nat):Int),.nilIface])∧Below w.heap.size w w':=by
 obtain ⟨cap,W,kc,k0,k1,hB⟩:=conv_two a b w
 have Ha:=Lib.hid ha;have Hb:=Lib.hid hb;clear ha hb
 go_enter Tryz.func174,Tryz.ntmps174
 go_wp2_with fail
 go_loop [12,13,101] (fun u n i=>∃ k:Nat,k≤2∧u= .bool false∧i= .int .i64 k∧n= .int .u64 (val2 x y k)) (fun _ _ i=>2 - (intOf i).toNat)
 case atStart=>exact ⟨0,by omega,rfl,rfl,rfl⟩
 case round=>
  obtain ⟨k,hk,rfl,rfl,rfl⟩:=hrel
  have hx:=(hexV_lt Ha.out).1
  have hy:=(hexV_lt Hb.out).1
  match k,hk with
  | 0,_=>
    simp only [val2]
    rcases (hexV_lt Ha.out).2 with ⟨h1,h2,h3⟩ | ⟨h1,h2,h3⟩
    · have H3:=Lib.hid h3;clear h3
      go_wp2_with fail
      go_round
      case rel=>exact ⟨1,by omega,rfl,rfl,vint (by show _=(x:Int);rw [H3.out];omega)⟩
      case measure=>simp [intOf]
    · have H3:=Lib.hid h3;clear h3
      go_wp2_with (refine (lower_hex _ (by omega) (by omega) _).mono ?_;rintro e w' ⟨rfl,rfl⟩)
      go_round
      case rel=>exact ⟨1,by omega,rfl,rfl,vint (by show _=(x:Int);rw [H3.out];omega)⟩
      case measure=>simp [intOf]
  | 1,_=>
    simp only [val2]
    obtain ⟨m,hm⟩:∃ m:Int,(x:Int)=m:=⟨_,rfl⟩
    have hm0:0≤m:=by omega
    have hm1:m≤15:=by omega
    rw [hm]
    have Hm:=Lib.hid hm;clear hm hx
    rcases (hexV_lt Hb.out).2 with ⟨h1,h2,h3⟩ | ⟨h1,h2,h3⟩
    · have H3:=Lib.hid h3;clear h3
      go_wp2_with fail
      go_round
      case rel=>exact ⟨2,by omega,rfl,rfl,vint (by show _=((16 * x+y:Nat):Int);have e1:=Hm.out;have e2:=H3.out;omega)⟩
      case measure=>simp [intOf]
    · have H3:=Lib.hid h3;clear h3
      go_wp2_with (refine (lower_hex _ (by omega) (by omega) _).mono ?_;rintro e w' ⟨rfl,rfl⟩)
      go_round
      case rel=>exact ⟨2,by omega,rfl,rfl,vint (by show _=((16 * x+y:Nat):Int);have e1:=Hm.out;have e2:=H3.out;omega)⟩
      case measure=>simp [intOf]
  | 2,_=>
    go_wp2_with fail
    go_ret2
    exact ⟨rfl,hB⟩
set_option maxRecDepth 100000 in
set_option maxHeartbeats 400000 in
theorem parse16 (a b:UInt8) (x y:Nat) (ha:hexV a=some x) (hb:hexV b=some y) (w:World):
 Calls Tryz.prog 163 #[.string ⟨#[a,b]⟩,.int .i64 16,.int .i64 8] w fun e w'=>e= .returned (.tuple #[.int .u64 ((16 * x+y:Nat):Int),.nilIface])∧Below w.heap.size w w':=by
 go_enter Tryz.func163,Tryz.ntmps163
 go_wp2_with fail
 refine (iparse16 a b x y ha hb _).mono ?_
 rintro e w' ⟨rfl,hB⟩
 clear ha hb
 go_wp2_with fail
 go_ret2
 exact ⟨rfl,hB⟩
end Go.Proofs.YtdoaeapahgmfoaaGreatDoor
