/- lex.Unquote: what it means, how many bytes; or that none is. The first of the ops that begins a text. Plain data of the language's words: words, ops, kinds; the token that begins a text. No program stands here but its name. -/
import Derived.Lib.BufferRead
import Derived.Lib.SlTrimSet
import Derived.Lib.SlicesS
import Derived.Test.YtdoaeapahgmfoaaGreatDoorZ01
import Derived.Test.YtdoaeapahgmfoaaGreatDoorZ02
namespace Go.Proofs.YtdoaeapahgmfoaaGreatDoor
open Go.RowKit
def hexDigits:List UInt8:= [48,49,50,51,52,53,54,55,56,57,97,98,99,100,101,102]
theorem hexDigits_contains (b:UInt8):hexDigits.contains b=(hexV b).isSome:=by
 have h:∀ n:Fin 256,hexDigits.contains (UInt8.ofNat n.val)=(hexV (UInt8.ofNat n.val)).isSome:=by decide +kernel
 have:=h ⟨b.toNat,b.toNat_lt⟩
 simpa using this
theorem drop_two (p:UInt8→Bool) (a b:UInt8):((([a,b].reverse.dropWhile p).reverse).dropWhile p= []) ↔ (p a=true∧p b=true):=by
 rcases ha:p a <;> rcases hb:p b <;> simp [List.dropWhile,ha,hb]
theorem trimS_two (a b:UInt8):(Lib.trimS [a,b] hexDigits= []) ↔ ((hexV a).isSome=true∧(hexV b).isSome=true):=by
 rw [← hexDigits_contains,← hexDigits_contains]
 exact drop_two _ a b
def unq:List UInt8→List UInt8→Nat→Option (List UInt8 × Nat)
 | [],_,_=>none
 | c :: r,acc,i=>
   if c.toNat=34 then some (acc,i+1)
   else if c.toNat < 32∨126 < c.toNat then none
   else if c.toNat≠92 then unq r (acc ++ [c]) (i+1)
   else match r with
    | []=>none
    | d :: r2=>
      if d.toNat=110 then unq r2 (acc ++ [10]) (i+2)
      else if d.toNat=34∨d.toNat=92 then unq r2 (acc ++ [d]) (i+2)
      else if d.toNat=120 then match r2 with
       | h1 :: h2 :: r3=>match hexV h1,hexV h2 with
         | some x,some y=>unq r3 (acc ++ [UInt8.ofNat (16 * x+y)]) (i+4)
         | _,_=>none
       | _=>none
      else none
theorem unq_cons (c:UInt8) (r acc:List UInt8) (i:Nat):unq (c :: r) acc i=
 if c.toNat=34 then some (acc,i+1)
 else if c.toNat < 32∨126 < c.toNat then none
 else if c.toNat≠92 then unq r (acc ++ [c]) (i+1)
 else match r with
  | []=>none
  | d :: r2=>
    if d.toNat=110 then unq r2 (acc ++ [10]) (i+2)
    else if d.toNat=34∨d.toNat=92 then unq r2 (acc ++ [d]) (i+2)
    else if d.toNat=120 then match r2 with
     | h1 :: h2 :: r3=>match hexV h1,hexV h2 with
       | some x,some y=>unq r3 (acc ++ [UInt8.ofNat (16 * x+y)]) (i+4)
       | _,_=>none
     | _=>none
    else none:=by
 rw [unq.eq_def]
section
variable {l acc:List UInt8} {k:Nat}
theorem unq_at (h:k < l.length):unq (l.drop k) acc k=unq (l[k] :: l.drop (k+1)) acc k:=by rw [List.drop_eq_getElem_cons h]
theorem unq_quote (h:k < l.length) (hc:l[k].toNat=34):unq (l.drop k) acc k=some (acc,k+1):=by rw [unq_at h,unq_cons,if_pos hc]
theorem unq_bad (h:k < l.length) (hc:l[k].toNat≠34) (hb:l[k].toNat < 32∨126 < l[k].toNat):unq (l.drop k) acc k=none:=by rw [unq_at h,unq_cons,if_neg hc,if_pos hb]
theorem unq_plain (h:k < l.length) (hc:l[k].toNat≠34) (hb:32≤l[k].toNat∧l[k].toNat≤126) (h2:l[k].toNat≠92):
 unq (l.drop k) acc k=unq (l.drop (k+1)) (acc ++ [l[k]]) (k+1):=by rw [unq_at h,unq_cons,if_neg hc,if_neg (by omega),if_pos h2]
theorem unq_end (h:k < l.length) (hc:l[k].toNat=92) (h1:l.length=k+1):unq (l.drop k) acc k=none:=by
 rw [unq_at h,unq_cons,if_neg (by omega),if_neg (by omega),if_neg (by omega),List.drop_eq_nil_of_le (by omega)]
theorem unq_esc (h:k+1 < l.length) (hc:l[k].toNat=92):unq (l.drop k) acc k=
 if l[k+1].toNat=110 then unq (l.drop (k+2)) (acc ++ [10]) (k+2)
 else if l[k+1].toNat=34∨l[k+1].toNat=92 then unq (l.drop (k+2)) (acc ++ [l[k+1]]) (k+2)
 else if l[k+1].toNat=120 then match l.drop (k+2) with
  | h1 :: h2 :: r3=>match hexV h1,hexV h2 with
    | some x,some y=>unq r3 (acc ++ [UInt8.ofNat (16 * x+y)]) (k+4)
    | _,_=>none
  | _=>none
  else none:=by
 rw [unq_at (by omega),unq_cons,if_neg (by omega),if_neg (by omega),if_neg (by omega),List.drop_eq_getElem_cons h]
theorem unq_hex (h:k+3 < l.length):(match (l.drop (k+2):List UInt8) with
         | h1 :: h2 :: r3=>match hexV h1,hexV h2 with
           | some x,some y=>unq r3 (acc ++ [UInt8.ofNat (16 * x+y)]) (k+4)
           | _,_=>none
         | _=>none:Option (List UInt8 × Nat))=match hexV l[k+2],hexV l[k+3] with
           | some x,some y=>unq (l.drop (k+4)) (acc ++ [UInt8.ofNat (16 * x+y)]) (k+4)
           | _,_=>none:=by
 rw [List.drop_eq_getElem_cons (show k+2 < l.length by omega),List.drop_eq_getElem_cons (show k+2+1 < l.length by omega)]
theorem unq_short (h:l.length≤k+3):(match (l.drop (k+2):List UInt8) with
         | h1 :: h2 :: r3=>match hexV h1,hexV h2 with
           | some x,some y=>unq r3 (acc ++ [UInt8.ofNat (16 * x+y)]) (k+4)
           | _,_=>none
         | _=>none:Option (List UInt8 × Nat))=none:=by
 have hl:(l.drop (k+2)).length≤1:=by simp;omega
 match hd:l.drop (k+2),hl with
 | [],_=>rfl
 | [_],_=>rfl
end
def unqS (l:List UInt8):Option (List UInt8 × Nat):=unq (l.drop 1) [] 1
def unqAns:Option (List UInt8 × Nat)→Value
 | some (t,n)=> .tuple #[.string ⟨t.toArray⟩,.int .i64 n,.bool true]
 | none=> .tuple #[.string ⟨#[]⟩,.int .i64 0,.bool false]
theorem Tryz.infoByte:(Tryz.prog.info? 5).map (fun i=>(i.zero,i.size,i.bytes))=some (some (.int .u8 0),1,1):=by kernel_rfl
def byteCells (l:List UInt8):List Value:=l.map fun b=>Value.int .u8 (b.toNat:Int)
theorem conv_own {B:Nat} {v:Value} {acc:List UInt8} {w:World} (h:w.ownsRow B 5 1 v acc.length (byteCells acc)):
 (convert 75 9 v).run Tryz.prog w= .ok (.string ⟨acc.toArray⟩) w:=by
 rcases h.2 with ⟨rfl,h0⟩ | ⟨g,cap,cur,rfl,_,hg,hn,hc,hsz,htake⟩
 · have:acc= []:=List.eq_nil_of_length_eq_zero h0
   subst this
   exact Lib.run_convert_nil_bytes w 75 9 5 0 Tryz.underlying75 Tryz.underlying5 Tryz.underlying9
 · refine run_convert_bytes_back w 75 9 5 ⟨g,0,none⟩ cap acc Tryz.underlying75 Tryz.underlying5 Tryz.underlying9 ?_
   intro j hj
   have hadd:(⟨g,0,none⟩:Addr).add j=⟨g,j,none⟩:=by unfold Addr.add;split <;> simp_all
   rw [hadd,cell_of_blk hg]
   have h1:(cur.toList.take (acc.length * 1))[j]? =(byteCells acc)[j]? :=by rw [htake]
   rw [List.getElem?_take_of_lt (by omega)] at h1
   rw [← Array.getElem?_toList,h1,byteCells,List.getElem?_map,List.getElem?_eq_getElem hj]
   rfl
theorem own_snoc {B:Nat} {v:Value} {acc:List UInt8} {c:UInt8} {w:World} (h:w.ownsRow B 5 1 v (acc.length+1) (byteCells acc ++ [.int .u8 (c.toNat:Int)])):
 w.ownsRow B 5 1 v (acc ++ [c]).length (byteCells (acc ++ [c])):=by
 simpa [byteCells] using h
theorem below_app {B:Nat} {w wr w1:World} {T sz n:Nat} {v:Value} {xs:List Value} {o:Obj} (hbel:Below B w wr) (hown:wr.ownsRow B T sz v n xs) (hg:(wr.alloc o).grownBy w1 v.ownBlock) (hB:B≤wr.heap.size):Below B w w1:=
 (hbel.alloc hB o).grown hg (by simp;omega) (fun k hk=>(hown.lt k hk).1)
theorem own_below {B T sz n:Nat} {w w':World} {v:Value} {xs:List Value} (h:w.ownsRow B T sz v n xs) (hb:Below w.heap.size w w'):w'.ownsRow B T sz v n xs:=by
 refine ⟨h.1,?_⟩
 rcases h.2 with h2 | ⟨g,cap,cur,rfl,h3,h4,h5⟩
 · exact .inl h2
 · exact .inr ⟨g,cap,cur,rfl,h3,by rw [hb.block g (lt_of_blk h4)];exact h4,h5⟩
theorem below_grow {B:Nat} {w w1 w2:World} (h:Below B w w1) (hB:B≤w1.heap.size) (k:Below w1.heap.size w1 w2):Below B w w2:=h.trans (k.mono hB)
theorem trim_hex (a b:UInt8) (w:World):
 Calls Tryz.prog 162 #[.string ⟨#[a,b]⟩,.string ⟨#[48,49,50,51,52,53,54,55,56,57,97,98,99,100,101,102]⟩] w
  fun e w'=>e= .returned (.string ⟨(Lib.trimS [a,b] hexDigits).toArray⟩)∧Below w.heap.size w w':=
 Any.strings_Trim_laid Tryz.lays160 (by kernel_rfl) ⟨#[a,b]⟩ ⟨#[48,49,50,51,52,53,54,55,56,57,97,98,99,100,101,102]⟩ w (by show (2:Nat)≤_;decide) (by decide) (ascii_of_all (by decide))
theorem trim_yes (a b:UInt8) (w:World) (ha:(hexV a).isSome=true) (hb:(hexV b).isSome=true):
 Calls Tryz.prog 162 #[.string ⟨#[a,b]⟩,.string ⟨#[48,49,50,51,52,53,54,55,56,57,97,98,99,100,101,102]⟩] w
  fun e w'=>e= .returned (.string ⟨#[]⟩)∧Below w.heap.size w w':=by
 have h:=(trimS_two a b).2 ⟨ha,hb⟩
 have:=trim_hex a b w
 rw [h] at this
 exact this
theorem trim_no (a b:UInt8) (w:World) (h:¬ ((hexV a).isSome=true∧(hexV b).isSome=true)):
 Calls Tryz.prog 162 #[.string ⟨#[a,b]⟩,.string ⟨#[48,49,50,51,52,53,54,55,56,57,97,98,99,100,101,102]⟩] w
  fun e w'=>∃ c t,e= .returned (.string ⟨(c :: t:List UInt8).toArray⟩)∧Below w.heap.size w w':=by
 have h2:Lib.trimS [a,b] hexDigits≠ []:=fun e=>h ((trimS_two a b).1 e)
 match ht:Lib.trimS [a,b] hexDigits,h2 with
 | c :: t,_=>
   have:=trim_hex a b w
   rw [ht] at this
   exact this.mono fun e w' ⟨h1,h2⟩=>⟨c,t,h1,h2⟩
theorem extract_two (s:ByteArray) (k:Nat) (h:k+3 < s.size):s.extract (k+2) (k+4)=⟨#[s[k+2]'(by omega),s[k+3]'h]⟩:=by
 apply ByteArray.ext
 apply Array.ext
 · simp;omega
 · intro i h1 h2
   simp at h1 h2
   match i,h2 with
   | 0,_=>simp;rfl
   | 1,_=>simp;rfl
set_option maxRecDepth 100000 in
set_option maxHeartbeats 2000000 in
theorem unquote_any (s:ByteArray) (w:World) (hs:s.size≤6000) (h0:1≤s.size):
 Calls Tryz.prog 135 #[.string s] w fun e w'=>e= .returned (unqAns (unqS s.data.toList))∧Below w.heap.size w w':=by
 obtain ⟨i0,hi,hz0,hz1,hz2⟩:=info_parts Tryz.infoByte
 go_enter Tryz.func135,Tryz.ntmps135
 go_wp2_with fail
 go_loopw [5,6] (fun v i wr=>∃ (k:Nat) (acc:List UInt8),1≤k∧k≤s.size∧acc.length≤k∧i= .int .i64 k∧wr.ownsRow w.heap.size 5 1 v acc.length (byteCells acc)∧Below w.heap.size w wr∧
  unq (s.data.toList.drop k) acc k=unqS s.data.toList) (fun _ i _=>s.size - (intOf i).toNat)
 case atStart=>exact ⟨1,[],by omega,h0,by simp,rfl,World.ownsRow_nil _ _ _ _,Below.refl _ _,rfl⟩
 case round=>
  obtain ⟨k,acc,hk1,hk,hacc,rfl,hown,hbel,hunq⟩:=hrel
  have Hu:=Lib.hid hunq;clear hunq
  by_cases hlt:k < s.size
  · have hlt':k < s.data.toList.length:=by simpa using hlt
    by_cases hq:(s[k]'hlt).toNat=34
    · have hn:=unq_quote (acc:=acc) hlt' hq
      have Hn:=Lib.hid hn;clear hn
      have t1:(((s[k]'hlt).toNat:Int) == 34)=true:=by rw [hq];rfl
      have kc:=conv_own hown
      clear hq
      go_wp2_with fail
      refine bodyPost_ret (results_tmp3 rfl _ _ _) rfl ?_
      exact ⟨by rw [← Hu.out,Hn.out];rfl,hbel⟩
    have t1:(((s[k]'hlt).toNat:Int) == 34)=false:=by rw [beq_eq_false_iff_ne];omega
    by_cases hb:(s[k]'hlt).toNat < 32∨126 < (s[k]'hlt).toNat
    · have hn:=unq_bad (acc:=acc) hlt' hq hb
      have Hn:=Lib.hid hn;clear hn hq
      rcases hb with hb | hb
      all_goals
       go_wp2_with fail
       refine bodyPost_ret (results_tmp3 rfl _ _ _) rfl ?_
       exact ⟨by rw [← Hu.out,Hn.out];rfl,hbel⟩
    have hb1:32≤(s[k]'hlt).toNat:=by omega
    have hb2:(s[k]'hlt).toNat≤126:=by omega
    clear hb
    by_cases h92:(s[k]'hlt).toNat=92
    · have t2:(((s[k]'hlt).toNat:Int) != 92)=false:=by rw [h92];rfl
      by_cases hend:k+1 < s.size
      · have hl1:k+1 < s.data.toList.length:=by simpa using hend
        have he:=unq_esc (acc:=acc) hl1 h92
        have He:=Lib.hid he;clear he hq h92
        have t3:((k:Int)+1 == (s.size:Int))=false:=by rw [beq_eq_false_iff_ne];omega
        by_cases d1:(s[k+1]'hend).toNat=110
        · have hn:=He.out.trans (if_pos d1)
          have u1:(((s[k+1]'hend).toNat:Int) == 110)=true:=by rw [d1];rfl
          have Hn:=Lib.hid hn;clear hn d1
          go_wp2_with (at_builtin;refine wpList_append_own (wr.alloc (.cells #[.int .u8 10] 5)) rfl (.tmp 53) (.tmp 54) 75 rfl w.heap.size 5 i0 _ 1 1 Tryz.underlying75 hi hz0 hz1 hz2 rfl (by decide) _ acc.length (byteCells acc) rfl (hown.alloc _) ⟨wr.heap.size,0,none⟩ 1 1 [.int .u8 10] rfl rfl (World.news_of_block (cs:= #[.int .u8 10]) (heap_alloc_new wr _)) (by simp [Value.oneCell']) (by unfold maxLen;omega) (by omega) (by have:=hbel.size;simp;omega) ?_;intro v' w1 hown1 hgrow1 _)
          go_roundw
          case rel=>exact ⟨k+2,acc ++ [10],by omega,by omega,by simp;omega,by go_num,own_snoc (c:=10) hown1,below_app hbel hown hgrow1 hbel.size,by rw [← Hu.out,Hn.out]⟩
          case measure=>simp [intOf];omega
        have hn1:=He.out.trans (if_neg d1)
        have u1:(((s[k+1]'hend).toNat:Int) == 110)=false:=by rw [beq_eq_false_iff_ne];omega
        have He:=Lib.hid hn1;clear hn1
        by_cases d2:(s[k+1]'hend).toNat=34∨(s[k+1]'hend).toNat=92
        · have hn:=He.out.trans (if_pos d2)
          have Hn:=Lib.hid hn;clear hn d1
          have Hd:=Lib.hid d2
          rcases d2 with d2 | d2
          · have u2:(((s[k+1]'hend).toNat:Int) == 34)=true:=by rw [d2];rfl
            clear d2
            go_wp2_with (at_builtin;refine wpList_append_own (wr.alloc (.cells #[.int .u8 (s[k+1]'hend).toNat] 5)) rfl (.tmp 59) (.tmp 63) 75 rfl w.heap.size 5 i0 _ 1 1 Tryz.underlying75 hi hz0 hz1 hz2 rfl (by decide) _ acc.length (byteCells acc) rfl (hown.alloc _) ⟨wr.heap.size,0,none⟩ 1 1 [.int .u8 (s[k+1]'hend).toNat] rfl rfl (World.news_of_block (cs:= #[.int .u8 (s[k+1]'hend).toNat]) (heap_alloc_new wr _)) (by simp [Value.oneCell']) (by unfold maxLen;omega) (by omega) (by have:=hbel.size;simp;omega) ?_;intro v' w1 hown1 hgrow1 _)
            go_roundw
            case rel=>exact ⟨k+2,acc ++ [s[k+1]'hend],by omega,by omega,by simp;omega,by go_num,own_snoc hown1,below_app hbel hown hgrow1 hbel.size,by rw [← Hu.out,Hn.out];rfl⟩
            case measure=>simp [intOf];omega
          · have u2:(((s[k+1]'hend).toNat:Int) == 34)=false:=by rw [beq_eq_false_iff_ne];omega
            have u3:(((s[k+1]'hend).toNat:Int) == 92)=true:=by rw [d2];rfl
            clear d2
            go_wp2_with (at_builtin;refine wpList_append_own (wr.alloc (.cells #[.int .u8 (s[k+1]'hend).toNat] 5)) rfl (.tmp 59) (.tmp 63) 75 rfl w.heap.size 5 i0 _ 1 1 Tryz.underlying75 hi hz0 hz1 hz2 rfl (by decide) _ acc.length (byteCells acc) rfl (hown.alloc _) ⟨wr.heap.size,0,none⟩ 1 1 [.int .u8 (s[k+1]'hend).toNat] rfl rfl (World.news_of_block (cs:= #[.int .u8 (s[k+1]'hend).toNat]) (heap_alloc_new wr _)) (by simp [Value.oneCell']) (by unfold maxLen;omega) (by omega) (by have:=hbel.size;simp;omega) ?_;intro v' w1 hown1 hgrow1 _)
            go_roundw
            case rel=>exact ⟨k+2,acc ++ [s[k+1]'hend],by omega,by omega,by simp;omega,by go_num,own_snoc hown1,below_app hbel hown hgrow1 hbel.size,by rw [← Hu.out,Hn.out];rfl⟩
            case measure=>simp [intOf];omega
        have hn2:=He.out.trans (if_neg d2)
        have u2:(((s[k+1]'hend).toNat:Int) == 34)=false:=by rw [beq_eq_false_iff_ne];omega
        have u3:(((s[k+1]'hend).toNat:Int) == 92)=false:=by rw [beq_eq_false_iff_ne];omega
        have He:=Lib.hid hn2;clear hn2
        by_cases d3:(s[k+1]'hend).toNat=120
        · have hn3:=He.out.trans (if_pos d3)
          have u4:(((s[k+1]'hend).toNat:Int) == 120)=true:=by rw [d3];rfl
          have He:=Lib.hid hn3;clear hn3 d1 d2 d3
          by_cases hsh:k+3 < s.size
          · have hx:=He.out.trans (unq_hex (by simpa using hsh))
            obtain ⟨a,ha⟩:∃ a,s[k+2]'(by omega)=a:=⟨_,rfl⟩
            obtain ⟨b,hb⟩:∃ b,s[k+3]'hsh=b:=⟨_,rfl⟩
            have hsl:∀ w:World,(Instr.slice 9 (.string s) (some (.int .i64 ((k:Int)+1+1))) (some (.int .i64 ((k:Int)+1+3))) none).run Tryz.prog w= .ok (.string ⟨#[a,b]⟩) w:=by
             intro w
             rw [run_slice_string w 9 s .i64 .i64 _ _ Tryz.underlying9 (by omega) (by omega) (by omega),
              show ((k:Int)+1+1).toNat=k+2 from by omega,show ((k:Int)+1+3).toNat=k+4 from by omega,extract_two s k hsh,ha,hb]
            have hx2:unq (List.drop k s.data.toList) acc k=match hexV a,hexV b with
             | some x,some y=>unq (List.drop (k+4) s.data.toList) (acc ++ [UInt8.ofNat (16 * x+y)]) (k+4)
             | _,_=>none:=by rw [← ha,← hb];exact hx
            have He:=Lib.hid hx2;clear hx hx2 ha hb
            by_cases hex:(hexV a).isSome=true∧(hexV b).isSome=true
            · obtain ⟨hxa,hxb⟩:=hex
              obtain ⟨x,hxa'⟩:=Option.isSome_iff_exists.1 hxa
              obtain ⟨y,hxb'⟩:=Option.isSome_iff_exists.1 hxb
              have hn:unq (List.drop k s.data.toList) acc k=unq (List.drop (k+4) s.data.toList) (acc ++ [UInt8.ofNat (16 * x+y)]) (k+4):=by rw [He.out,hxa',hxb']
              have Hn:=Lib.hid hn;clear hn
              have hx16:=(hexV_lt hxa').1
              have hy16:=(hexV_lt hxb').1
              have Hxa:=Lib.hid hxa;have Hxb:=Lib.hid hxb;have Hxa':=Lib.hid hxa';have Hxb':=Lib.hid hxb'
              clear hxa hxb hxa' hxb'
              go_wp2_with fail
              refine (trim_yes a b _ Hxa.out Hxb.out).mono ?_
              rintro e w2 ⟨rfl,hB2⟩
              have hown2:=own_below hown hB2
              have hbel2:=below_grow hbel hbel.size hB2
              clear hown hbel hB2
              go_wp2_with fail
              refine (parse16 a b x y Hxa'.out Hxb'.out _).mono ?_
              rintro e w3 ⟨rfl,hB3⟩
              have hown3:=own_below hown2 hB3
              have hbel3:=below_grow hbel2 hbel2.size hB3
              clear hown2 hbel2 hB3
              have hv:16 * (x:Int)+y=((UInt8.ofNat (16 * x+y)).toNat:Int):=by simp;omega
              have Hv:=Lib.hid hv;clear hv
              go_wp2_with (at_builtin;refine wpList_append_own (w3.alloc (.cells #[.int .u8 (16 * (x:Int)+y)] 5)) rfl (.tmp 94) (.tmp 97) 75 rfl w.heap.size 5 i0 _ 1 1 Tryz.underlying75 hi hz0 hz1 hz2 rfl (by decide) _ acc.length (byteCells acc) rfl (hown3.alloc _) ⟨w3.heap.size,0,none⟩ 1 1 [.int .u8 (16 * (x:Int)+y)] rfl rfl (World.news_of_block (cs:= #[.int .u8 (16 * (x:Int)+y)]) (heap_alloc_new w3 _)) (by simp [Value.oneCell']) (by unfold maxLen;omega) (by omega) (by have:=hbel3.size;simp;omega) ?_;intro v' w1 hown1 hgrow1 _)
              go_roundw
              case rel=>exact ⟨k+4,acc ++ [UInt8.ofNat (16 * x+y)],by omega,by omega,by simp;omega,by go_num,own_snoc (by rw [← Hv.out];exact hown1),below_app hbel3 hown3 hgrow1 hbel3.size,by rw [← Hu.out,Hn.out]⟩
              case measure=>simp [intOf];omega
            · have hn:unq (List.drop k s.data.toList) acc k=none:=by
               rw [He.out]
               rcases ha:hexV a with _ | x
               · rfl
               · rcases hb:hexV b with _ | y
                 · rfl
                 · exact absurd ⟨by rw [ha];rfl,by rw [hb];rfl⟩ hex
              have Hn:=Lib.hid hn;have Hex:=Lib.hid hex;clear hn hex
              go_wp2_with fail
              refine (trim_no a b _ Hex.out).mono ?_
              rintro e w2 ⟨c,t,rfl,hB2⟩
              have hbel2:=below_grow hbel hbel.size hB2
              clear hB2
              go_wp2_with fail
              refine bodyPost_ret (results_tmp3 rfl _ _ _) rfl ?_
              exact ⟨by rw [← Hu.out,Hn.out];rfl,hbel2⟩
          · have hn:=He.out.trans (unq_short (by simp;omega))
            have Hn:=Lib.hid hn;clear hn
            go_wp2_with fail
            refine bodyPost_ret (results_tmp3 rfl _ _ _) rfl ?_
            exact ⟨by rw [← Hu.out,Hn.out];rfl,hbel⟩
        · have hn:=He.out.trans (if_neg d3)
          have u4:(((s[k+1]'hend).toNat:Int) == 120)=false:=by rw [beq_eq_false_iff_ne];omega
          have Hn:=Lib.hid hn;clear hn d1 d2 d3
          go_wp2_with fail
          refine bodyPost_ret (results_tmp3 rfl _ _ _) rfl ?_
          exact ⟨by rw [← Hu.out,Hn.out];rfl,hbel⟩
      · have hn:=unq_end (acc:=acc) hlt' h92 (by simp;omega)
        have Hn:=Lib.hid hn;clear hn hq h92
        have t3:((k:Int)+1 == (s.size:Int))=true:=by rw [beq_iff_eq];omega
        go_wp2_with fail
        refine bodyPost_ret (results_tmp3 rfl _ _ _) rfl ?_
        exact ⟨by rw [← Hu.out,Hn.out];rfl,hbel⟩
    · have hn:=unq_plain (acc:=acc) hlt' hq ⟨hb1,hb2⟩ h92
      have t2:(((s[k]'hlt).toNat:Int) != 92)=true:=by rw [bne_iff_ne];omega
      have Hn:=Lib.hid hn;clear hn hq h92
      go_wp2_with (at_builtin;refine wpList_append_own (wr.alloc (.cells #[.int .u8 (s[k]'hlt).toNat] 5)) rfl (.tmp 36) (.tmp 38) 75 rfl w.heap.size 5 i0 _ 1 1 Tryz.underlying75 hi hz0 hz1 hz2 rfl (by decide) _ acc.length (byteCells acc) rfl (hown.alloc _) ⟨wr.heap.size,0,none⟩ 1 1 [.int .u8 (s[k]'hlt).toNat] rfl rfl (World.news_of_block (cs:= #[.int .u8 (s[k]'hlt).toNat]) (heap_alloc_new wr _)) (by simp [Value.oneCell']) (by unfold maxLen;omega) (by omega) (by have:=hbel.size;simp;omega) ?_;intro v' w1 hown1 hgrow1 _)
      go_roundw
      case rel=>exact ⟨k+1,acc ++ [s[k]'hlt],by omega,by omega,by simp;omega,by go_num,own_snoc hown1,below_app hbel hown hgrow1 hbel.size,by rw [← Hu.out,Hn.out];rfl⟩
      case measure=>simp [intOf];omega
  · have hn:unq (s.data.toList.drop k) acc k=none:=by rw [List.drop_eq_nil_of_le (by simp;omega)];rfl
    have Hn:=Lib.hid hn;clear hn
    go_wp2_with fail
    refine bodyPost_ret (results_tmp3 rfl _ _ _) rfl ?_
    exact ⟨by rw [← Hu.out,Hn.out];rfl,hbel⟩
end Go.Proofs.YtdoaeapahgmfoaaGreatDoor
namespace Go.Proofs.YtdoaeapahgmfoaaGreatDoor
open Go.RowKit
structure TextFn (f:Nat) (cap:Value) (p:ByteArray→Bool) (w:World):Prop where
 enters:∀ (args:Array Value) (w:World),(callFunc f args).run Tryz.prog w= .ok (.enter f args) w
 answers:∀ (o:ByteArray),Calls Tryz.prog f #[.string o,cap] w fun e w'=>e= .returned (.bool (p o))∧w=w'
def firstI (p:ByteArray→Bool) (zs:List ByteArray):Int:=match zs.findIdx? p with
 | some k=>(k:Int)
 | none=> -1
theorem firstI_found {p:ByteArray→Bool} {zs:List ByteArray} {k:Nat} (hk:k < zs.length) (h:∀ j (hj:j < k),p (zs[j]'(by omega))=false) (hp:p zs[k]=true):firstI p zs=(k:Int):=by
 have:zs.findIdx? p=some k:=by
  rw [List.findIdx?_eq_some_iff_getElem]
  exact ⟨hk,hp,fun j hj=>by simpa using h j hj⟩
 simp [firstI,this]
theorem firstI_none {p:ByteArray→Bool} {zs:List ByteArray} (h:∀ j (hj:j < zs.length),p zs[j]=false):firstI p zs= -1:=by
 have:zs.findIdx? p=none:=by
  rw [List.findIdx?_eq_none_iff]
  intro z hz
  obtain ⟨j,hj,rfl⟩:=List.mem_iff_getElem.1 hz
  simpa using h j hj
 simp [firstI,this]
set_option maxRecDepth 100000 in
set_option maxHeartbeats 400000 in
theorem indexFunc_any (f:Nat) (cap:Value) (p:ByteArray→Bool) (w:World) (hf:TextFn f cap p w) (b off n c:Nat) (zs:List ByteArray) (hz:zs.length=n) (hn:n≤1000)
 (hc:∀ j (hj:j < zs.length),w.cell? ⟨b,off+j,none⟩=some (.string zs[j])):
 Calls Tryz.prog 136 #[.slice (some ⟨b,off,none⟩) n c,.func (.func f) #[] #[cap]] w fun e w'=>e= .returned (.int .i64 (firstI p zs))∧w=w':=by
 subst hz
 have he:=hf.enters
 have Hc:=Lib.hid hc;clear hc
 go_enter Tryz.func136,Tryz.ntmps136
 go_wp2_with fail
 go_loop [8] (fun i=>∃ k:Nat,k≤zs.length∧i= .int .i64 k∧∀ j (hj:j < k) (hj2:j < zs.length),p zs[j]=false) (fun i=>zs.length - (intOf i).toNat)
 case atStart=>exact ⟨0,by omega,rfl,fun j hj=>by omega⟩
 case round=>
  obtain ⟨k,hk,rfl,hno⟩:=hrel
  have Hno:=Lib.hid hno;clear hno
  by_cases hlt:k < zs.length
  · have hcell:w.cell? ⟨b,off+k,none⟩=some (.string zs[k]):=Hc.out k hlt
    obtain ⟨o,ho⟩:∃ o,zs[k]=o:=⟨_,rfl⟩
    rw [ho] at hcell
    have Ho:=Lib.hid ho;clear ho
    go_wp2_with fail
    refine (hf.answers o).mono ?_;rintro e w' ⟨rfl,rfl⟩
    by_cases hp:p o=true
    · go_wp2_with fail
      go_ret
      exact ⟨ret_i64 (by rw [firstI_found hlt (fun j hj=>Hno.out j hj (by omega)) (by rw [Ho.out];exact hp)]),rfl⟩
    · have hp':p o=false:=by simpa using hp
      clear hp
      go_wp2_with fail
      go_round
      case rel=>exact ⟨k+1,by omega,by go_num,fun j hj hj2=>by
       by_cases e:j=k
       · subst e;rw [Ho.out];exact hp'
       · exact Hno.out j (by omega) hj2⟩
      case measure=>simp [intOf];omega
  · go_wp2_with fail
    go_ret
    exact ⟨ret_i64 (by rw [firstI_none (fun j hj=>Hno.out j (by omega) hj)]),rfl⟩
theorem enters_isop (args:Array Value) (w:World):(callFunc 137 args).run Tryz.prog w= .ok (.enter 137 args) w:=by kernel_rfl
set_option maxHeartbeats 400000 in
theorem isop_any (r o:ByteArray) (b:Nat) (w:World) (hb:w.cell? ⟨b,0,none⟩=some (.string r)):
 Calls Tryz.prog 137 #[.string o,.pointer (some ⟨b,0,none⟩)] w fun e w'=>e= .returned (.bool (Lib.hasPrefix r.data.toList o.data.toList))∧w=w':=by
 go_enter Tryz.func137,Tryz.ntmps137
 go_wp2_with fail
 refine (Tryz.strings_HasPrefix r o _).mono ?_
 rintro e w' ⟨rfl,rfl⟩
 go_wp2_with fail
 go_ret
 exact ⟨rfl,rfl⟩
theorem isop_fn (r:ByteArray) (b:Nat) (w:World) (hb:w.cell? ⟨b,0,none⟩=some (.string r)):
 TextFn 137 (.pointer (some ⟨b,0,none⟩)) (fun o=>Lib.hasPrefix r.data.toList o.data.toList) w:=⟨enters_isop,fun o=>isop_any r o b w hb⟩
end Go.Proofs.YtdoaeapahgmfoaaGreatDoor
namespace Go.Proofs.YtdoaeapahgmfoaaGreatDoor
open Go.RowKit
def wordsL:List (List UInt8):= [[97,110,100],[98,114,101,97,107],[99,111,110,116,105,110,117,101],[100,101,102],[100,101,108],[101,108,105,102],[101,108,115,101],[101,120,99,101,112,116],[70,97,108,115,101],[102,111,114],[103,108,111,98,97,108],[105,102],[105,110],[105,115],[108,97,109,98,100,97],[78,111,110,101],[110,111,110,108,111,99,97,108],[110,111,116],[111,114],[112,97,115,115],[114,97,105,115,101],[114,101,116,117,114,110],[84,114,117,101],[116,114,121],[119,104,105,108,101]]
def opsL:List (List UInt8):= [[61,61],[33,61],[60,61],[62,61],[47,47],[60],[62],[61],[43],[45],[42],[37],[40],[41],[91],[93],[123],[125],[44],[58],[46]]
def kName:List UInt8:= [110,97,109,101]
def kWord:List UInt8:= [119,111,114,100]
def kInt:List UInt8:= [105,110,116]
def kStr:List UInt8:= [115,116,114]
def kOp:List UInt8:= [111,112]
def kNewline:List UInt8:= [110,101,119,108,105,110,101]
def kIndent:List UInt8:= [105,110,100,101,110,116]
def kDedent:List UInt8:= [100,101,100,101,110,116]
def kEnd:List UInt8:= [101,110,100]
def toBA (l:List UInt8):ByteArray:=⟨l.toArray⟩
theorem toBA_list (l:List UInt8):(toBA l).data.toList=l:=rfl
theorem toBA_of (s:ByteArray):toBA s.data.toList=s:=rfl
def upB (b:UInt8):Bool:=decide (65≤b.toNat∧b.toNat≤90)
def parsesInt (t:List UInt8):Bool:=match Lib.parseIntB 64 t with
 | .ok _=>true
 | _=>false
def tokL (r:List UInt8):Option (List UInt8 × List UInt8 × Nat):=
 match r with
 | []=>none
 | c :: _=>
   if lowB c=true∨upB c=true then
    if wordsL.contains (r.take (spanL wordB r 1)) then some (kWord,r.take (spanL wordB r 1),spanL wordB r 1)
    else if lowB c=true∧spanL wordB r 1≤16 then some (kName,r.take (spanL wordB r 1),spanL wordB r 1) else none
   else if digitB c=true then
    if parsesInt (r.take (spanL digitB r 0))=true∧¬ (1 < spanL digitB r 0∧c.toNat=48) then some (kInt,r.take (spanL digitB r 0),spanL digitB r 0) else none
   else if c.toNat=34 then match unqS r with
    | some (t,n)=>some (kStr,t,n)
    | none=>none
   else match opsL.find? (fun o=>o.isPrefixOf r) with
    | some o=>some (kOp,o,o.length)
    | none=>none
theorem spanL_drop (p:UInt8→Bool) (l:List UInt8) (i j:Nat):spanL p l (i+j)=i+spanL p (l.drop i) j:=by
 unfold spanL;rw [List.drop_drop];omega
structure Glob (B:Nat) (w:World):Prop where
 hB:18≤B
 words:∃ b o c,w.cell? ⟨8,0,none⟩=some (.slice (some ⟨b,o,none⟩) 25 c)∧b < B∧∀ j (hj:j < (wordsL.map toBA).length),w.cell? ⟨b,o+j,none⟩=some (.string (wordsL.map toBA)[j])
 ops:∃ b o c,w.cell? ⟨9,0,none⟩=some (.slice (some ⟨b,o,none⟩) 21 c)∧b < B∧∀ j (hj:j < (opsL.map toBA).length),w.cell? ⟨b,o+j,none⟩=some (.string (opsL.map toBA)[j])
 syn:∃ te pe,w.cell? ⟨13,0,none⟩=some (.iface te pe)
 ran:∃ te pe,w.cell? ⟨14,0,none⟩=some (.iface te pe)
theorem Glob.below {B:Nat} {w w':World} (h:Glob B w) (hb:Below B w w'):Glob B w':=by
 have hB:=h.hB
 refine ⟨h.hB,?_,?_,?_,?_⟩
 · obtain ⟨b,o,c,h1,h2,h3⟩:=h.words
   exact ⟨b,o,c,(hb.cell (p:=⟨8,0,none⟩) (by show 8 < B;omega)).trans h1,h2,fun j hj=>(hb.cell (p:=⟨b,o+j,none⟩) h2).trans (h3 j hj)⟩
 · obtain ⟨b,o,c,h1,h2,h3⟩:=h.ops
   exact ⟨b,o,c,(hb.cell (p:=⟨9,0,none⟩) (by show 9 < B;omega)).trans h1,h2,fun j hj=>(hb.cell (p:=⟨b,o+j,none⟩) h2).trans (h3 j hj)⟩
 · obtain ⟨te,pe,h1⟩:=h.syn
   exact ⟨te,pe,(hb.cell (p:=⟨13,0,none⟩) (by show 13 < B;omega)).trans h1⟩
 · obtain ⟨te,pe,h1⟩:=h.ran
   exact ⟨te,pe,(hb.cell (p:=⟨14,0,none⟩) (by show 14 < B;omega)).trans h1⟩
theorem Glob.stp {x:Nat} {w w':World} {s:ByteArray} {i:Nat} {vo vp:Value} {ts:List Tok} {os:List Nat} (h:Glob (x - 1) w) (hl:LexC w x s i vo vp ts os) (hs:Stp x w w'):Glob (x - 1) w':=h.below (hs.below hl)
section
variable {w:World} {x i:Nat} {s:ByteArray} {vo vp:Value} {ts:List Tok} {os:List Nat}
theorem LexC.alloc (h:LexC w x s i vo vp ts os) (o:Obj):LexC (w.alloc o) x s i vo vp ts os∧Stp x w (w.alloc o):=by
 refine h.next (by rw [Below.heap_alloc _ _ _ h.lt];exact h.blk) (h.out.alloc o) (h.opn.alloc o) rfl rfl rfl (by simp) (fun k hk _ _ _=>Below.heap_alloc _ _ _ hk) (fun k e=> .inl e) (fun k e=> .inl e)
theorem LexC.safe_new (h:LexC w x s i vo vp ts os) (o:Obj):Safe (w.alloc o) x w.heap.size:=by
 have h1:=(h.alloc o).1
 have hx:=h.lt
 refine ⟨by simp,by omega,?_⟩
 intro s' i' vo' vp' T hh
 rw [h1.blk] at hh
 injection hh with hh
 injection hh with hh _
 simp only [Array.mk.injEq,List.cons.injEq,and_true] at hh
 obtain ⟨_,_,rfl,rfl⟩:=hh
 exact ⟨fun e=>by have:=h.out.lt _ e;omega,fun e=>by have:=h.opn.lt _ e;omega⟩
theorem LexC.grow {w':World} (h:LexC w x s i vo vp ts os) (hb:Below w.heap.size w w'):LexC w' x s i vo vp ts os∧Stp x w w':=
 h.next (by rw [hb.block x h.lt];exact h.blk) (own_below h.out hb) (own_below h.opn hb) hb.os hb.tape hb.output hb.size (fun k hk _ _ _=>hb.block k hk) (fun k e=> .inl e) (fun k e=> .inl e)
end
end Go.Proofs.YtdoaeapahgmfoaaGreatDoor
