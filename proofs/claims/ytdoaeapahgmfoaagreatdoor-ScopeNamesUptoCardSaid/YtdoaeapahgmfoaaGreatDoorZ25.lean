/- What the program's writer of statements computes, said without fuel: a rule for each arm; the rules fix the writer behind it. -/
import Derived.Test.YtdoaeapahgmfoaaGreatDoorZ13
namespace Go.Proofs.YtdoaeapahgmfoaaGreatDoor
open Go.RowKit
def term1X (f:Nat) (l:List Ex) (w:WS):Nat × WS:=match l with
 | a :: _=>termW f a 0 0 w
 | []=>(0,w)
def atX (f:Nat) (a b:Ex) (w:WS):Nat × WS:=
 let x:=termW f a 8 0 w
 let y:=termW f b 0 1 (x.2.deeper 0)
 (x.1+1+y.1+1,y.2)
mutual
def stmtX:Nat→Stm→Nat→WS→WS
 | 0,_,_,w=>w
 | f+1,s,deep,w=>
   let w:=w.right s
   if w.ok=false then w
   else if s.kind=sExpr then (let t:=term1X f s.l w;t.2.line t.1)
   else if s.kind=sSet then (let t:=term1X f s.l w;t.2.line (s.name.length+3+t.1))
   else if s.kind=sPut then (match s.l with
    | [a,b,c]=>(let x:=atX f a b w;let y:=termW f c 0 0 x.2;y.2.line (x.1+3+y.1))
    | _=>w)
   else if s.kind=sDel then (match s.l with
    | [a,b]=>(let x:=atX f a b w;x.2.line (4+x.1))
    | _=>w)
   else if s.kind=sIf then ifsX f 2 s deep w
   else if s.kind=sWhile then (let t:=term1X f s.l w;blockX f s.body (deep+1) (t.2.line (6+t.1+1)))
   else if s.kind=sFor then (let t:=term1X f s.l w;blockX f s.body (deep+1) (t.2.line (4+s.name.length+4+t.1+1)))
   else if s.kind=sDef then blockX f s.body (deep+1) ((w.namesW s.p).line (4+s.name.length+1+namesLen s.p+2))
   else if s.kind=sTry then blockX f s.els (deep+1) ((blockX f s.body (deep+1) (w.line 4)).line (7+s.name.length+1))
   else if s.kind=sReturn then (match s.l with
    | []=>w.line 6
    | a :: _=>(let t:=termW f a 0 0 w;t.2.line (7+t.1)))
   else if s.kind=sRaise then (let t:=term1X f s.l w;t.2.line (6+t.1))
   else if s.kind=sGlobal∨s.kind=sNonlocal then ((w.must (decide (0 < s.p.length))).namesW s.p).line (s.kind.length+1+namesLen s.p)
   else w.line s.kind.length
def ifsX:Nat→Nat→Stm→Nat→WS→WS
 | 0,_,_,_,w=>w
 | f+1,word,s,deep,w=>
   let t:=term1X f s.l w
   let w:=blockX f s.body (deep+1) (t.2.line (word+1+t.1+1))
   match s.els with
   | []=>w
   | [e]=>if e.kind=sIf then (let w:=w.right e;if w.ok=false then w else (let w:=w.look;if w.ok=false then w else ifsX f 4 e deep w))
     else blockX f [e] (deep+1) (w.line 5)
   | l=>blockX f l (deep+1) (w.line 5)
def blockX:Nat→List Stm→Nat→WS→WS
 | 0,_,_,w=>w
 | f+1,l,deep,w=>
   let w:=w.must (decide (0 < l.length) && decide (deep≤12))
   let w:=l.foldl (fun w s=>let w:=w.look;if w.ok=false then w else stmtX f s deep w) { w with inn:=w.inn+1 }
   { w with inn:=w.inn - 1 }
end
def SW (s:Stm) (deep:Nat) (st st':WS):Prop:=∃ F,∀ f,F≤f→stmtX f s deep st=st'
def IW (word:Nat) (s:Stm) (deep:Nat) (st st':WS):Prop:=∃ F,∀ f,F≤f→ifsX f word s deep st=st'
def BW (l:List Stm) (deep:Nat) (st st':WS):Prop:=∃ F,∀ f,F≤f→blockX f l deep st=st'
def RW (l:List Stm) (deep:Nat) (st st':WS):Prop:=∃ F,∀ f,F≤f→l.foldl (fun w s=>let w:=w.look;if w.ok=false then w else stmtX f s deep w) st=st'
theorem RW.det {l:List Stm} {deep:Nat} {st a b:WS} (h:RW l deep st a) (g:RW l deep st b):a=b:=by
 obtain ⟨F,h⟩:=h
 obtain ⟨G,g⟩:=g
 exact (h (F+G) (by omega)).symm.trans (g (F+G) (by omega))
theorem SW.step {s:Stm} {deep:Nat} {st st':WS} (F:Nat) (h:∀ f,F≤f→stmtX (f+1) s deep st=st'):SW s deep st st':=
 ⟨F+1,fun f hf=>by
   obtain ⟨g,rfl⟩:∃ g,f=g+1:=⟨f - 1,by omega⟩
   exact h g (by omega)⟩
theorem IW.step {s:Stm} {word deep:Nat} {st st':WS} (F:Nat) (h:∀ f,F≤f→ifsX (f+1) word s deep st=st'):IW word s deep st st':=
 ⟨F+1,fun f hf=>by
   obtain ⟨g,rfl⟩:∃ g,f=g+1:=⟨f - 1,by omega⟩
   exact h g (by omega)⟩
theorem BW.step {l:List Stm} {deep:Nat} {st st':WS} (F:Nat) (h:∀ f,F≤f→blockX (f+1) l deep st=st'):BW l deep st st':=
 ⟨F+1,fun f hf=>by
   obtain ⟨g,rfl⟩:∃ g,f=g+1:=⟨f - 1,by omega⟩
   exact h g (by omega)⟩
theorem RW.nil (deep:Nat) (st:WS):RW [] deep st st:=⟨0,fun _ _=>rfl⟩
theorem RW.off {l:List Stm} {s:Stm} {deep:Nat} {st a:WS} (h:RW l deep st a) (ho:a.look.ok=false):RW (l ++ [s]) deep st a.look:=by
 obtain ⟨F,h⟩:=h
 refine ⟨F,fun f hf=> ?_⟩
 rw [List.foldl_append,h f hf]
 simp only [List.foldl_cons,List.foldl_nil,ho,if_true]
theorem RW.on {l:List Stm} {s:Stm} {deep:Nat} {st a b:WS} (h:RW l deep st a) (ho:a.look.ok=true) (g:SW s deep a.look b):RW (l ++ [s]) deep st b:=by
 obtain ⟨F,h⟩:=h
 obtain ⟨G,g⟩:=g
 refine ⟨F+G,fun f hf=> ?_⟩
 rw [List.foldl_append,h f (by omega)]
 simp only [List.foldl_cons,List.foldl_nil,ho,Bool.true_eq_false,if_false]
 exact g f (by omega)
theorem RW.takeOff {l:List Stm} {j deep:Nat} {st a:WS} (hj:j < l.length) (h:RW (l.take j) deep st a) (ho:a.look.ok=false):RW (l.take (j+1)) deep st a.look:=by
 rw [take_snoc l j hj];exact h.off ho
theorem RW.takeOn {l:List Stm} {j deep:Nat} {st a b:WS} (hj:j < l.length) (h:RW (l.take j) deep st a) (ho:a.look.ok=true) (g:SW l[j] deep a.look b):RW (l.take (j+1)) deep st b:=by
 rw [take_snoc l j hj];exact h.on ho g
theorem BW.of {l:List Stm} {deep:Nat} {st b:WS} {c:Bool} (hc:(decide (0 < l.length) && decide (deep≤12))=c) (h:RW l deep { (st.must c) with inn:=st.inn+1 } b):BW l deep st { b with inn:=b.inn - 1 }:=by
 subst hc
 obtain ⟨F,h⟩:=h
 refine BW.step F fun f hf=> ?_
 rw [blockX]
 have:=h f hf
 exact congrArg (fun b:WS=>({ b with inn:=b.inn - 1 }:WS)) this
section
variable {s:Stm} {deep n m k:Nat} {st st1 st2 st3:WS}
theorem line_eq (h:m=n):({ st with len:=st.len+(4 * st.inn+m+1) }:WS)=st.line n:=by
 subst h
 unfold WS.line
 simp only [Nat.add_assoc]
theorem SW.off (h:(st.right s).ok=false):SW s deep st (st.right s):=SW.step 0 fun f _=>by
 rw [stmtX];simp only [h,if_true]
theorem SW.expr {a:Ex} (h:(st.right s).ok=true) (hk:s.kind=sExpr) (hl:s.l= [a]) (g:TW a 0 0 (st.right s) n st1):SW s deep st (st1.line n):=by
 obtain ⟨F,g⟩:=g
 refine SW.step F fun f hf=> ?_
 rw [stmtX];simp only [h,Bool.true_eq_false,if_false]
 rw [if_pos hk,hl];simp only [term1X];rw [g f hf]
theorem SW.set {a:Ex} (h:(st.right s).ok=true) (hk:s.kind=sSet) (hl:s.l= [a]) (g:TW a 0 0 (st.right s) n st1):SW s deep st (st1.line (s.name.length+3+n)):=by
 obtain ⟨F,g⟩:=g
 refine SW.step F fun f hf=> ?_
 rw [stmtX];simp only [h,Bool.true_eq_false,if_false]
 rw [if_neg (by rw [hk];decide),if_pos hk,hl];simp only [term1X];rw [g f hf]
theorem SW.put {a b c:Ex} (h:(st.right s).ok=true) (hk:s.kind=sPut) (hl:s.l= [a,b,c]) (g:TW a 8 0 (st.right s) n st1) (g2:TW b 0 1 (st1.deeper 0) m st2) (g3:TW c 0 0 st2 k st3):SW s deep st (st3.line (n+1+m+1+3+k)):=by
 obtain ⟨F,g⟩:=g
 obtain ⟨G,g2⟩:=g2
 obtain ⟨H,g3⟩:=g3
 refine SW.step (F+G+H) fun f hf=> ?_
 rw [stmtX];simp only [h,Bool.true_eq_false,if_false]
 rw [if_neg (by rw [hk];decide),if_neg (by rw [hk];decide),if_pos hk];simp only [hl,atX];rw [g f (by omega),g2 f (by omega),g3 f (by omega)]
theorem SW.del {a b:Ex} (h:(st.right s).ok=true) (hk:s.kind=sDel) (hl:s.l= [a,b]) (g:TW a 8 0 (st.right s) n st1) (g2:TW b 0 1 (st1.deeper 0) m st2):SW s deep st (st2.line (4+(n+1+m+1))):=by
 obtain ⟨F,g⟩:=g
 obtain ⟨G,g2⟩:=g2
 refine SW.step (F+G) fun f hf=> ?_
 rw [stmtX];simp only [h,Bool.true_eq_false,if_false]
 rw [if_neg (by rw [hk];decide),if_neg (by rw [hk];decide),if_neg (by rw [hk];decide),if_pos hk];simp only [hl,atX];rw [g f (by omega),g2 f (by omega)]
theorem SW.ifs (h:(st.right s).ok=true) (hk:s.kind=sIf) (g:IW 2 s deep (st.right s) st1):SW s deep st st1:=by
 obtain ⟨F,g⟩:=g
 refine SW.step F fun f hf=> ?_
 rw [stmtX];simp only [h,Bool.true_eq_false,if_false]
 rw [if_neg (by rw [hk];decide),if_neg (by rw [hk];decide),if_neg (by rw [hk];decide),if_neg (by rw [hk];decide),if_pos hk,g f hf]
theorem SW.while {a:Ex} (h:(st.right s).ok=true) (hk:s.kind=sWhile) (hl:s.l= [a]) (g:TW a 0 0 (st.right s) n st1) (g2:BW s.body (deep+1) (st1.line (6+n+1)) st2):SW s deep st st2:=by
 obtain ⟨F,g⟩:=g
 obtain ⟨G,g2⟩:=g2
 refine SW.step (F+G) fun f hf=> ?_
 rw [stmtX];simp only [h,Bool.true_eq_false,if_false]
 rw [if_neg (by rw [hk];decide),if_neg (by rw [hk];decide),if_neg (by rw [hk];decide),if_neg (by rw [hk];decide),if_neg (by rw [hk];decide),if_pos hk,hl];simp only [term1X];rw [g f (by omega),g2 f (by omega)]
theorem SW.for {a:Ex} (h:(st.right s).ok=true) (hk:s.kind=sFor) (hl:s.l= [a]) (g:TW a 0 0 (st.right s) n st1) (g2:BW s.body (deep+1) (st1.line (4+s.name.length+4+n+1)) st2):SW s deep st st2:=by
 obtain ⟨F,g⟩:=g
 obtain ⟨G,g2⟩:=g2
 refine SW.step (F+G) fun f hf=> ?_
 rw [stmtX];simp only [h,Bool.true_eq_false,if_false]
 rw [if_neg (by rw [hk];decide),if_neg (by rw [hk];decide),if_neg (by rw [hk];decide),if_neg (by rw [hk];decide),if_neg (by rw [hk];decide),if_neg (by rw [hk];decide),if_pos hk,hl];simp only [term1X];rw [g f (by omega),g2 f (by omega)]
theorem SW.def (h:(st.right s).ok=true) (hk:s.kind=sDef) (g:BW s.body (deep+1) (((st.right s).namesW s.p).line (4+s.name.length+1+namesLen s.p+2)) st2):SW s deep st st2:=by
 obtain ⟨F,g⟩:=g
 refine SW.step F fun f hf=> ?_
 rw [stmtX];simp only [h,Bool.true_eq_false,if_false]
 rw [if_neg (by rw [hk];decide),if_neg (by rw [hk];decide),if_neg (by rw [hk];decide),if_neg (by rw [hk];decide),if_neg (by rw [hk];decide),if_neg (by rw [hk];decide),if_neg (by rw [hk];decide),if_pos hk,g f hf]
theorem SW.try (h:(st.right s).ok=true) (hk:s.kind=sTry) (g:BW s.body (deep+1) ((st.right s).line 4) st1) (g2:BW s.els (deep+1) (st1.line (7+s.name.length+1)) st2):SW s deep st st2:=by
 obtain ⟨F,g⟩:=g
 obtain ⟨G,g2⟩:=g2
 refine SW.step (F+G) fun f hf=> ?_
 rw [stmtX];simp only [h,Bool.true_eq_false,if_false]
 rw [if_neg (by rw [hk];decide),if_neg (by rw [hk];decide),if_neg (by rw [hk];decide),if_neg (by rw [hk];decide),if_neg (by rw [hk];decide),if_neg (by rw [hk];decide),if_neg (by rw [hk];decide),if_neg (by rw [hk];decide),if_pos hk,g f (by omega),g2 f (by omega)]
theorem SW.return0 (h:(st.right s).ok=true) (hk:s.kind=sReturn) (hl:s.l= []):SW s deep st ((st.right s).line 6):=SW.step 0 fun f _=>by
 rw [stmtX];simp only [h,Bool.true_eq_false,if_false]
 rw [if_neg (by rw [hk];decide),if_neg (by rw [hk];decide),if_neg (by rw [hk];decide),if_neg (by rw [hk];decide),if_neg (by rw [hk];decide),if_neg (by rw [hk];decide),if_neg (by rw [hk];decide),if_neg (by rw [hk];decide),if_neg (by rw [hk];decide),if_pos hk];simp only [hl]
theorem SW.return1 {a:Ex} (h:(st.right s).ok=true) (hk:s.kind=sReturn) (hl:s.l= [a]) (g:TW a 0 0 (st.right s) n st1):SW s deep st (st1.line (7+n)):=by
 obtain ⟨F,g⟩:=g
 refine SW.step F fun f hf=> ?_
 rw [stmtX];simp only [h,Bool.true_eq_false,if_false]
 rw [if_neg (by rw [hk];decide),if_neg (by rw [hk];decide),if_neg (by rw [hk];decide),if_neg (by rw [hk];decide),if_neg (by rw [hk];decide),if_neg (by rw [hk];decide),if_neg (by rw [hk];decide),if_neg (by rw [hk];decide),if_neg (by rw [hk];decide),if_pos hk];simp only [hl];rw [g f hf]
theorem SW.raise {a:Ex} (h:(st.right s).ok=true) (hk:s.kind=sRaise) (hl:s.l= [a]) (g:TW a 0 0 (st.right s) n st1):SW s deep st (st1.line (6+n)):=by
 obtain ⟨F,g⟩:=g
 refine SW.step F fun f hf=> ?_
 rw [stmtX];simp only [h,Bool.true_eq_false,if_false]
 rw [if_neg (by rw [hk];decide),if_neg (by rw [hk];decide),if_neg (by rw [hk];decide),if_neg (by rw [hk];decide),if_neg (by rw [hk];decide),if_neg (by rw [hk];decide),if_neg (by rw [hk];decide),if_neg (by rw [hk];decide),if_neg (by rw [hk];decide),if_neg (by rw [hk];decide),if_pos hk,hl];simp only [term1X];rw [g f hf]
theorem SW.names {c:Bool} (h:(st.right s).ok=true) (hk:s.kind=sGlobal∨s.kind=sNonlocal) (hc:decide (0 < s.p.length)=c):SW s deep st ((((st.right s).must c).namesW s.p).line (s.kind.length+1+namesLen s.p)):=SW.step 0 fun f _=>by
 subst hc
 rw [stmtX];simp only [h,Bool.true_eq_false,if_false]
 rw [if_neg (by rcases hk with h | h <;> rw [h] <;> decide),if_neg (by rcases hk with h | h <;> rw [h] <;> decide),if_neg (by rcases hk with h | h <;> rw [h] <;> decide),if_neg (by rcases hk with h | h <;> rw [h] <;> decide),if_neg (by rcases hk with h | h <;> rw [h] <;> decide),
  if_neg (by rcases hk with h | h <;> rw [h] <;> decide),if_neg (by rcases hk with h | h <;> rw [h] <;> decide),if_neg (by rcases hk with h | h <;> rw [h] <;> decide),if_neg (by rcases hk with h | h <;> rw [h] <;> decide),if_neg (by rcases hk with h | h <;> rw [h] <;> decide),
  if_neg (by rcases hk with h | h <;> rw [h] <;> decide),if_pos hk]
theorem SW.word (h:(st.right s).ok=true) (hk:s.kind=sBreak∨s.kind=sContinue∨s.kind=sPass):SW s deep st ((st.right s).line s.kind.length):=SW.step 0 fun f _=>by
 rw [stmtX];simp only [h,Bool.true_eq_false,if_false]
 have hn:∀ o:List UInt8,o≠sBreak→o≠sContinue→o≠sPass→s.kind≠o:=fun o h1 h2 h3=>by
  rintro rfl
  exact hk.elim h1 fun e=>e.elim h2 h3
 rw [if_neg (hn _ (by decide) (by decide) (by decide)),if_neg (hn _ (by decide) (by decide) (by decide)),if_neg (hn _ (by decide) (by decide) (by decide)),if_neg (hn _ (by decide) (by decide) (by decide)),if_neg (hn _ (by decide) (by decide) (by decide)),
  if_neg (hn _ (by decide) (by decide) (by decide)),if_neg (hn _ (by decide) (by decide) (by decide)),if_neg (hn _ (by decide) (by decide) (by decide)),if_neg (hn _ (by decide) (by decide) (by decide)),if_neg (hn _ (by decide) (by decide) (by decide)),
  if_neg (hn _ (by decide) (by decide) (by decide)),if_neg fun e=>e.elim (hn _ (by decide) (by decide) (by decide)) (hn _ (by decide) (by decide) (by decide))]
theorem IW.none {a:Ex} (hl:s.l= [a]) (g:TW a 0 0 st n st1) (g2:BW s.body (deep+1) (st1.line (k+1+n+1)) st2) (he:s.els= []):IW k s deep st st2:=by
 obtain ⟨F,g⟩:=g
 obtain ⟨G,g2⟩:=g2
 refine IW.step (F+G) fun f hf=> ?_
 rw [ifsX];simp only [hl,term1X];rw [g f (by omega)];simp only;rw [g2 f (by omega)];simp only [he]
theorem IW.noRight {a:Ex} {e:Stm} (hl:s.l= [a]) (g:TW a 0 0 st n st1) (g2:BW s.body (deep+1) (st1.line (k+1+n+1)) st2) (he:s.els= [e]) (hk:e.kind=sIf) (hr:(st2.right e).ok=false):IW k s deep st (st2.right e):=by
 obtain ⟨F,g⟩:=g
 obtain ⟨G,g2⟩:=g2
 refine IW.step (F+G) fun f hf=> ?_
 rw [ifsX];simp only [hl,term1X];rw [g f (by omega)];simp only;rw [g2 f (by omega)];simp only [he]
 rw [if_pos hk,if_pos hr]
theorem IW.noLook {a:Ex} {e:Stm} (hl:s.l= [a]) (g:TW a 0 0 st n st1) (g2:BW s.body (deep+1) (st1.line (k+1+n+1)) st2) (he:s.els= [e]) (hk:e.kind=sIf) (hr:(st2.right e).ok=true) (hlk:(st2.right e).look.ok=false):IW k s deep st (st2.right e).look:=by
 obtain ⟨F,g⟩:=g
 obtain ⟨G,g2⟩:=g2
 refine IW.step (F+G) fun f hf=> ?_
 rw [ifsX];simp only [hl,term1X];rw [g f (by omega)];simp only;rw [g2 f (by omega)];simp only [he]
 rw [if_pos hk,if_neg (by rw [hr];decide),if_pos hlk]
theorem IW.elif {a:Ex} {e:Stm} (hl:s.l= [a]) (g:TW a 0 0 st n st1) (g2:BW s.body (deep+1) (st1.line (k+1+n+1)) st2) (he:s.els= [e]) (hk:e.kind=sIf) (hr:(st2.right e).ok=true) (hlk:(st2.right e).look.ok=true)
 (g3:IW 4 e deep (st2.right e).look st3):IW k s deep st st3:=by
 obtain ⟨F,g⟩:=g
 obtain ⟨G,g2⟩:=g2
 obtain ⟨H,g3⟩:=g3
 refine IW.step (F+G+H) fun f hf=> ?_
 rw [ifsX];simp only [hl,term1X];rw [g f (by omega)];simp only;rw [g2 f (by omega)];simp only [he]
 rw [if_pos hk,if_neg (by rw [hr];decide),if_neg (by rw [hlk];decide),g3 f (by omega)]
theorem IW.else {a:Ex} (hl:s.l= [a]) (g:TW a 0 0 st n st1) (g2:BW s.body (deep+1) (st1.line (k+1+n+1)) st2) (h0:s.els≠ []) (he:∀ e,s.els= [e]→e.kind≠sIf) (g3:BW s.els (deep+1) (st2.line 5) st3):IW k s deep st st3:=by
 obtain ⟨F,g⟩:=g
 obtain ⟨G,g2⟩:=g2
 obtain ⟨H,g3⟩:=g3
 refine IW.step (F+G+H) fun f hf=> ?_
 have g3:=g3 f (by omega)
 rw [ifsX];simp only [hl,term1X];rw [g f (by omega)];simp only;rw [g2 f (by omega)]
 rcases hs:s.els with _ | ⟨e,_ | ⟨e2,r⟩⟩
 · exact absurd hs h0
 · simp only
   rw [if_neg (he e hs),← hs,g3]
 · simp only
   rw [← hs,g3]
end
def NoText (l:List Stm):Prop:=∃ st,RW l 1 ⟨0,true,0,0⟩ st∧¬ (st.ok=true∧st.len≤6000)
theorem NoText.iff {l:List Stm} {st:WS} (h:RW l 1 ⟨0,true,0,0⟩ st):NoText l ↔ ¬ (st.ok=true∧st.len≤6000):=
 ⟨fun ⟨a,h1,h2⟩=>by rw [h.det h1];exact h2,fun hn=>⟨st,h,hn⟩⟩
end Go.Proofs.YtdoaeapahgmfoaaGreatDoor
