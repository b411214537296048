/- Programs as plain data: terms, statements; what the program's writer of texts computes: whether there is a text, and how long it is. Programs in memory: what it is that a slice of terms, of statements, reads as. -/
import Derived.Lib.ItoaNum
import Derived.Test.YtdoaeapahgmfoaaGreatDoorZ07
namespace Go.Proofs.YtdoaeapahgmfoaaGreatDoor
open Go.RowKit
inductive Ex where
 | mk (op:List UInt8) (n:Int) (s:List UInt8) (p:List (List UInt8)) (l:List Ex)
inductive Stm where
 | mk (kind name:List UInt8) (p:List (List UInt8)) (l:List Ex) (body els:List Stm)
def Ex.op:Ex→List UInt8
 | .mk o _ _ _ _=>o
def Ex.n:Ex→Int
 | .mk _ n _ _ _=>n
def Ex.s:Ex→List UInt8
 | .mk _ _ s _ _=>s
def Ex.p:Ex→List (List UInt8)
 | .mk _ _ _ p _=>p
def Ex.l:Ex→List Ex
 | .mk _ _ _ _ l=>l
def Stm.kind:Stm→List UInt8
 | .mk k _ _ _ _ _=>k
def Stm.name:Stm→List UInt8
 | .mk _ n _ _ _ _=>n
def Stm.p:Stm→List (List UInt8)
 | .mk _ _ p _ _ _=>p
def Stm.l:Stm→List Ex
 | .mk _ _ _ l _ _=>l
def Stm.body:Stm→List Stm
 | .mk _ _ _ _ b _=>b
def Stm.els:Stm→List Stm
 | .mk _ _ _ _ _ e=>e
mutual
def Ex.nodes:Ex→Nat
 | .mk _ _ _ _ l=>1+exsNodes l
def exsNodes:List Ex→Nat
 | []=>0
 | e :: r=>e.nodes+exsNodes r
end
mutual
def Stm.nodes:Stm→Nat
 | .mk _ _ _ l b e=>1+exsNodes l+stmsNodes b+stmsNodes e
def stmsNodes:List Stm→Nat
 | []=>0
 | s :: r=>s.nodes+stmsNodes r
end
def strsBulk (p:List (List UInt8)):Nat:=(p.map fun s=>s.length+1).sum
mutual
def Ex.bulk:Ex→Nat
 | .mk op _ s p l=>1+op.length+s.length+strsBulk p+exsBulk l
def exsBulk:List Ex→Nat
 | []=>0
 | e :: r=>e.bulk+exsBulk r
end
mutual
def Stm.bulk:Stm→Nat
 | .mk k n p l b e=>1+k.length+n.length+strsBulk p+exsBulk l+stmsBulk b+stmsBulk e
def stmsBulk:List Stm→Nat
 | []=>0
 | s :: r=>s.bulk+stmsBulk r
end
def oInt:List UInt8:= [105,110,116]
def oStr:List UInt8:= [115,116,114]
def oName:List UInt8:= [110,97,109,101]
def oNone:List UInt8:= [78,111,110,101]
def oTrue:List UInt8:= [84,114,117,101]
def oFalse:List UInt8:= [70,97,108,115,101]
def oNeg:List UInt8:= [110,101,103]
def oNot:List UInt8:= [110,111,116]
def oCall:List UInt8:= [99,97,108,108]
def oIndex:List UInt8:= [105,110,100,101,120]
def oList:List UInt8:= [108,105,115,116]
def oDict:List UInt8:= [100,105,99,116]
def oLambda:List UInt8:= [108,97,109,98,100,97]
def levelsL:List (List (List UInt8)):= [[[111,114]],[[97,110,100]],[],[[61,61],[33,61],[60],[60,61],[62],[62,61],[105,115],[105,110]],[[43],[45]],[[42],[47,47],[37]]]
def sExpr:List UInt8:= [101,120,112,114]
def sSet:List UInt8:= [115,101,116]
def sPut:List UInt8:= [112,117,116]
def sDel:List UInt8:= [100,101,108]
def sIf:List UInt8:= [105,102]
def sWhile:List UInt8:= [119,104,105,108,101]
def sFor:List UInt8:= [102,111,114]
def sDef:List UInt8:= [100,101,102]
def sReturn:List UInt8:= [114,101,116,117,114,110]
def sRaise:List UInt8:= [114,97,105,115,101]
def sTry:List UInt8:= [116,114,121]
def sBreak:List UInt8:= [98,114,101,97,107]
def sContinue:List UInt8:= [99,111,110,116,105,110,117,101]
def sPass:List UInt8:= [112,97,115,115]
def sGlobal:List UInt8:= [103,108,111,98,97,108]
def sNonlocal:List UInt8:= [110,111,110,108,111,99,97,108]
def nameOk (s:List UInt8):Bool:=decide (s.length≤6000) && (match lexL s with
 | .ok [a,_,_]=>a.kind == kName && a.text == s
 | _=>false)
def levelOf:List (List (List UInt8))→List UInt8→Nat→Nat
 | [],_,_=>8
 | l :: r,op,i=>if l.contains op then i+1 else levelOf r op (i+1)
def rankL (op:List UInt8):Nat:=if op=oLambda then 0 else if op=oNot then 3 else if op=oNeg then 7 else levelOf levelsL op 0
def bareL (e:Ex) (n s p:Bool) (parts:Option Nat):Bool:=
 (n || decide (e.n=0)) && (s || decide (e.s= [])) && (p || decide (e.p= [])) && (match parts with
   | none=>true
   | some k=>decide (e.l.length=k))
structure WS where
 n:Nat
 ok:Bool
 inn:Nat
 len:Nat
def WS.must (w:WS) (b:Bool):WS:= { w with ok:=w.ok && b }
def WS.look (w:WS):WS:= { w with n:=w.n+1,ok:=w.ok && decide (w.n+1≤6000) }
def WS.nameW (w:WS) (s:List UInt8):WS:=w.must (nameOk s)
def WS.deeper (w:WS) (deep:Nat):WS:=w.must (decide (deep < 12))
def WS.namesW (w:WS) (p:List (List UInt8)):WS:=p.foldl WS.nameW w
def joinLen (p:List Nat):Nat:=p.sum+2 * (p.length - 1)
def namesLen (p:List (List UInt8)):Nat:=joinLen (p.map List.length)
def intLen (n:Int):Nat:=(Lib.itoa n).length
def quoteLen (s:List UInt8):Nat:=(quotedL s).length
def termsW (term:Ex→WS→Nat × WS):List Ex→WS→List Nat × WS
 | [],w=>([],w)
 | e :: r,w=>
   let a:=term e w
   let b:=termsW term r a.2
   (a.1 :: b.1,b.2)
def dictW (term:Ex→WS→Nat × WS):List Ex→WS→List Nat × WS
 | k :: v :: r,w=>
   let a:=term k w
   let b:=term v a.2
   let c:=dictW term r b.2
   ((a.1+2+b.1) :: c.1,c.2)
 | _,w=>([],w)
def termW:Nat→Ex→Nat→Nat→WS→Nat × WS
 | 0,_,_,_,w=>(0,w)
 | f+1,e,least,deep,w=>
   let w:=w.look
   let k:=rankL e.op
   if w.ok=false then (0,w)
   else if k < least then
    let r:=termW f e 0 (deep+1) (w.deeper deep)
    (r.1+2,r.2)
   else if e.op=oInt then (intLen e.n,w.must (bareL e true false false (some 0) && decide (0≤e.n)))
   else if e.op=oStr then (quoteLen e.s,w.must (bareL e false true false (some 0)))
   else if e.op=oName then (e.s.length,(w.must (bareL e false true false (some 0))).nameW e.s)
   else if e.op=oNone∨e.op=oTrue∨e.op=oFalse then (e.op.length,w.must (bareL e false false false (some 0)))
   else if e.op=oNeg∨e.op=oNot then
    let w:=w.must (bareL e false false false (some 1))
    if w.ok=false then (0,w) else match e.l with
     | a :: _=>
       let r:=termW f a k (deep+1) (w.deeper deep)
       ((if e.op=oNot then 4 else 1)+r.1,r.2)
     | []=>(0,w)
   else if e.op=oCall then
    let w:=w.must (bareL e false false false none && decide (0 < e.l.length))
    if w.ok=false then (0,w) else match e.l with
     | a :: r=>
       let x:=termW f a 8 deep w
       let y:=termsW (fun e w=>termW f e 0 (deep+1) w) r (x.2.deeper deep)
       (x.1+1+joinLen y.1+1,y.2)
     | []=>(0,w)
   else if e.op=oIndex then
    let w:=w.must (bareL e false false false (some 2))
    if w.ok=false then (0,w) else match e.l with
     | [a,b]=>
       let x:=termW f a 8 deep w
       let y:=termW f b 0 (deep+1) (x.2.deeper deep)
       (x.1+1+y.1+1,y.2)
     | _=>(0,w)
   else if e.op=oList then
    let y:=termsW (fun e w=>termW f e 0 (deep+1) w) e.l ((w.must (bareL e false false false none)).deeper deep)
    (joinLen y.1+2,y.2)
   else if e.op=oDict then
    let w:=w.must (bareL e false false false none && decide (e.l.length % 2=0))
    if w.ok=false then (0,w) else
     let y:=dictW (fun e w=>termW f e 0 (deep+1) w) e.l (w.deeper deep)
     (joinLen y.1+2,y.2)
   else if e.op=oLambda then
    let w:=w.must (bareL e false false true (some 1))
    if w.ok=false then (0,w) else match e.l with
     | a :: _=>
       let w:=if e.p= [] then w else w.namesW e.p
       let r:=termW f a 0 (deep+1) (w.deeper deep)
       (6+(if e.p= [] then 0 else 1+namesLen e.p)+2+r.1,r.2)
     | []=>(0,w)
   else
    let w:=w.must (decide (1≤k) && decide (k≤6) && bareL e false false false (some 2))
    if w.ok=false then (0,w) else match e.l with
     | [a,b]=>
       let x:=termW f a (if k=4 then 5 else k) deep w
       let y:=termW f b (k+1) deep x.2
       (x.1+1+e.op.length+1+y.1,y.2)
     | _=>(0,w)
def WS.line (w:WS) (m:Nat):WS:= { w with len:=w.len+4 * w.inn+m+1 }
structure KindF where
 name:Bool
 names:Bool
 terms:Int
 body:Bool
 other:Bool
def kindsL:List (List UInt8 × KindF):= [(sExpr,⟨false,false,1,false,false⟩),(sSet,⟨true,false,1,false,false⟩),(sPut,⟨false,false,3,false,false⟩),(sDel,⟨false,false,2,false,false⟩),
 (sIf,⟨false,false,1,true,true⟩),(sWhile,⟨false,false,1,true,false⟩),(sFor,⟨true,false,1,true,false⟩),(sDef,⟨true,true,0,true,false⟩),(sReturn,⟨false,false,-1,false,false⟩),
 (sRaise,⟨false,false,1,false,false⟩),(sTry,⟨true,false,0,true,true⟩),(sBreak,⟨false,false,0,false,false⟩),(sContinue,⟨false,false,0,false,false⟩),(sPass,⟨false,false,0,false,false⟩),
 (sGlobal,⟨false,true,0,false,false⟩),(sNonlocal,⟨false,true,0,false,false⟩)]
def kindF (k:List UInt8):Option KindF:=(kindsL.find? fun x=>x.1 == k).map (·.2)
def formOk (s:Stm):Bool:=match kindF s.kind with
 | none=>false
 | some f=>(f.name || decide (s.name= [])) && (f.names || decide (s.p= [])) && (f.body || decide (s.body= [])) && (f.other || decide (s.els= [])) &&
    (decide ((s.l.length:Int)=f.terms) || (decide (f.terms < 0) && decide (s.l.length < 2)))
def hasName (s:Stm):Bool:=match kindF s.kind with
 | none=>false
 | some f=>f.name
def WS.right (w:WS) (s:Stm):WS:=
 let w:=w.must (formOk s)
 if w.ok && hasName s then w.nameW s.name else w
end Go.Proofs.YtdoaeapahgmfoaaGreatDoor
namespace Go.Proofs.YtdoaeapahgmfoaaGreatDoor
open Go.RowKit
def StrsAt (w:World) (G:Nat→Prop) (v:Value) (zs:List (List UInt8)):Prop:=∃ a c,v= .slice a zs.length c∧zs.length≤c∧
 (0 < zs.length→∃ b o,a=some ⟨b,o,none⟩∧G b∧∀ j (hj:j < zs.length),w.cell? ⟨b,o+j,none⟩=some (.string (toBA zs[j])))
mutual
def ExAt (w:World) (G:Nat→Prop):Ex→Nat→Nat→Prop
 | .mk op n s p l,b,o=>w.cell? ⟨b,o,none⟩=some (.string (toBA op))∧w.cell? ⟨b,o+1,none⟩=some (.int .i64 n)∧w.cell? ⟨b,o+2,none⟩=some (.string (toBA s))∧
   (∃ vp,w.cell? ⟨b,o+3,none⟩=some vp∧StrsAt w G vp p)∧
   ∃ al cl,w.cell? ⟨b,o+4,none⟩=some (.slice al l.length cl)∧l.length≤cl∧(0 < l.length→∃ b' o',al=some ⟨b',o',none⟩∧G b'∧ExRow w G l b' o')
def ExRow (w:World) (G:Nat→Prop):List Ex→Nat→Nat→Prop
 | [],_,_=>True
 | e :: r,b,o=>ExAt w G e b o∧ExRow w G r b (o+5)
end
def ExsAt (w:World) (G:Nat→Prop) (v:Value) (l:List Ex):Prop:=∃ a c,v= .slice a l.length c∧l.length≤c∧(0 < l.length→∃ b o,a=some ⟨b,o,none⟩∧G b∧ExRow w G l b o)
mutual
def StmAt (w:World) (G:Nat→Prop):Stm→Nat→Nat→Prop
 | .mk k n p l bd el,b,o=>w.cell? ⟨b,o,none⟩=some (.string (toBA k))∧w.cell? ⟨b,o+1,none⟩=some (.string (toBA n))∧
   (∃ vp,w.cell? ⟨b,o+2,none⟩=some vp∧StrsAt w G vp p)∧(∃ vl,w.cell? ⟨b,o+3,none⟩=some vl∧ExsAt w G vl l)∧
   (∃ al cl,w.cell? ⟨b,o+4,none⟩=some (.slice al bd.length cl)∧(0 < bd.length→∃ b' o',al=some ⟨b',o',none⟩∧G b'∧StmRow w G bd b' o'))∧
   ∃ al cl,w.cell? ⟨b,o+5,none⟩=some (.slice al el.length cl)∧(0 < el.length→∃ b' o',al=some ⟨b',o',none⟩∧G b'∧StmRow w G el b' o')
def StmRow (w:World) (G:Nat→Prop):List Stm→Nat→Nat→Prop
 | [],_,_=>True
 | e :: r,b,o=>StmAt w G e b o∧StmRow w G r b (o+6)
end
def StmsAt (w:World) (G:Nat→Prop) (v:Value) (l:List Stm):Prop:=∃ a c,v= .slice a l.length c∧(0 < l.length→∃ b o,a=some ⟨b,o,none⟩∧G b∧StmRow w G l b o)
section
variable {w w':World} {G G':Nat→Prop}
theorem StrsAt.mono {v:Value} {zs:List (List UInt8)} (hc:∀ b o,G b→w'.cell? ⟨b,o,none⟩=w.cell? ⟨b,o,none⟩) (hG:∀ b,G b→G' b) (h:StrsAt w G v zs):StrsAt w' G' v zs:=by
 obtain ⟨a,c,hv,hcap,hr⟩:=h
 refine ⟨a,c,hv,hcap,fun hp=> ?_⟩
 obtain ⟨b,o,ha,hb,hz⟩:=hr hp
 exact ⟨b,o,ha,hG b hb,fun j hj=>(hc b _ hb).trans (hz j hj)⟩
mutual
theorem ExAt.mono (hc:∀ b o,G b→w'.cell? ⟨b,o,none⟩=w.cell? ⟨b,o,none⟩) (hG:∀ b,G b→G' b):∀ (e:Ex) (b o:Nat),G b→ExAt w G e b o→ExAt w' G' e b o
 | .mk op n s p l,b,o,hb,h=>by
   unfold ExAt at h ⊢
   obtain ⟨h0,h1,h2,⟨vp,h3,hp⟩,al,cl,h4,hcl,hl⟩:=h
   refine ⟨(hc b _ hb).trans h0,(hc b _ hb).trans h1,(hc b _ hb).trans h2,⟨vp,(hc b _ hb).trans h3,hp.mono hc hG⟩,al,cl,(hc b _ hb).trans h4,hcl,fun hpos=> ?_⟩
   obtain ⟨b',o',ha,hb',hr⟩:=hl hpos
   exact ⟨b',o',ha,hG b' hb',ExRow.mono hc hG l b' o' hb' hr⟩
theorem ExRow.mono (hc:∀ b o,G b→w'.cell? ⟨b,o,none⟩=w.cell? ⟨b,o,none⟩) (hG:∀ b,G b→G' b):∀ (l:List Ex) (b o:Nat),G b→ExRow w G l b o→ExRow w' G' l b o
 | [],_,_,_,_=>trivial
 | e :: r,b,o,hb,h=>by
   unfold ExRow at h ⊢
   exact ⟨ExAt.mono hc hG e b o hb h.1,ExRow.mono hc hG r b (o+5) hb h.2⟩
end
theorem ExsAt.mono {v:Value} {l:List Ex} (hc:∀ b o,G b→w'.cell? ⟨b,o,none⟩=w.cell? ⟨b,o,none⟩) (hG:∀ b,G b→G' b) (h:ExsAt w G v l):ExsAt w' G' v l:=by
 obtain ⟨a,c,hv,hcl,hr⟩:=h
 refine ⟨a,c,hv,hcl,fun hp=> ?_⟩
 obtain ⟨b,o,ha,hb,hz⟩:=hr hp
 exact ⟨b,o,ha,hG b hb,ExRow.mono hc hG l b o hb hz⟩
mutual
theorem StmAt.mono (hc:∀ b o,G b→w'.cell? ⟨b,o,none⟩=w.cell? ⟨b,o,none⟩) (hG:∀ b,G b→G' b):∀ (e:Stm) (b o:Nat),G b→StmAt w G e b o→StmAt w' G' e b o
 | .mk k n p l bd el,b,o,hb,h=>by
   unfold StmAt at h ⊢
   obtain ⟨h0,h1,⟨vp,h2,hp⟩,⟨vl,h3,hl⟩,⟨a1,c1,h4,hl1⟩,a2,c2,h5,hl2⟩:=h
   refine ⟨(hc b _ hb).trans h0,(hc b _ hb).trans h1,⟨vp,(hc b _ hb).trans h2,hp.mono hc hG⟩,⟨vl,(hc b _ hb).trans h3,hl.mono hc hG⟩,⟨a1,c1,(hc b _ hb).trans h4,fun hpos=> ?_⟩,a2,c2,(hc b _ hb).trans h5,fun hpos=> ?_⟩
   · obtain ⟨b',o',ha,hb',hr⟩:=hl1 hpos
     exact ⟨b',o',ha,hG b' hb',StmRow.mono hc hG bd b' o' hb' hr⟩
   · obtain ⟨b',o',ha,hb',hr⟩:=hl2 hpos
     exact ⟨b',o',ha,hG b' hb',StmRow.mono hc hG el b' o' hb' hr⟩
theorem StmRow.mono (hc:∀ b o,G b→w'.cell? ⟨b,o,none⟩=w.cell? ⟨b,o,none⟩) (hG:∀ b,G b→G' b):∀ (l:List Stm) (b o:Nat),G b→StmRow w G l b o→StmRow w' G' l b o
 | [],_,_,_,_=>trivial
 | e :: r,b,o,hb,h=>by
   unfold StmRow at h ⊢
   exact ⟨StmAt.mono hc hG e b o hb h.1,StmRow.mono hc hG r b (o+6) hb h.2⟩
end
theorem StmsAt.mono {v:Value} {l:List Stm} (hc:∀ b o,G b→w'.cell? ⟨b,o,none⟩=w.cell? ⟨b,o,none⟩) (hG:∀ b,G b→G' b) (h:StmsAt w G v l):StmsAt w' G' v l:=by
 obtain ⟨a,c,hv,hr⟩:=h
 refine ⟨a,c,hv,fun hp=> ?_⟩
 obtain ⟨b,o,ha,hb,hz⟩:=hr hp
 exact ⟨b,o,ha,hG b hb,StmRow.mono hc hG l b o hb hz⟩
end
theorem ExRow.at_ {w:World} {G:Nat→Prop}:∀ (l:List Ex) (b o:Nat),ExRow w G l b o→∀ j (hj:j < l.length),ExAt w G l[j] b (o+j * 5)
 | e :: r,b,o,h,0,_=>by unfold ExRow at h;simpa using h.1
 | e :: r,b,o,h,j+1,hj=>by
   unfold ExRow at h
   have:=ExRow.at_ r b (o+5) h.2 j (by simpa using hj)
   rw [show o+(j+1) * 5=o+5+j * 5 by omega]
   simpa using this
theorem ExRow.of {w:World} {G:Nat→Prop}:∀ (l:List Ex) (b o:Nat),(∀ j (hj:j < l.length),ExAt w G l[j] b (o+j * 5))→ExRow w G l b o
 | [],_,_,_=>trivial
 | e :: r,b,o,h=>by
   unfold ExRow
   refine ⟨by have h0:=h 0 (by simp);rw [Nat.zero_mul] at h0;exact h0,ExRow.of r b (o+5) fun j hj=> ?_⟩
   have:=h (j+1) (by simpa using hj)
   rw [show o+(j+1) * 5=o+5+j * 5 by omega] at this
   simpa using this
theorem StmRow.at_ {w:World} {G:Nat→Prop}:∀ (l:List Stm) (b o:Nat),StmRow w G l b o→∀ j (hj:j < l.length),StmAt w G l[j] b (o+j * 6)
 | e :: r,b,o,h,0,_=>by unfold StmRow at h;simpa using h.1
 | e :: r,b,o,h,j+1,hj=>by
   unfold StmRow at h
   have:=StmRow.at_ r b (o+6) h.2 j (by simpa using hj)
   rw [show o+(j+1) * 6=o+6+j * 6 by omega]
   simpa using this
theorem StmRow.of {w:World} {G:Nat→Prop}:∀ (l:List Stm) (b o:Nat),(∀ j (hj:j < l.length),StmAt w G l[j] b (o+j * 6))→StmRow w G l b o
 | [],_,_,_=>trivial
 | e :: r,b,o,h=>by
   unfold StmRow
   refine ⟨by have h0:=h 0 (by simp);rw [Nat.zero_mul] at h0;exact h0,StmRow.of r b (o+6) fun j hj=> ?_⟩
   have:=h (j+1) (by simpa using hj)
   rw [show o+(j+1) * 6=o+6+j * 6 by omega] at this
   simpa using this
theorem ExAt.open_ {w:World} {G:Nat→Prop} {e:Ex} {b o:Nat} (h:ExAt w G e b o):∃ vp vl,w.cell? ⟨b,o,none⟩=some (.string (toBA e.op))∧w.cell? ⟨b,o+1,none⟩=some (.int .i64 e.n)∧w.cell? ⟨b,o+2,none⟩=some (.string (toBA e.s))∧
 w.cell? ⟨b,o+3,none⟩=some vp∧w.cell? ⟨b,o+4,none⟩=some vl∧StrsAt w G vp e.p∧ExsAt w G vl e.l:=by
 rcases e with ⟨op,n,s,p,l⟩
 unfold ExAt at h
 obtain ⟨h0,h1,h2,⟨vp,h3,hp⟩,al,cl,h4,hcl,hl⟩:=h
 exact ⟨vp,_,h0,h1,h2,h3,h4,hp,al,cl,rfl,hcl,hl⟩
theorem ExAt.of {w:World} {G:Nat→Prop} {e:Ex} {b o:Nat} {vp vl:Value} (h0:w.cell? ⟨b,o,none⟩=some (.string (toBA e.op))) (h1:w.cell? ⟨b,o+1,none⟩=some (.int .i64 e.n)) (h2:w.cell? ⟨b,o+2,none⟩=some (.string (toBA e.s)))
 (h3:w.cell? ⟨b,o+3,none⟩=some vp) (h4:w.cell? ⟨b,o+4,none⟩=some vl) (hp:StrsAt w G vp e.p) (hl:ExsAt w G vl e.l):ExAt w G e b o:=by
 rcases e with ⟨op,n,s,p,l⟩
 obtain ⟨a,c,hv,hcl,hr⟩:=hl
 unfold ExAt
 exact ⟨h0,h1,h2,⟨vp,h3,hp⟩,a,c,by rw [h4,hv];rfl,hcl,hr⟩
theorem StmAt.open_ {w:World} {G:Nat→Prop} {e:Stm} {b o:Nat} (h:StmAt w G e b o):∃ vp vl vb ve,w.cell? ⟨b,o,none⟩=some (.string (toBA e.kind))∧w.cell? ⟨b,o+1,none⟩=some (.string (toBA e.name))∧
 w.cell? ⟨b,o+2,none⟩=some vp∧w.cell? ⟨b,o+3,none⟩=some vl∧w.cell? ⟨b,o+4,none⟩=some vb∧w.cell? ⟨b,o+5,none⟩=some ve∧StrsAt w G vp e.p∧ExsAt w G vl e.l∧StmsAt w G vb e.body∧StmsAt w G ve e.els:=by
 rcases e with ⟨k,n,p,l,bd,el⟩
 unfold StmAt at h
 obtain ⟨h0,h1,⟨vp,h2,hp⟩,⟨vl,h3,hl⟩,⟨a1,c1,h4,hl1⟩,a2,c2,h5,hl2⟩:=h
 exact ⟨vp,vl,_,_,h0,h1,h2,h3,h4,h5,hp,hl,⟨a1,c1,rfl,hl1⟩,⟨a2,c2,rfl,hl2⟩⟩
theorem StmAt.of {w:World} {G:Nat→Prop} {e:Stm} {b o:Nat} {vp vl vb ve:Value} (h0:w.cell? ⟨b,o,none⟩=some (.string (toBA e.kind))) (h1:w.cell? ⟨b,o+1,none⟩=some (.string (toBA e.name)))
 (h2:w.cell? ⟨b,o+2,none⟩=some vp) (h3:w.cell? ⟨b,o+3,none⟩=some vl) (h4:w.cell? ⟨b,o+4,none⟩=some vb) (h5:w.cell? ⟨b,o+5,none⟩=some ve) (hp:StrsAt w G vp e.p) (hl:ExsAt w G vl e.l) (hb:StmsAt w G vb e.body) (he:StmsAt w G ve e.els):StmAt w G e b o:=by
 rcases e with ⟨k,n,p,l,bd,el⟩
 obtain ⟨a1,c1,hv1,hr1⟩:=hb
 obtain ⟨a2,c2,hv2,hr2⟩:=he
 unfold StmAt
 exact ⟨h0,h1,⟨vp,h2,hp⟩,⟨vl,h3,hl⟩,⟨a1,c1,by rw [h4,hv1];rfl,hr1⟩,a2,c2,by rw [h5,hv2];rfl,hr2⟩
def Lo (B:Nat):Nat→Prop:=fun b=>b < B
theorem lo_cell {B:Nat} {w w':World} (h:Below B w w'):∀ b o,Lo B b→w'.cell? ⟨b,o,none⟩=w.cell? ⟨b,o,none⟩:=fun b o hb=>h.cell (p:=⟨b,o,none⟩) hb
theorem StrsAt.below {B:Nat} {w w':World} {v:Value} {l:List (List UInt8)} (h:StrsAt w (Lo B) v l) (hb:Below B w w'):StrsAt w' (Lo B) v l:=h.mono (lo_cell hb) fun _ h=>h
theorem ExsAt.below {B:Nat} {w w':World} {v:Value} {l:List Ex} (h:ExsAt w (Lo B) v l) (hb:Below B w w'):ExsAt w' (Lo B) v l:=h.mono (lo_cell hb) fun _ h=>h
theorem StmsAt.below {B:Nat} {w w':World} {v:Value} {l:List Stm} (h:StmsAt w (Lo B) v l) (hb:Below B w w'):StmsAt w' (Lo B) v l:=h.mono (lo_cell hb) fun _ h=>h
mutual
def Ex.w:Ex→Nat
 | .mk _ _ s p l=>1+s.length+p.length+exsW l
def exsW:List Ex→Nat
 | []=>0
 | e :: r=>e.w+exsW r
end
mutual
def Stm.w:Stm→Nat
 | .mk _ n p l b e=>1+n.length+p.length+stmsW b+stmsW e+exsW l
def stmsW:List Stm→Nat
 | []=>0
 | s :: r=>s.w+stmsW r
end
theorem strsBulk_len (p:List (List UInt8)):p.length≤strsBulk p:=by
 induction p with
 | nil=>simp [strsBulk]
 | cons s r ih=>simp only [strsBulk,List.map_cons,List.sum_cons,List.length_cons] at *;omega
mutual
theorem Ex.w_le:∀ e:Ex,e.w≤e.bulk
 | .mk op n s p l=>by
   have:=exsW_le l
   have:=strsBulk_len p
   unfold Ex.w Ex.bulk;omega
theorem exsW_le:∀ l:List Ex,exsW l≤exsBulk l
 | []=>by simp [exsW,exsBulk]
 | e :: r=>by
   have:=Ex.w_le e
   have:=exsW_le r
   unfold exsW exsBulk;omega
end
mutual
theorem Stm.w_le:∀ e:Stm,e.w≤e.bulk
 | .mk k n p l b e=>by
   have:=exsW_le l
   have:=strsBulk_len p
   have:=stmsW_le b
   have:=stmsW_le e
   unfold Stm.w Stm.bulk;omega
theorem stmsW_le:∀ l:List Stm,stmsW l≤stmsBulk l
 | []=>by simp [stmsW,stmsBulk]
 | e :: r=>by
   have:=Stm.w_le e
   have:=stmsW_le r
   unfold stmsW stmsBulk;omega
end
theorem exsW_take (l:List Ex) (j:Nat) (hj:j < l.length):exsW (l.take (j+1))=exsW (l.take j)+l[j].w:=by
 induction l generalizing j with
 | nil=>simp at hj
 | cons e r ih=>
   cases j with
   | zero=>simp [exsW]
   | succ j=>
     have:=ih j (by simpa using hj)
     simp only [List.take_succ_cons,exsW,List.getElem_cons_succ]
     omega
theorem stmsW_take (l:List Stm) (j:Nat) (hj:j < l.length):stmsW (l.take (j+1))=stmsW (l.take j)+l[j].w:=by
 induction l generalizing j with
 | nil=>simp at hj
 | cons e r ih=>
   cases j with
   | zero=>simp [stmsW]
   | succ j=>
     have:=ih j (by simpa using hj)
     simp only [List.take_succ_cons,stmsW,List.getElem_cons_succ]
     omega
theorem exsW_split (l:List Ex) (j:Nat):exsW (l.take j)+exsW (l.drop j)=exsW l:=by
 induction l generalizing j with
 | nil=>simp [exsW]
 | cons e r ih=>
   cases j with
   | zero=>simp [exsW]
   | succ j=>have:=ih j;simp only [List.take_succ_cons,List.drop_succ_cons,exsW];omega
theorem stmsW_split (l:List Stm) (j:Nat):stmsW (l.take j)+stmsW (l.drop j)=stmsW l:=by
 induction l generalizing j with
 | nil=>simp [stmsW]
 | cons e r ih=>
   cases j with
   | zero=>simp [stmsW]
   | succ j=>have:=ih j;simp only [List.take_succ_cons,List.drop_succ_cons,stmsW];omega
theorem exs_mem {l:List Ex} {e:Ex} (h:e ∈ l):e.bulk≤exsBulk l∧e.nodes≤exsNodes l∧e.w≤exsW l:=by
 induction l with
 | nil=>simp at h
 | cons a r ih=>
   rcases List.mem_cons.1 h with rfl | h
   · unfold exsBulk exsNodes exsW;omega
   · have:=ih h
     unfold exsBulk exsNodes exsW;omega
theorem stms_mem {l:List Stm} {e:Stm} (h:e ∈ l):e.bulk≤stmsBulk l∧e.nodes≤stmsNodes l∧e.w≤stmsW l:=by
 induction l with
 | nil=>simp at h
 | cons a r ih=>
   rcases List.mem_cons.1 h with rfl | h
   · unfold stmsBulk stmsNodes stmsW;omega
   · have:=ih h
     unfold stmsBulk stmsNodes stmsW;omega
theorem Ex.nodes_l (e:Ex):e.nodes=1+exsNodes e.l:=by rcases e with ⟨_,_,_,_,_⟩;rfl
theorem Ex.w_eq (e:Ex):e.w=1+e.s.length+e.p.length+exsW e.l:=by rcases e with ⟨_,_,_,_,_⟩;rfl
theorem Ex.bulk_eq (e:Ex):e.bulk=1+e.op.length+e.s.length+strsBulk e.p+exsBulk e.l:=by rcases e with ⟨_,_,_,_,_⟩;rfl
theorem Stm.nodes_eq (e:Stm):e.nodes=1+exsNodes e.l+stmsNodes e.body+stmsNodes e.els:=by rcases e with ⟨_,_,_,_,_,_⟩;rfl
theorem Stm.w_eq (e:Stm):e.w=1+e.name.length+e.p.length+stmsW e.body+stmsW e.els+exsW e.l:=by rcases e with ⟨_,_,_,_,_,_⟩;rfl
theorem Stm.bulk_eq (e:Stm):e.bulk=1+e.kind.length+e.name.length+strsBulk e.p+exsBulk e.l+stmsBulk e.body+stmsBulk e.els:=by rcases e with ⟨_,_,_,_,_,_⟩;rfl
theorem exsBulk_len (l:List Ex):l.length≤exsBulk l:=by
 induction l with
 | nil=>simp [exsBulk]
 | cons e r ih=>rcases e with ⟨_,_,_,_,_⟩;simp only [exsBulk,Ex.bulk,List.length_cons];omega
theorem stmsBulk_len (l:List Stm):l.length≤stmsBulk l:=by
 induction l with
 | nil=>simp [stmsBulk]
 | cons e r ih=>rcases e with ⟨_,_,_,_,_,_⟩;simp only [stmsBulk,Stm.bulk,List.length_cons];omega
end Go.Proofs.YtdoaeapahgmfoaaGreatDoor
