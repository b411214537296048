/- What the program's writer of texts computes, said without fuel: a rule for each arm of a term; the rules fix the length and the writer behind it. strings.Join; tree.rank. -/
import Derived.Test.YtdoaeapahgmfoaaGreatDoorZ08
import Derived.Test.YtdoaeapahgmfoaaGreatDoorZ12
namespace Go.Proofs.YtdoaeapahgmfoaaGreatDoor
open Go.RowKit
def TW (e:Ex) (least deep:Nat) (st:WS) (n:Nat) (st':WS):Prop:=∃ F,∀ f,F≤f→termW f e least deep st=(n,st')
theorem TW.det {e:Ex} {least deep:Nat} {st st1 st2:WS} {n m:Nat} (h:TW e least deep st n st1) (g:TW e least deep st m st2):n=m∧st1=st2:=by
 obtain ⟨F,h⟩:=h
 obtain ⟨G,g⟩:=g
 have:=(h (F+G) (by omega)).symm.trans (g (F+G) (by omega))
 exact ⟨congrArg Prod.fst this,congrArg Prod.snd this⟩
theorem TW.step {e:Ex} {least deep:Nat} {st st':WS} {n:Nat} (F:Nat) (h:∀ f,F≤f→termW (f+1) e least deep st=(n,st')):TW e least deep st n st':=
 ⟨F+1,fun f hf=>by
   obtain ⟨g,rfl⟩:∃ g,f=g+1:=⟨f - 1,by omega⟩
   exact h g (by omega)⟩
def LW (es:List Ex) (deep:Nat) (st:WS) (ns:List Nat) (st':WS):Prop:=∃ F,∀ f,F≤f→termsW (fun e w=>termW f e 0 deep w) es st=(ns,st')
def DW (es:List Ex) (deep:Nat) (st:WS) (ns:List Nat) (st':WS):Prop:=∃ F,∀ f,F≤f→dictW (fun e w=>termW f e 0 deep w) es st=(ns,st')
theorem LW.nil (deep:Nat) (st:WS):LW [] deep st [] st:=⟨0,fun _ _=>rfl⟩
theorem DW.nil (deep:Nat) (st:WS):DW [] deep st [] st:=⟨0,fun _ _=>rfl⟩
theorem termsW_app (t:Ex→WS→Nat × WS):∀ (a b:List Ex) (st:WS),termsW t (a ++ b) st=((termsW t a st).1 ++ (termsW t b (termsW t a st).2).1,(termsW t b (termsW t a st).2).2)
 | [],b,st=>rfl
 | e :: r,b,st=>by
   simp only [List.cons_append,termsW]
   rw [termsW_app t r b]
theorem dictW_app (t:Ex→WS→Nat × WS):∀ (k:Nat) (a b:List Ex) (st:WS),a.length=2 * k→dictW t (a ++ b) st=((dictW t a st).1 ++ (dictW t b (dictW t a st).2).1,(dictW t b (dictW t a st).2).2)
 | 0,[],b,st,_=>rfl
 | k+1,x :: y :: r,b,st,h=>by
   simp only [List.cons_append,dictW]
   rw [dictW_app t k r b _ (by simp at h;omega)]
 | 0,_ :: _,_,_,h=>by simp at h
 | k+1,[_],_,_,h=>by simp at h;omega
 | k+1,[],_,_,h=>by simp at h
theorem LW.snoc {es:List Ex} {e:Ex} {deep n:Nat} {st st1 st2:WS} {ns:List Nat} (h:LW es deep st ns st1) (g:TW e 0 deep st1 n st2):LW (es ++ [e]) deep st (ns ++ [n]) st2:=by
 obtain ⟨F,h⟩:=h
 obtain ⟨G,g⟩:=g
 refine ⟨F+G,fun f hf=> ?_⟩
 rw [termsW_app,h f (by omega)]
 simp only [termsW,g f (by omega)]
theorem take_snoc {α :Type}:∀ (l:List α) (j:Nat) (hj:j < l.length),l.take (j+1)=l.take j ++ [l[j]]
 | _ :: _,0,_=>by simp
 | _ :: r,j+1,hj=>by
   have:=take_snoc r j (by simpa using hj)
   simp only [List.take_succ_cons,List.cons_append,List.getElem_cons_succ,this]
theorem LW.take {es:List Ex} {j deep n:Nat} {st st1 st2:WS} {ns:List Nat} (hj:j < es.length) (h:LW (es.take j) deep st ns st1) (g:TW es[j] 0 deep st1 n st2):LW (es.take (j+1)) deep st (ns ++ [n]) st2:=by
 rw [take_snoc es j hj]
 exact h.snoc g
theorem DW.snoc {es:List Ex} {a b:Ex} {deep n m k:Nat} {st st1 st2 st3:WS} {ns:List Nat} (hk:es.length=2 * k) (h:DW es deep st ns st1) (g:TW a 0 deep st1 n st2) (g2:TW b 0 deep st2 m st3):
 DW (es ++ [a,b]) deep st (ns ++ [n+2+m]) st3:=by
 obtain ⟨F,h⟩:=h
 obtain ⟨G,g⟩:=g
 obtain ⟨H,g2⟩:=g2
 refine ⟨F+G+H,fun f hf=> ?_⟩
 rw [dictW_app _ k _ _ _ hk,h f (by omega)]
 simp only [dictW,g f (by omega),g2 f (by omega)]
theorem DW.take {es:List Ex} {j deep n m:Nat} {st st1 st2 st3:WS} {ns:List Nat} (hj:2 * j+1 < es.length) (h:DW (es.take (2 * j)) deep st ns st1) (g:TW es[2 * j] 0 deep st1 n st2) (g2:TW es[2 * j+1] 0 deep st2 m st3):
 DW (es.take (2 * (j+1))) deep st (ns ++ [n+2+m]) st3:=by
 have e1:es.take (2 * (j+1))=es.take (2 * j) ++ [es[2 * j],es[2 * j+1]]:=by
  have e2:=take_snoc es (2 * j+1) hj
  have e3:=take_snoc es (2 * j) (by omega)
  rw [(by omega:2 * (j+1)=2 * j+1+1),e2,e3,List.append_assoc]
  rfl
 rw [e1]
 exact DW.snoc (k:=j) (by rw [List.length_take];omega) h g g2
theorem DW.take2 {es:List Ex} {j deep n m:Nat} {st st1 st2 st3:WS} {ns:List Nat} (he:j % 2=0) (hj:j+1 < es.length) (h:DW (es.take j) deep st ns st1) (g:TW es[j] 0 deep st1 n st2) (g2:TW es[j+1] 0 deep st2 m st3):
 DW (es.take (j+1+1)) deep st (ns ++ [n+2+m]) st3:=by
 obtain ⟨k,rfl⟩:∃ k,j=2 * k:=⟨j / 2,by omega⟩
 exact DW.take hj h g g2
section
variable {e:Ex} {least deep n m:Nat} {st st1 st2:WS} {ns:List Nat}
theorem TW.off (h:st.look.ok=false):TW e least deep st 0 st.look:=TW.step 0 fun f _=>by
 rw [termW];simp only [h,if_true]
theorem TW.paren (h:st.look.ok=true) (hk:rankL e.op < least) (g:TW e 0 (deep+1) (st.look.deeper deep) n st1):TW e least deep st (n+2) st1:=by
 obtain ⟨F,g⟩:=g
 refine TW.step F fun f hf=> ?_
 rw [termW];simp only [h,Bool.true_eq_false,if_false]
 rw [if_pos hk,g f hf]
theorem TW.int (h:st.look.ok=true) (hk:¬ rankL e.op < least) (ho:e.op=oInt):TW e least deep st (intLen e.n) (st.look.must (bareL e true false false (some 0) && decide (0≤e.n))):=TW.step 0 fun f _=>by
 rw [termW];simp only [h,Bool.true_eq_false,if_false]
 rw [if_neg hk,if_pos ho]
theorem TW.str (h:st.look.ok=true) (hk:¬ rankL e.op < least) (ho:e.op=oStr):TW e least deep st (quoteLen e.s) (st.look.must (bareL e false true false (some 0))):=TW.step 0 fun f _=>by
 rw [termW];simp only [h,Bool.true_eq_false,if_false]
 rw [if_neg hk,if_neg (by rw [ho];decide),if_pos ho]
theorem TW.name (h:st.look.ok=true) (hk:¬ rankL e.op < least) (ho:e.op=oName):TW e least deep st e.s.length ((st.look.must (bareL e false true false (some 0))).nameW e.s):=TW.step 0 fun f _=>by
 rw [termW];simp only [h,Bool.true_eq_false,if_false]
 rw [if_neg hk,if_neg (by rw [ho];decide),if_neg (by rw [ho];decide),if_pos ho]
theorem TW.word (h:st.look.ok=true) (hk:¬ rankL e.op < least) (ho:e.op=oNone∨e.op=oTrue∨e.op=oFalse):TW e least deep st e.op.length (st.look.must (bareL e false false false (some 0))):=TW.step 0 fun f _=>by
 rw [termW];simp only [h,Bool.true_eq_false,if_false]
 rw [if_neg hk,if_neg (by rcases ho with h | h | h <;> rw [h] <;> decide),if_neg (by rcases ho with h | h | h <;> rw [h] <;> decide),if_neg (by rcases ho with h | h | h <;> rw [h] <;> decide),if_pos ho]
theorem must_off {st:WS}:(st.must false).ok=false:=Bool.and_false _
theorem must_on {st:WS} (h:st.ok=true):(st.must true).ok=true:=by show (st.ok && true)=true;rw [h];rfl
theorem TW.int' {b:Bool} (h:st.look.ok=true) (hk:¬ rankL e.op < least) (ho:e.op=oInt) (hb:(bareL e true false false (some 0) && decide (0≤e.n))=b) (hn:n=intLen e.n):TW e least deep st n (st.look.must b):=by subst hb hn;exact TW.int h hk ho
theorem TW.str' {b:Bool} (h:st.look.ok=true) (hk:¬ rankL e.op < least) (ho:e.op=oStr) (hb:bareL e false true false (some 0)=b) (hn:n=quoteLen e.s):TW e least deep st n (st.look.must b):=by subst hb hn;exact TW.str h hk ho
theorem TW.name' {b:Bool} (h:st.look.ok=true) (hk:¬ rankL e.op < least) (ho:e.op=oName) (hb:bareL e false true false (some 0)=b) (hn:n=e.s.length):TW e least deep st n ((st.look.must b).nameW e.s):=by subst hb hn;exact TW.name h hk ho
theorem TW.word' {b:Bool} (h:st.look.ok=true) (hk:¬ rankL e.op < least) (ho:e.op=oNone∨e.op=oTrue∨e.op=oFalse) (hb:bareL e false false false (some 0)=b) (hn:n=e.op.length):TW e least deep st n (st.look.must b):=by subst hb hn;exact TW.word h hk ho
theorem TW.list' {b:Bool} (h:st.look.ok=true) (hk:¬ rankL e.op < least) (ho:e.op=oList) (hb:bareL e false false false none=b) (g:LW e.l (deep+1) ((st.look.must b).deeper deep) ns st1) (hn:n=joinLen ns+2):TW e least deep st n st1:=by
 subst hb hn
 obtain ⟨F,g⟩:=g
 refine TW.step F fun f hf=> ?_
 rw [termW];simp only [h,Bool.true_eq_false,if_false]
 rw [if_neg hk,if_neg (by rw [ho];decide),if_neg (by rw [ho];decide),if_neg (by rw [ho];decide),if_neg (by rw [ho];decide),if_neg (by rw [ho];decide),if_neg (by rw [ho];decide),if_neg (by rw [ho];decide),if_pos ho,g f hf]
theorem TW.unBad (h:st.look.ok=true) (hk:¬ rankL e.op < least) (ho:e.op=oNeg∨e.op=oNot) (hb:bareL e false false false (some 1)=false):TW e least deep st 0 (st.look.must false):=TW.step 0 fun f _=>by
 rw [termW];simp only [h,Bool.true_eq_false,if_false]
 rw [if_neg hk,if_neg (by rcases ho with h | h <;> rw [h] <;> decide),if_neg (by rcases ho with h | h <;> rw [h] <;> decide),if_neg (by rcases ho with h | h <;> rw [h] <;> decide),if_neg (by rcases ho with h | h <;> rw [h] <;> decide),if_pos ho,hb,if_pos must_off]
theorem TW.un {a:Ex} {r:List Ex} (h:st.look.ok=true) (hk:¬ rankL e.op < least) (ho:e.op=oNeg∨e.op=oNot) (hb:bareL e false false false (some 1)=true) (hl:e.l=a :: r)
 (g:TW a (rankL e.op) (deep+1) ((st.look.must true).deeper deep) n st1):TW e least deep st ((if e.op=oNot then 4 else 1)+n) st1:=by
 obtain ⟨F,g⟩:=g
 refine TW.step F fun f hf=> ?_
 rw [termW];simp only [h,Bool.true_eq_false,if_false]
 rw [if_neg hk,if_neg (by rcases ho with h | h <;> rw [h] <;> decide),if_neg (by rcases ho with h | h <;> rw [h] <;> decide),if_neg (by rcases ho with h | h <;> rw [h] <;> decide),if_neg (by rcases ho with h | h <;> rw [h] <;> decide),if_pos ho,hb,if_neg (by rw [must_on h];decide)]
 simp only [hl]
 rw [g f hf]
theorem TW.callBad (h:st.look.ok=true) (hk:¬ rankL e.op < least) (ho:e.op=oCall) (hb:(bareL e false false false none && decide (0 < e.l.length))=false):TW e least deep st 0 (st.look.must false):=TW.step 0 fun f _=>by
 rw [termW];simp only [h,Bool.true_eq_false,if_false]
 rw [if_neg hk,if_neg (by rw [ho];decide),if_neg (by rw [ho];decide),if_neg (by rw [ho];decide),if_neg (by rw [ho];decide),if_neg (by rw [ho];decide),if_pos ho,hb,if_pos must_off]
theorem TW.call {a:Ex} {r:List Ex} (h:st.look.ok=true) (hk:¬ rankL e.op < least) (ho:e.op=oCall) (hb:(bareL e false false false none && decide (0 < e.l.length))=true) (hl:e.l=a :: r)
 (g:TW a 8 deep (st.look.must true) n st1) (g2:LW r (deep+1) (st1.deeper deep) ns st2):TW e least deep st (n+1+joinLen ns+1) st2:=by
 obtain ⟨F,g⟩:=g
 obtain ⟨G,g2⟩:=g2
 refine TW.step (F+G) fun f hf=> ?_
 rw [termW];simp only [h,Bool.true_eq_false,if_false]
 rw [if_neg hk,if_neg (by rw [ho];decide),if_neg (by rw [ho];decide),if_neg (by rw [ho];decide),if_neg (by rw [ho];decide),if_neg (by rw [ho];decide),if_pos ho,hb,if_neg (by rw [must_on h];decide)]
 simp only [hl]
 rw [g f (by omega),g2 f (by omega)]
theorem TW.indexBad (h:st.look.ok=true) (hk:¬ rankL e.op < least) (ho:e.op=oIndex) (hb:bareL e false false false (some 2)=false):TW e least deep st 0 (st.look.must false):=TW.step 0 fun f _=>by
 rw [termW];simp only [h,Bool.true_eq_false,if_false]
 rw [if_neg hk,if_neg (by rw [ho];decide),if_neg (by rw [ho];decide),if_neg (by rw [ho];decide),if_neg (by rw [ho];decide),if_neg (by rw [ho];decide),if_neg (by rw [ho];decide),if_pos ho,hb,if_pos must_off]
theorem TW.index {a b:Ex} (h:st.look.ok=true) (hk:¬ rankL e.op < least) (ho:e.op=oIndex) (hb:bareL e false false false (some 2)=true) (hl:e.l= [a,b])
 (g:TW a 8 deep (st.look.must true) n st1) (g2:TW b 0 (deep+1) (st1.deeper deep) m st2):TW e least deep st (n+1+m+1) st2:=by
 obtain ⟨F,g⟩:=g
 obtain ⟨G,g2⟩:=g2
 refine TW.step (F+G) fun f hf=> ?_
 rw [termW];simp only [h,Bool.true_eq_false,if_false]
 rw [if_neg hk,if_neg (by rw [ho];decide),if_neg (by rw [ho];decide),if_neg (by rw [ho];decide),if_neg (by rw [ho];decide),if_neg (by rw [ho];decide),if_neg (by rw [ho];decide),if_pos ho,hb,if_neg (by rw [must_on h];decide)]
 simp only [hl]
 rw [g f (by omega),g2 f (by omega)]
theorem TW.dictBad (h:st.look.ok=true) (hk:¬ rankL e.op < least) (ho:e.op=oDict) (hb:(bareL e false false false none && decide (e.l.length % 2=0))=false):TW e least deep st 0 (st.look.must false):=TW.step 0 fun f _=>by
 rw [termW];simp only [h,Bool.true_eq_false,if_false]
 rw [if_neg hk,if_neg (by rw [ho];decide),if_neg (by rw [ho];decide),if_neg (by rw [ho];decide),if_neg (by rw [ho];decide),if_neg (by rw [ho];decide),if_neg (by rw [ho];decide),if_neg (by rw [ho];decide),if_neg (by rw [ho];decide),if_pos ho,hb,if_pos must_off]
theorem TW.dict (h:st.look.ok=true) (hk:¬ rankL e.op < least) (ho:e.op=oDict) (hb:(bareL e false false false none && decide (e.l.length % 2=0))=true)
 (g:DW e.l (deep+1) ((st.look.must true).deeper deep) ns st1):TW e least deep st (joinLen ns+2) st1:=by
 obtain ⟨F,g⟩:=g
 refine TW.step F fun f hf=> ?_
 rw [termW];simp only [h,Bool.true_eq_false,if_false]
 rw [if_neg hk,if_neg (by rw [ho];decide),if_neg (by rw [ho];decide),if_neg (by rw [ho];decide),if_neg (by rw [ho];decide),if_neg (by rw [ho];decide),if_neg (by rw [ho];decide),if_neg (by rw [ho];decide),if_neg (by rw [ho];decide),if_pos ho,hb,if_neg (by rw [must_on h];decide),g f hf]
theorem TW.lamBad (h:st.look.ok=true) (hk:¬ rankL e.op < least) (ho:e.op=oLambda) (hb:bareL e false false true (some 1)=false):TW e least deep st 0 (st.look.must false):=TW.step 0 fun f _=>by
 rw [termW];simp only [h,Bool.true_eq_false,if_false]
 rw [if_neg hk,if_neg (by rw [ho];decide),if_neg (by rw [ho];decide),if_neg (by rw [ho];decide),if_neg (by rw [ho];decide),if_neg (by rw [ho];decide),if_neg (by rw [ho];decide),if_neg (by rw [ho];decide),if_neg (by rw [ho];decide),if_neg (by rw [ho];decide),if_pos ho,hb,if_pos must_off]
theorem TW.lam {a:Ex} {r:List Ex} (h:st.look.ok=true) (hk:¬ rankL e.op < least) (ho:e.op=oLambda) (hb:bareL e false false true (some 1)=true) (hl:e.l=a :: r)
 (g:TW a 0 (deep+1) ((if e.p= [] then st.look.must true else (st.look.must true).namesW e.p).deeper deep) n st1):TW e least deep st (6+(if e.p= [] then 0 else 1+namesLen e.p)+2+n) st1:=by
 obtain ⟨F,g⟩:=g
 refine TW.step F fun f hf=> ?_
 rw [termW];simp only [h,Bool.true_eq_false,if_false]
 rw [if_neg hk,if_neg (by rw [ho];decide),if_neg (by rw [ho];decide),if_neg (by rw [ho];decide),if_neg (by rw [ho];decide),if_neg (by rw [ho];decide),if_neg (by rw [ho];decide),if_neg (by rw [ho];decide),if_neg (by rw [ho];decide),if_neg (by rw [ho];decide),if_pos ho,hb,if_neg (by rw [must_on h];decide)]
 simp only [hl]
 rw [g f hf]
structure NoWord (o:List UInt8):Prop where
 w1:o≠oInt
 w2:o≠oStr
 w3:o≠oName
 w4:¬ (o=oNone∨o=oTrue∨o=oFalse)
 w5:¬ (o=oNeg∨o=oNot)
 w6:o≠oCall
 w7:o≠oIndex
 w8:o≠oList
 w9:o≠oDict
 w10:o≠oLambda
theorem TW.binBad (h:st.look.ok=true) (hk:¬ rankL e.op < least) (ho:NoWord e.op) (hb:(decide (1≤rankL e.op) && decide (rankL e.op≤6) && bareL e false false false (some 2))=false):TW e least deep st 0 (st.look.must false):=TW.step 0 fun f _=>by
 rw [termW];simp only [h,Bool.true_eq_false,if_false]
 rw [if_neg hk,if_neg ho.w1,if_neg ho.w2,if_neg ho.w3,if_neg ho.w4,if_neg ho.w5,if_neg ho.w6,if_neg ho.w7,if_neg ho.w8,if_neg ho.w9,if_neg ho.w10,hb,if_pos must_off]
theorem TW.bin {a b:Ex} (h:st.look.ok=true) (hk:¬ rankL e.op < least) (ho:NoWord e.op) (hb:(decide (1≤rankL e.op) && decide (rankL e.op≤6) && bareL e false false false (some 2))=true) (hl:e.l= [a,b])
 (g:TW a (if rankL e.op=4 then 5 else rankL e.op) deep (st.look.must true) n st1) (g2:TW b (rankL e.op+1) deep st1 m st2):TW e least deep st (n+1+e.op.length+1+m) st2:=by
 obtain ⟨F,g⟩:=g
 obtain ⟨G,g2⟩:=g2
 refine TW.step (F+G) fun f hf=> ?_
 rw [termW];simp only [h,Bool.true_eq_false,if_false]
 rw [if_neg hk,if_neg ho.w1,if_neg ho.w2,if_neg ho.w3,if_neg ho.w4,if_neg ho.w5,if_neg ho.w6,if_neg ho.w7,if_neg ho.w8,if_neg ho.w9,if_neg ho.w10,hb,if_neg (by rw [must_on h];decide)]
 simp only [hl]
 rw [g f (by omega),g2 f (by omega)]
end
end Go.Proofs.YtdoaeapahgmfoaaGreatDoor
namespace Go.Proofs.YtdoaeapahgmfoaaGreatDoor
open Go.RowKit
theorem join_len (zs:List (List UInt8)):(Lib.join (zs.map fun s=>(toBA s).data.toList) [44,32]).length≤(zs.map fun s=>s.length+2).sum:=by
 rcases zs with _ | ⟨x,r⟩
 · simp [Lib.join_nil]
 · simp only [List.map_cons]
   rw [Lib.join_length]
   have h:∀ l:List (List UInt8),Lib.lens (l.map fun s=>(toBA s).data.toList)+2 * l.length=(l.map fun s=>s.length+2).sum:=by
    intro l
    induction l with
    | nil=>rfl
    | cons a t ih=>
      simp only [Lib.lens,List.map_cons,List.sum_cons,List.length_cons] at ih ⊢
      have:(toBA a).data.toList.length=a.length:=toBA_len a
      omega
   have h1:=h (x :: r)
   simp only [List.map_cons,List.length_cons,List.length_map,List.length_nil] at h1 ⊢
   omega
def StrPost (w:World) (B n:Nat) (e:Ending) (w':World):Prop:=∃ s:ByteArray,e= .returned (.string s)∧s.size≤B∧Below w.heap.size w w'∧s.size=n
theorem join_eq (zs:List (List UInt8)):(Lib.join (zs.map fun s=>(toBA s).data.toList) [44,32]).length=joinLen (zs.map List.length):=by
 have h:∀ l:List (List UInt8),Lib.lens (l.map fun s=>(toBA s).data.toList)=(l.map List.length).sum:=by
  intro l
  induction l with
  | nil=>rfl
  | cons a t ih=>
    simp only [Lib.lens,List.map_cons,List.sum_cons] at ih ⊢
    have:(toBA a).data.toList.length=a.length:=toBA_len a
    omega
 unfold joinLen
 rcases zs with _ | ⟨x,r⟩
 · simp [Lib.join_nil]
 · have h1:=h (x :: r)
   simp only [List.map_cons] at h1 ⊢
   rw [Lib.join_length]
   simp only [List.length_cons,List.length_map,List.length_nil] at h1 ⊢
   omega
theorem join_any {w:World} (zs:List (List UInt8)) (v:Value) (G:Nat→Prop) (hz:StrsAt w G v zs) (hG:∀ b,G b→b < w.heap.size) (hl:(zs.map fun s=>s.length+2).sum≤100000000000000):
 Calls Tryz.prog 108 #[v,.string ⟨#[44,32]⟩] w (StrPost w (zs.map fun s=>s.length+2).sum (joinLen (zs.map List.length))):=by
 obtain ⟨a,c,rfl,hcap,hr⟩:=hz
 have hj:=join_len zs
 rcases Nat.eq_zero_or_pos zs.length with h0 | h0
 · rw [h0]
   refine (Tryz.strings_Join_none a c ⟨#[44,32]⟩ w).mono ?_
   rintro e w' ⟨rfl,rfl⟩
   obtain rfl:=List.length_eq_zero_iff.1 h0
   exact ⟨_,rfl,by simp [ByteArray.size],Below.refl _ _,rfl⟩
 · obtain ⟨b,o,rfl,hb,hc⟩:=hr h0
   have hlen:zs.length≤(zs.map fun s=>s.length+2).sum:=by
    clear hc hcap hr hj hl hG h0
    induction zs with
    | nil=>simp
    | cons s r ih=>simp only [List.map_cons,List.sum_cons,List.length_cons] at *;omega
   have e1:(zs.map toBA).map (fun x=>x.data.toList)=zs.map fun s=>(toBA s).data.toList:=by rw [List.map_map];rfl
   have hR:=Tryz.strings_Join b o c (zs.map toBA) ⟨#[44,32]⟩ w (fun j x hx=>by
    rw [List.getElem?_map] at hx
    have hjl:j < zs.length:=by
     rcases Nat.lt_or_ge j zs.length with h | h
     · exact h
     · rw [List.getElem?_eq_none h] at hx;cases hx
    rw [List.getElem?_eq_getElem hjl] at hx
    rw [hc j hjl]
    simpa using hx) (hG b hb) (by rw [List.length_map];omega) (by rw [List.length_map];exact hcap) (by
    rw [show (zs.map toBA).map (·.data.toList)=zs.map fun s=>(toBA s).data.toList from e1]
    show (Lib.join _ [44,32]).length≤_
    omega)
   rw [List.length_map] at hR
   refine hR.mono ?_
   rintro e w' ⟨rfl,hb2⟩
   refine ⟨_,rfl,?_,hb2,?_⟩
   · rw [show (zs.map toBA).map (·.data.toList)=zs.map fun s=>(toBA s).data.toList from e1]
     show (Lib.join _ [44,32]).toArray.size≤_
     simpa using hj
   · rw [show (zs.map toBA).map (·.data.toList)=zs.map fun s=>(toBA s).data.toList from e1]
     show (Lib.join _ [44,32]).toArray.size=_
     rw [List.size_toArray]
     exact join_eq zs
theorem levelsOf_step (op:List UInt8) (j:Nat) (hj:j < levelsL.length):levelOf (levelsL.drop j) op j=if levelsL[j].contains op then j+1 else levelOf (levelsL.drop (j+1)) op (j+1):=by
 rw [List.drop_eq_getElem_cons hj];rfl
set_option maxRecDepth 100000 in
set_option maxHeartbeats 20000000 in
theorem rank_any {w:World} {B:Nat} (op:List UInt8) (hg:GlobT B w):
 Calls Tryz.prog 104 #[.string (toBA op)] w fun e w'=>e= .returned (.int .i64 ((rankL op:Nat):Int))∧w=w':=by
 by_cases h1:op=oLambda
 · have hr:rankL op=0:=by unfold rankL;rw [if_pos h1]
   have u1:((toBA op).toList == [108,97,109,98,100,97])=true:=by rw [m_toList,h1];rfl
   have Hr:=Lib.hid hr;clear hr h1
   go_enter Tryz.func104,Tryz.ntmps104
   go_wp2_with fail
   refine bodyPost_ret (results_tmp rfl _ _ _) rfl ?_
   exact ⟨by rw [Hr.out];rfl,rfl⟩
 have u1:((toBA op).toList == [108,97,109,98,100,97])=false:=m_ne h1
 by_cases h2:op=oNot
 · have hr:rankL op=3:=by unfold rankL;rw [if_neg h1,if_pos h2]
   have u2:((toBA op).toList == [110,111,116])=true:=by rw [m_toList,h2];rfl
   have Hr:=Lib.hid hr;clear hr h1 h2
   go_enter Tryz.func104,Tryz.ntmps104
   go_wp2_with fail
   refine bodyPost_ret (results_tmp rfl _ _ _) rfl ?_
   exact ⟨by rw [Hr.out];rfl,rfl⟩
 have u2:((toBA op).toList == [110,111,116])=false:=m_ne h2
 by_cases h3:op=oNeg
 · have hr:rankL op=7:=by unfold rankL;rw [if_neg h1,if_neg h2,if_pos h3]
   have u3:((toBA op).toList == [110,101,103])=true:=by rw [m_toList,h3];rfl
   have Hr:=Lib.hid hr;clear hr h1 h2 h3
   go_enter Tryz.func104,Tryz.ntmps104
   go_wp2_with fail
   refine bodyPost_ret (results_tmp rfl _ _ _) rfl ?_
   exact ⟨by rw [Hr.out];rfl,rfl⟩
 have u3:((toBA op).toList == [110,101,103])=false:=m_ne h3
 have hr:levelOf levelsL op 0=rankL op:=by unfold rankL;rw [if_neg h1,if_neg h2,if_neg h3]
 have Hr:=Lib.hid hr;clear hr h1 h2 h3
 obtain ⟨v0,c0,s0⟩:=hg.levels 0 (by decide)
 obtain ⟨v1,c1,s1⟩:=hg.levels 1 (by decide)
 obtain ⟨v2,c2,s2⟩:=hg.levels 2 (by decide)
 obtain ⟨v3,c3,s3⟩:=hg.levels 3 (by decide)
 obtain ⟨v4,c4,s4⟩:=hg.levels 4 (by decide)
 obtain ⟨v5,c5,s5⟩:=hg.levels 5 (by decide)
 have i0:∀ w,(Instr.index 226 (.agg #[v0,v1,v2,v3,v4,v5]) (.int .i64 0)).run Tryz.prog w= .ok v0 w:=fun _=>by kernel_rfl
 have i1:∀ w,(Instr.index 226 (.agg #[v0,v1,v2,v3,v4,v5]) (.int .i64 1)).run Tryz.prog w= .ok v1 w:=fun _=>by kernel_rfl
 have i2:∀ w,(Instr.index 226 (.agg #[v0,v1,v2,v3,v4,v5]) (.int .i64 2)).run Tryz.prog w= .ok v2 w:=fun _=>by kernel_rfl
 have i3:∀ w,(Instr.index 226 (.agg #[v0,v1,v2,v3,v4,v5]) (.int .i64 3)).run Tryz.prog w= .ok v3 w:=fun _=>by kernel_rfl
 have i4:∀ w,(Instr.index 226 (.agg #[v0,v1,v2,v3,v4,v5]) (.int .i64 4)).run Tryz.prog w= .ok v4 w:=fun _=>by kernel_rfl
 have i5:∀ w,(Instr.index 226 (.agg #[v0,v1,v2,v3,v4,v5]) (.int .i64 5)).run Tryz.prog w= .ok v5 w:=fun _=>by kernel_rfl
 go_enter Tryz.func104,Tryz.ntmps104
 go_wp2_with fail
 go_loop [3,4,13] (fun _ _ i=>∃ j:Nat,j≤6∧i= .int .i64 j∧levelOf (levelsL.drop j) op j=rankL op) (fun _ _ i=>6 - (intOf i).toNat)
 case atStart=>exact ⟨0,by omega,rfl,Hr.out⟩
 case round=>
  obtain ⟨j,hj,rfl,hrk⟩:=hrel
  clear Hr
  have hcs:j=0∨j=1∨j=2∨j=3∨j=4∨j=5∨j=6:=by omega
  rcases hcs with rfl | rfl | rfl | rfl | rfl | rfl | rfl <;> have Hrk:=Lib.hid hrk <;> clear hrk
  · have hlv:=levelsOf_step op 0 (by decide)
    have hcall:=has_any (w:=w) levelsL[0] v0 op (Lo B) s0 (by decide)
    rcases hb:levelsL[0].contains op with _ | _
    · rw [hb] at hcall
      rw [hb,if_neg (by simp)] at hlv
      have Hcall:=Lib.hid hcall;have Hlv:=Lib.hid hlv
      clear hcall hlv hb
      go_wp2_with fail
      refine Hcall.out.mono ?_
      rintro e w2 ⟨rfl,rfl⟩
      go_wp2_with fail
      go_round
      case rel=>exact ⟨0+1,by omega,rfl,by rw [← Hlv.out];exact Hrk.out⟩
      case measure=>simp [intOf]
    · rw [hb] at hcall
      rw [hb,if_pos rfl] at hlv
      have Hcall:=Lib.hid hcall;have Hlv:=Lib.hid hlv
      clear hcall hlv hb
      go_wp2_with fail
      refine Hcall.out.mono ?_
      rintro e w2 ⟨rfl,rfl⟩
      go_wp2_with fail
      refine bodyPost_ret (results_tmp rfl _ _ _) rfl ?_
      exact ⟨by rw [← Hrk.out,Hlv.out];rfl,rfl⟩
  · have hlv:=levelsOf_step op 1 (by decide)
    have hcall:=has_any (w:=w) levelsL[1] v1 op (Lo B) s1 (by decide)
    rcases hb:levelsL[1].contains op with _ | _
    · rw [hb] at hcall
      rw [hb,if_neg (by simp)] at hlv
      have Hcall:=Lib.hid hcall;have Hlv:=Lib.hid hlv
      clear hcall hlv hb
      go_wp2_with fail
      refine Hcall.out.mono ?_
      rintro e w2 ⟨rfl,rfl⟩
      go_wp2_with fail
      go_round
      case rel=>exact ⟨1+1,by omega,rfl,by rw [← Hlv.out];exact Hrk.out⟩
      case measure=>simp [intOf]
    · rw [hb] at hcall
      rw [hb,if_pos rfl] at hlv
      have Hcall:=Lib.hid hcall;have Hlv:=Lib.hid hlv
      clear hcall hlv hb
      go_wp2_with fail
      refine Hcall.out.mono ?_
      rintro e w2 ⟨rfl,rfl⟩
      go_wp2_with fail
      refine bodyPost_ret (results_tmp rfl _ _ _) rfl ?_
      exact ⟨by rw [← Hrk.out,Hlv.out];rfl,rfl⟩
  · have hlv:=levelsOf_step op 2 (by decide)
    have hcall:=has_any (w:=w) levelsL[2] v2 op (Lo B) s2 (by decide)
    rcases hb:levelsL[2].contains op with _ | _
    · rw [hb] at hcall
      rw [hb,if_neg (by simp)] at hlv
      have Hcall:=Lib.hid hcall;have Hlv:=Lib.hid hlv
      clear hcall hlv hb
      go_wp2_with fail
      refine Hcall.out.mono ?_
      rintro e w2 ⟨rfl,rfl⟩
      go_wp2_with fail
      go_round
      case rel=>exact ⟨2+1,by omega,rfl,by rw [← Hlv.out];exact Hrk.out⟩
      case measure=>simp [intOf]
    · rw [hb] at hcall
      rw [hb,if_pos rfl] at hlv
      have Hcall:=Lib.hid hcall;have Hlv:=Lib.hid hlv
      clear hcall hlv hb
      go_wp2_with fail
      refine Hcall.out.mono ?_
      rintro e w2 ⟨rfl,rfl⟩
      go_wp2_with fail
      refine bodyPost_ret (results_tmp rfl _ _ _) rfl ?_
      exact ⟨by rw [← Hrk.out,Hlv.out];rfl,rfl⟩
  · have hlv:=levelsOf_step op 3 (by decide)
    have hcall:=has_any (w:=w) levelsL[3] v3 op (Lo B) s3 (by decide)
    rcases hb:levelsL[3].contains op with _ | _
    · rw [hb] at hcall
      rw [hb,if_neg (by simp)] at hlv
      have Hcall:=Lib.hid hcall;have Hlv:=Lib.hid hlv
      clear hcall hlv hb
      go_wp2_with fail
      refine Hcall.out.mono ?_
      rintro e w2 ⟨rfl,rfl⟩
      go_wp2_with fail
      go_round
      case rel=>exact ⟨3+1,by omega,rfl,by rw [← Hlv.out];exact Hrk.out⟩
      case measure=>simp [intOf]
    · rw [hb] at hcall
      rw [hb,if_pos rfl] at hlv
      have Hcall:=Lib.hid hcall;have Hlv:=Lib.hid hlv
      clear hcall hlv hb
      go_wp2_with fail
      refine Hcall.out.mono ?_
      rintro e w2 ⟨rfl,rfl⟩
      go_wp2_with fail
      refine bodyPost_ret (results_tmp rfl _ _ _) rfl ?_
      exact ⟨by rw [← Hrk.out,Hlv.out];rfl,rfl⟩
  · have hlv:=levelsOf_step op 4 (by decide)
    have hcall:=has_any (w:=w) levelsL[4] v4 op (Lo B) s4 (by decide)
    rcases hb:levelsL[4].contains op with _ | _
    · rw [hb] at hcall
      rw [hb,if_neg (by simp)] at hlv
      have Hcall:=Lib.hid hcall;have Hlv:=Lib.hid hlv
      clear hcall hlv hb
      go_wp2_with fail
      refine Hcall.out.mono ?_
      rintro e w2 ⟨rfl,rfl⟩
      go_wp2_with fail
      go_round
      case rel=>exact ⟨4+1,by omega,rfl,by rw [← Hlv.out];exact Hrk.out⟩
      case measure=>simp [intOf]
    · rw [hb] at hcall
      rw [hb,if_pos rfl] at hlv
      have Hcall:=Lib.hid hcall;have Hlv:=Lib.hid hlv
      clear hcall hlv hb
      go_wp2_with fail
      refine Hcall.out.mono ?_
      rintro e w2 ⟨rfl,rfl⟩
      go_wp2_with fail
      refine bodyPost_ret (results_tmp rfl _ _ _) rfl ?_
      exact ⟨by rw [← Hrk.out,Hlv.out];rfl,rfl⟩
  · have hlv:=levelsOf_step op 5 (by decide)
    have hcall:=has_any (w:=w) levelsL[5] v5 op (Lo B) s5 (by decide)
    rcases hb:levelsL[5].contains op with _ | _
    · rw [hb] at hcall
      rw [hb,if_neg (by simp)] at hlv
      have Hcall:=Lib.hid hcall;have Hlv:=Lib.hid hlv
      clear hcall hlv hb
      go_wp2_with fail
      refine Hcall.out.mono ?_
      rintro e w2 ⟨rfl,rfl⟩
      go_wp2_with fail
      go_round
      case rel=>exact ⟨5+1,by omega,rfl,by rw [← Hlv.out];exact Hrk.out⟩
      case measure=>simp [intOf]
    · rw [hb] at hcall
      rw [hb,if_pos rfl] at hlv
      have Hcall:=Lib.hid hcall;have Hlv:=Lib.hid hlv
      clear hcall hlv hb
      go_wp2_with fail
      refine Hcall.out.mono ?_
      rintro e w2 ⟨rfl,rfl⟩
      go_wp2_with fail
      refine bodyPost_ret (results_tmp rfl _ _ _) rfl ?_
      exact ⟨by rw [← Hrk.out,Hlv.out];rfl,rfl⟩
  · go_wp2_with fail
    refine bodyPost_ret (results_tmp rfl _ _ _) rfl ?_
    exact ⟨by rw [← Hrk.out];rfl,rfl⟩
end Go.Proofs.YtdoaeapahgmfoaaGreatDoor
