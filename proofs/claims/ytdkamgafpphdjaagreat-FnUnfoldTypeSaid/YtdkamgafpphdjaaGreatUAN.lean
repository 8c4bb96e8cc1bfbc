/-
  Lemmas towards the law, 14: Sub, Paths, Parse2.
-/
import Derived.Test.YtdkamgafpphdjaaGreatUAM
set_option maxHeartbeats 2000000
set_option maxRecDepth 100000
namespace Go.Proofs.YtdkamgafpphdjaaGreat
open Go.RowKit
set_option linter.unusedVariables false
def y13:Tr:= .mk 0 0 []
mutual
def shfT(y:Int):Tr->Int->Tr
 | .mk k n ks,c=> .mk k (if k=1/\c<=n then n+y else n) (q18 y k ks 0 c)
def q18(y:Int):Int->List Tr->Nat->Int->List Tr
 |_, [],_,_=> []
 |k,t::ts,i,c=> shfT y t (c+und k i)::q18 y k ts (i+1) c
end
mutual
def sbsT(u:Tr):Tr->Int->Int->Tr
 | .mk k n ks,x,d=> if k=1/\n=x then shfT d u 0 else .mk k (if k=1/\x < n then n - 1 else n) (q20 u k ks 0 x d)
def q20(u:Tr):Int->List Tr->Nat->Int->Int->List Tr
 |_, [],_,_,_=> []
 |k,t::ts,i,x,d=> sbsT u t (x+und k i) (d+und k i)::q20 u k ts (i+1) x d
end
mutual
def chgT(g:Int->Int->Tr):Tr->Int->Tr
 | .mk k n ks,b=> if k=1 then g n b else .mk k n (q84 g k ks 0 b)
def q84(g:Int->Int->Tr):Int->List Tr->Nat->Int->List Tr
 |_, [],_,_=> []
 |k,t::ts,i,b=> chgT g t (b+und k i)::q84 g k ts (i+1) b
end
mutual
def allT(h:Int->Int->Bool):Tr->Int->Bool
 | .mk k n ks,b=> if k=1 then h n b else j36 h k ks 0 b
def j36(h:Int->Int->Bool):Int->List Tr->Nat->Int->Bool
 |_, [],_,_=> true
 |k,t::ts,i,b=> allT h t (b+und k i)&& j36 h k ts (i+1) b
end
theorem q52(y:Int): ∀(k:Int) (ts:List Tr) (i:Nat) (c:Int),(q18 y k ts i c).length=ts.length
 |_, [],_,_=> rfl
 |k,t::ts,i,c=> by simp[q18,q52 y k ts (i+1) c]
theorem y76(u:Tr): ∀(k:Int) (ts:List Tr) (i:Nat) (x d:Int),(q20 u k ts i x d).length=ts.length
 |_, [],_,_,_=> rfl
 |k,t::ts,i,x,d=> by simp[q20,y76 u k ts (i+1) x d]
mutual
theorem y152(y:Int): ∀(t:Tr) (c:Int),cnt (shfT y t c)=cnt t
 | .mk k n ks,c=> by
  unfold shfT;simp only[cnt,q134 y k ks 0 c]
theorem q134(y:Int): ∀(k:Int) (ts:List Tr) (i:Nat) (c:Int),cnts (q18 y k ts i c)=cnts ts
 |_, [],_,_=> rfl
 |k,t::ts,i,c=> by
  unfold q18;simp only[cnts,y152 y t _,q134 y k ts (i+1) c]
end
mutual
theorem q61{g:Sig}: ∀{t:Tr} {d e:Int},shape g t d=true->d<=e->shape g t e=true
 | .mk k n ks,d,e,h,hd=> by
  simp only[shape,Bool.and_eq_true,decide_eq_true_eq] at h⊢;exact⟨by omega,h.2.1,j97 h.2.2 (by omega)⟩
theorem j97{g:Sig}: ∀{ts:List Tr} {d e:Int},j21 g ts d=true->d<=e->j21 g ts e=true
 | [],_,_,_,_=> rfl
 |t::ts,d,e,h,hd=> by
  simp only[j21,Bool.and_eq_true] at h⊢;exact⟨q61 h.1 hd,j97 h.2 hd⟩
end
theorem j69{n:Int}{ks:List Tr}{d:Int}(h:shape sigT (.mk 1 n ks) d=true):ks= []/\0<=n/\n<=20:=by
 obtain⟨h0,h1,h2,-⟩:=y12 h;have h3:=q68 1;have:(0:Int)=(ks.length:Int):=h0;exact⟨List.eq_nil_of_length_eq_zero (by omega),h1,by omega⟩
def gsh(y c:Int)(n b:Int):Tr:= .mk 1 (if c<=n - b then n+y else n) []
def hsh(y c:Int)(n b:Int):Bool:=if c<=n - b then decide (c<=n+y - b)&& decide (n+y<=20) else true
mutual
theorem q149(y c:Int): ∀(t:Tr) (b d:Int),shape sigT t d=true->chgT (gsh y c) t b=shfT y t (c+b)
 | .mk k n ks,b,d,h=> by
  unfold chgT shfT;by_cases hk:k=1
  · subst hk
    obtain⟨rfl,-,-⟩:=j69 h;rw[if_pos rfl];unfold gsh;by_cases h2:c<=n - b
    · rw[if_pos h2,if_pos ⟨rfl,by omega⟩];rfl
    · rw[if_neg h2,if_neg (by omega)];rfl
  · rw[if_neg hk,if_neg (fun h=> hk h.1),j133 y c k ks 0 b (d - 1) (y12 h).2.2.2]
theorem j133(y c:Int): ∀(k:Int) (ts:List Tr) (i:Nat) (b d:Int),(∀t∈ts,shape sigT t d=true)->q84 (gsh y c) k ts i b=q18 y k ts i (c+b)
 |_, [],_,_,_,_=> rfl
 |k,t::ts,i,b,d,h=> by
  unfold q84 q18;rw[q149 y c t _ d (h t (by simp)),j133 y c k ts (i+1) b d (fun t ht=> h t (by simp[ht])),Int.add_assoc]
end
theorem y163{g:Sig}{k n:Int}{a b:Nat}(h:a=b):j75 g k n a=j75 g k n b:=by rw[h]
mutual
theorem y147(y c:Int)(hy:0<=y): ∀(t:Tr) (b d:Int),shape sigT t d=true->allT (hsh y c) t b=shape sigT (shfT y t (c+b)) d
 | .mk k n ks,b,d,h=> by
  have hh:=h;simp only[shape,Bool.and_eq_true] at hh;unfold allT shfT;by_cases hk:k=1
  · subst hk
    obtain⟨rfl,h0,h1⟩:=j69 h;have hd:=of_decide_eq_true hh.1;rw[if_pos rfl];have hs: ∀x:Int,0<=x->shape sigT (.mk 1 x []) d=decide (x<=20):=fun x hx=> by
     simp only[shape,j21,j75,List.length_nil,Bool.and_true];rw[decide_eq_true hd,decide_eq_true (show sigT.ops 1=((0:Nat):Int) from rfl),Bool.true_and,Bool.true_and]
     show inR x 0 20=_
     unfold inR;rw[decide_eq_true hx,Bool.true_and]
    unfold hsh;by_cases h2:c<=n - b
    · rw[if_pos h2,if_pos ⟨rfl,by omega⟩,show q18 y 1 [] 0 (c+b)= [] from rfl,hs _ (by omega),decide_eq_true (by omega),Bool.true_and]
    · rw[if_neg h2,if_neg (by omega),show q18 y 1 [] 0 (c+b)= [] from rfl,hs _ h0,decide_eq_true h1]
  · rw[if_neg hk,if_neg (fun h=> hk h.1),j130 y c hy k ks 0 b (d - 1) hh.2.2]
    simp only[shape];rw[hh.1,y163 (q52 y k ks 0 (c+b)),hh.2.1]
    rfl
theorem j130(y c:Int)(hy:0<=y): ∀(k:Int) (ts:List Tr) (i:Nat) (b d:Int),j21 sigT ts d=true->j36 (hsh y c) k ts i b=j21 sigT (q18 y k ts i (c+b)) d
 |_, [],_,_,_,_=> rfl
 |k,t::ts,i,b,d,h=> by
  simp only[j21,Bool.and_eq_true] at h;unfold j36 q18;simp only[j21];rw[y147 y c hy t _ d h.1,j130 y c hy k ts (i+1) b d h.2,Int.add_assoc]
end
theorem j186{y c:Int}(hy:0<=y){t:Tr}(h:valid sigT t=true):(allT (hsh y c) t 0 && valid sigT (chgT (gsh y c) t 0))=valid sigT (shfT y t c)/\chgT (gsh y c) t 0=shfT y t c:=by
 obtain⟨h1,h2⟩:=j11 h;have e1:=q149 y c t 0 30 h1;have e2:=y147 y c hy t 0 30 h1;rw[Int.add_zero] at e1 e2;refine⟨?_,e1⟩;rw[e1,e2];unfold valid;cases shape sigT (shfT y t c) 30 <;> simp
def gsb(u:Tr)(x:Int)(n b:Int):Tr:=if n - b=x then(if valid sigT (shfT b u 0)=true then shfT b u 0 else y13) else .mk 1 (if x < n - b then n - 1 else n) []
def hsb(u:Tr)(x:Int)(n b:Int):Bool:=if n - b=x then valid sigT (shfT b u 0) else true
mutual
theorem q144(u:Tr)(x:Int): ∀(t:Tr) (b d:Int),shape sigT t d=true->allT (hsb u x) t b=true->chgT (gsb u x) t b=sbsT u t (x+b) b
 | .mk k n ks,b,d,h,ho=> by
  unfold allT at ho;unfold chgT sbsT;by_cases hk:k=1
  · subst hk
    obtain⟨rfl,-,-⟩:=j69 h;rw[if_pos rfl] at ho⊢;unfold hsb at ho;unfold gsb;by_cases h2:n - b=x
    · rw[if_pos h2] at ho⊢
      rw[if_pos ho,if_pos (show(1:Int)=1/\n=x+b from⟨rfl,by omega⟩)]
    · rw[if_neg h2,if_neg (show¬((1:Int)=1/\n=x+b) from by omega)]
      by_cases h3:x < n - b
      · rw[if_pos h3,if_pos (show(1:Int)=1/\x+b < n from⟨rfl,by omega⟩)];rfl
      · rw[if_neg h3,if_neg (show¬((1:Int)=1/\x+b < n) from by omega)];rfl
  · rw[if_neg hk] at ho⊢
    rw[if_neg (fun h=> hk h.1),if_neg (fun h=> hk h.1),y131 u x k ks 0 b (d - 1) (y12 h).2.2.2 ho]
theorem y131(u:Tr)(x:Int): ∀(k:Int) (ts:List Tr) (i:Nat) (b d:Int),(∀t∈ts,shape sigT t d=true)->j36 (hsb u x) k ts i b=true->q84 (gsb u x) k ts i b=q20 u k ts i (x+b) b
 |_, [],_,_,_,_,_=> rfl
 |k,t::ts,i,b,d,h,ho=> by
  unfold j36 at ho;rw[Bool.and_eq_true] at ho;unfold q84 q20;rw[q144 u x t _ d (h t (by simp)) ho.1,y131 u x k ts (i+1) b d (fun t ht=> h t (by simp[ht])) ho.2,Int.add_assoc]
end
mutual
theorem j122(u:Tr)(x:Int)(hu:cnt u<=400): ∀(t:Tr) (b d:Int),shape sigT t d=true->allT (hsb u x) t b=false-> ∀e:Int,e<=30->shape sigT (sbsT u t (x+b) b) e=false
 | .mk k n ks,b,d,h,ho,e,he=> by
  unfold allT at ho;unfold sbsT;by_cases hk:k=1
  · subst hk
    rw[if_pos rfl] at ho;unfold hsb at ho;by_cases h2:n - b=x
    · rw[if_pos h2] at ho
      rw[if_pos (show(1:Int)=1/\n=x+b from⟨rfl,by omega⟩),Bool.eq_false_iff];intro hs;have h3:=q61 hs he;unfold valid at ho;rw[h3,y152,decide_eq_true hu] at ho;cases ho
    · rw[if_neg h2] at ho
      cases ho
  · rw[if_neg hk] at ho
    rw[if_neg (fun h=> hk h.1)];simp only[shape];rw[j108 u x hu k ks 0 b (d - 1) (y12 h).2.2.2 ho (e - 1) (by omega)];simp
theorem j108(u:Tr)(x:Int)(hu:cnt u<=400): ∀(k:Int) (ts:List Tr) (i:Nat) (b d:Int),(∀t∈ts,shape sigT t d=true)->j36 (hsb u x) k ts i b=false-> ∀e:Int,e<=30->j21 sigT (q20 u k ts i (x+b) b) e=false
 |_, [],_,_,_,_,ho,_,_=> by unfold j36 at ho;cases ho
 |k,t::ts,i,b,d,h,ho,e,he=> by
  unfold j36 at ho;unfold q20;simp only[j21];rw[Bool.and_eq_false_iff] at ho⊢;rw[Int.add_assoc];rcases ho with ho|ho
  · exact .inl (j122 u x hu t _ d (h t (by simp)) ho e he)
  · exact .inr (j108 u x hu k ts (i+1) b d (fun t ht=> h t (by simp[ht])) ho e he)
end
theorem y180{u:Tr}{x:Int}(hu:cnt u<=400){t:Tr}(h:valid sigT t=true):(allT (hsb u x) t 0 && valid sigT (chgT (gsb u x) t 0))=valid sigT (sbsT u t x 0)/\(allT (hsb u x) t 0=true->chgT (gsb u x) t 0=sbsT u t x 0):=by
 obtain⟨h1,h2⟩:=j11 h;have e1:=q144 u x t 0 30 h1;have e2:=j122 u x hu t 0 30 h1;rw[Int.add_zero] at e1 e2;refine⟨?_,e1⟩;cases ha:allT (hsb u x) t 0 with
 |true=> rw[e1 ha,Bool.true_and]
 |false=>
  unfold valid;rw[e2 ha 30 (Int.le_refl _)]
  rfl
def j95(w:World)(S:Nat->Prop)(u:Value)(p:List Int):Prop:=
 (u= .slice none 0 0/\p= [])\/ ∃b o c,u= .slice (some ⟨b,o,none⟩) p.length c/\p.length<=c/\c<=maxLen/\S b/\ ∀j (h:j < p.length),w.cell? ⟨b,o+j,none⟩=some (.int .i64 p[j])
theorem j95.mono{w w':World}{S S':Nat->Prop}{u:Value}{p:List Int}(hS: ∀b,S b->S' b)(hw: ∀b,S b->w'.heap[b]? =w.heap[b]?)(h:j95 w S u p):j95 w' S' u p:=by
 rcases h with h|⟨b,o,c,rfl,h1,h2,h3,h4⟩
 · exact .inl h
 · exact .inr ⟨b,o,c,rfl,h1,h2,hS b h3,fun j hj=>(World.cell?_of_block (w:=w) (a:=⟨b,o+j,none⟩) (hw b h3)).trans (h4 j hj)⟩
theorem y129{w:World}{base:Nat}{e:TypeId}{v:Value}{p:List Int}(h:w.ownsRow base e 1 v p.length (p.map (Value.int .i64))):j95 w (fun b=> base<=b/\b < w.heap.size/\v.ownBlock=some b) v p:=by
 have hcl:=fun g hg=> h.cells (g:=g) hg
 rcases h.2 with⟨rfl,h0⟩ |⟨g,c,cur,rfl,hb,hg,hn,hm,hcs,ht⟩
 · exact .inl ⟨rfl,List.eq_nil_of_length_eq_zero h0⟩
 · refine .inr ⟨g,0,c,rfl,hn,hm,⟨hb,q10 hg,rfl⟩,fun j hj=> ?_⟩
   have:=hcl g rfl j (.int .i64 p[j]) (by rw[List.getElem?_map,List.getElem?_eq_getElem hj];rfl)
   rwa [Addr.add_lit] at this
theorem y101{P:Program}(w:World){o:Oper}{a:Act}{K:Act->World->Prop}{Q:Exit->Act->World->Prop}(s x:Operand)(t:TypeId)
 (ho:o.op= .call {callee:= .builtin .append,args:=#[s,x],argTypes:=#[t,t]})
 (base:Nat) (e:TypeId) (i:TypeInfo) (z:Value) (bytes:Nat) (ht:P.underlying t=some (.slice e)) (hi:P.info? e=some i) (hz:i.zero=some z) (hsize:i.size=1) (hby:i.bytes=bytes) (hb8:bytes<=64) (hzs:z.cells.size=1)
 {v u:Value} {ns p:List Int} {S:Nat->Prop} (hs:a.eval s=v) (hG:w.ownsRow base e 1 v ns.length (ns.map (Value.int .i64))) (hW:base<=w.heap.size)
 (hx:a.eval x=u) (hu:j95 w S u p) (hn:ns.length+p.length < 1099511627776)
 (h: ∀v' w',w'.ownsRow base e 1 v' (ns++p).length ((ns++p).map (Value.int .i64))->w.grownBy w' v.ownBlock->(∀g,v'.ownBlock=some g->v.ownBlock=some g\/w.heap.size<=g)->K (a.put o.dst v') w'):o.wp P a w K Q:=by
 rcases hu with⟨rfl,rfl⟩ |⟨b,o',c,rfl,h1,h2,h3,h4⟩
 · have hr:=run_append_owned_none (P:=P) (w:=w) base t o.type e i 1 ht hi v ns.length _ hG
   unfold Oper.wp execOp;simp only[ho,resolve,invoke,builtin,Sem.run_bind,Sem.run_pure,Result.andThen_ok,List.map_toArray,List.map_cons,List.map_nil,hs,hx,hr];exact(h v w (by simpa using hG) ⟨rfl,rfl,rfl,Nat.le_refl _,fun _ _ _=> rfl⟩ (fun g hg=> .inl hg))
 · have hbb:(ns.length+p.length)*bytes<=140737488355328:=Nat.le_trans (Nat.mul_le_mul (show ns.length+p.length<=1099511627776 by omega) hb8) (by decide)
   obtain⟨v',w',hr,r1,r2,r3⟩:=q16 (P:=P) w base t o.type e i z 1 bytes ht hi hz hsize hby hzs (by decide) v ns.length _ hG ⟨b,o',none⟩ p.length c (p.map (Value.int .i64)) (by simp)
    (fun j y hy=> by
     rw[Addr.add_lit];rw[List.getElem?_map] at hy;by_cases hj:j < p.length
     · rw[List.getElem?_eq_getElem hj] at hy
       rw[h4 j hj];exact hy
     · rw[List.getElem?_eq_none (by omega)] at hy
       cases hy)
    (fun y hy=> by obtain⟨n,_,rfl⟩:=List.mem_map.1 hy;rfl) (by unfold maxLen;omega) hbb hW
   unfold Oper.wp execOp;simp only[ho,resolve,invoke,builtin,Sem.run_bind,Sem.run_pure,Result.andThen_ok,List.map_toArray,List.map_cons,List.map_nil,hs,hx,hr];exact(h v' w' (by simpa using r1) r2 r3)
theorem q19{P:Program}(w:World){ops:Array Oper}{rest:List Oper}{o:Oper}{a:Act}{Q:Exit->Act->World->Prop}(hgd:o.guard=none)(s x:Operand)(t:TypeId)
 (ho:o.op= .call {callee:= .builtin .append,args:=#[s,x],argTypes:=#[t,t]})
 (base:Nat) (e:TypeId) (i:TypeInfo) (z:Value) (bytes:Nat) (ht:P.underlying t=some (.slice e)) (hi:P.info? e=some i) (hz:i.zero=some z) (hsize:i.size=1) (hby:i.bytes=bytes) (hb8:bytes<=64) (hzs:z.cells.size=1)
 {v u:Value} {ns p:List Int} {S:Nat->Prop} (hs:a.eval s=v) (hG:w.ownsRow base e 1 v ns.length (ns.map (Value.int .i64))) (hW:base<=w.heap.size)
 (hx:a.eval x=u) (hu:j95 w S u p) (hn:ns.length+p.length < 1099511627776)
 (h: ∀v' w',w'.ownsRow base e 1 v' (ns++p).length ((ns++p).map (Value.int .i64))->w.grownBy w' v.ownBlock->(∀g,v'.ownBlock=some g->v.ownBlock=some g\/w.heap.size<=g)->wpList P ops Q rest (a.put o.dst v') w'):wpList P ops Q (o::rest) a w:=
 wpList_plain hgd fun K hK=> y101 w s x t ho base e i z bytes ht hi hz hsize hby hb8 hzs hs hG hW hx hu hn (fun v' w' h1 h2 h3=> hK _ _ (h v' w' h1 h2 h3))
def From(B:Nat)(w:World)(t:Tr)(v:Value):Prop:=InT w (fun b=> B<=b/\b < w.heap.size) t v
theorem From.leaf(B:Nat)(w:World)(k n:Int):From B w (.mk k n []) (.agg #[.int .i64 k,.int .i64 n,.slice none 0 0]):=InT.mk_iff.2 ⟨none,0,rfl,Nat.le_refl _,Nat.zero_le _,.inl rfl⟩
theorem From.ext{B:Nat}{w w':World}{t:Tr}{v:Value}(h:From B w t v)(he:Ext w w'):From B w' t v:=h.mono (fun b hb=>⟨hb.1,Nat.lt_of_lt_of_le hb.2 he.size⟩) (fun b hb=> he.heap b hb.2)
theorem From.since{B C:Nat}{w:World}{t:Tr}{v:Value}(h:From B w t v)(hc:C<=B):From C w t v:=h.mono (fun b hb=>⟨Nat.le_trans hc hb.1,hb.2⟩) (fun _ _=> rfl)
theorem From.lies{B:Nat}{w:World}{t:Tr}{v:Value}(h:From B w t v):Lies w t v:=h.mono (fun b hb=> hb.2) (fun _ _=> rfl)
theorem From.three{B:Nat}{w:World}{t:Tr}{u:Value}(h:From B w t u): ∃k n A l c,u= .agg #[.int .i64 k,.int .i64 n,.slice A l c]:=h.lies.three
theorem From.set{B:Nat}{w:World}{t:Tr}{v:Value}(h:From B w t v){p:Addr}(hp:p.block < B)(u:Value):From B (w.setCell p u) t v:=
 h.mono (fun b hb=>⟨hb.1,by simpa using hb.2⟩) (fun b hb=> Below.heap_setCell w p u b (by omega))
theorem From.made{w w':World}{e:TypeId}{t:Tr}{v:Value}(h:Made w w' e t v):From w.heap.size w' t v:=by
 obtain⟨L,h,hf⟩:=h;exact InT.mono (fun b hb=> hf.2 b hb) (fun _ _=> rfl) h.inT
def j18(B:Nat)(w:World)(A:Option Addr)(ks:List Tr):Prop:=InK w (fun b=> B<=b/\b < w.heap.size) A ks
theorem j18.one{B g:Nat}{w:World}{t:Tr}{v0 v1 v2:Value}{e:TypeId}(h:From B w t (.agg #[v0,v1,v2]))(hB:B<=w.heap.size)(hg:g=w.heap.size):j18 B (w.alloc (.cells #[v0,v1,v2] e)) (some ⟨g,0,none⟩) [t]:=
 hg▸InK.one (h.ext ((xr w).alloc _)) (heap_alloc_new w _) ⟨hB,by simp⟩
theorem j18.two{B g:Nat}{w:World}{t u:Tr}{v0 v1 v2 x0 x1 x2:Value}{e:TypeId}(h:From B w t (.agg #[v0,v1,v2]))(h':From B w u (.agg #[x0,x1,x2]))(hB:B<=w.heap.size)(hg:g=w.heap.size):j18 B (w.alloc (.cells #[v0,v1,v2,x0,x1,x2] e)) (some ⟨g,0,none⟩) [t,u]:=by
 subst hg;have hx:=(xr w).alloc (.cells #[v0,v1,v2,x0,x1,x2] e);have hg:=heap_alloc_new w (.cells #[v0,v1,v2,x0,x1,x2] e);have h1:=h.ext hx;have h2:=h'.ext hx;refine .inr ⟨w.heap.size,0,rfl,⟨hB,by simp⟩, ?_⟩;unfold InL;refine⟨⟨v0,v1,v2,y10 hg 0,y10 hg 1,y10 hg 2,h1⟩, ?_⟩;unfold InL;refine⟨⟨x0,x1,x2,y10 hg 3,y10 hg 4,y10 hg 5,h2⟩, ?_⟩;unfold InL
 trivial
theorem y28(B:Nat)(w:World)(k:Int)(A:Option Addr)(cap:Nat)(ks:List Tr)(hA:A=none->cap=0)(hK:j18 B w A ks)(hB:B<=w.heap.size)(hn:ks.length<=1099511627776):
 Calls Tryz.prog 94 #[.int .i64 k,.slice A ks.length cap] w fun e w'=> ∃u,e= .returned u/\From B w' (.mk k 0 ks) u/\Ext w w':=
 (j160 w k A cap ks hA _ (fun b hb=> hb.2) hK hn).mono fun e w' ⟨u,h1,h2,h3⟩=>⟨u,h1,h2.mono (fun b hb=> by
  have:=h3.size;rcases hb with hb|hb
  · exact⟨hb.1,by omega⟩
  · exact⟨by omega,hb.2⟩) (fun _ _=> rfl),h3⟩
def j17(B:Nat)(w:World)(size:Nat)(o:Option (Tr×Nat))(e:Ending)(w':World):Prop:=
 ∃(t:Tr) (u:Value) (nx:Int),e= .returned (.tuple #[u,.int .i64 nx])/\From B w' t u/\Ext w w'/\(∀x,o=some x->t=x.1/\nx=x.2/\x.2<=size)/\(o=none->nx= -1)
def j25(d:Nat):Prop:= ∀(s:ByteArray) (a:Nat) (w:World),s.size<=1000000000->a<=s.size+2->Calls Tryz.prog 192 #[.string s,.int .i64 a,.int .i64 d] w (j17 w.heap.size w s.size (prs d s.data.toList a))
theorem y182(d:Nat)(ih:j25 d)(s:ByteArray)(a:Nat)(w:World)(hs:s.size<=1000000000)(ha:a < s.size)(hc:s[a]=43)(hd:d<=30):
 Calls Tryz.prog 208 #[.string s,.int .i64 a,.int .i64 ((d:Int)+1)] w (j17 w.heap.size w s.size (one 8 (prs d s.data.toList (a+1)))):=by
 have HI:=hdq (fun W=> ih s (a+1) W hs (by omega));obtain⟨R,hR⟩: ∃R,R=prs d s.data.toList (a+1):=⟨_,rfl⟩;rw[<-hR] at HI⊢;clear hR ih;go_enter Tryz.func208,Tryz.ntmps208;go_wp2_with fail;refine(HI.out _).mono ?_;rintro e w1 ⟨t,u,nx,rfl,hF,e1,q1,q2⟩;obtain⟨k0,n0,A0,l0,c0,rfl⟩:=hF.three;have hb:=e1.newBlk;have hsz:=e1.size_alloc;have HQ1:=hdq q1;have HQ2:=hdq q2;have hF1:=hF.ext ((xr w1).alloc (.cells #[.int .i64 k0,.int .i64 n0,.slice A0 l0 c0] 25));have hx0:=(xr w).alloc (.cells #[.int .i64 0,.int .i64 0,.slice none 0 0] 25);simp only[World.size_alloc] at hF1;clear q1 q2 hF;go_wp2_with fail;refine(y28 (w.heap.size+1) _ 8 _ 1 [t] (by intro h;cases h) (j18.one (g:=w1.heap.size+1) (e:=25) hF1 (by simp;omega) (by simp)) (by simp;omega) (by simp)).mono ?_;rintro e w2 ⟨v,rfl,hN,e2⟩;obtain⟨k1,n1,A1,l1,c1,rfl⟩:=hN.three;have hb2:=e2.blk (((xr w1).alloc _|>.alloc _).blk hb);obtain⟨s0,s1,s2,f0,f1,f2⟩:=own3 hb2;have hx2:=(hx0.trans e1).trans (((xr w1).alloc _|>.alloc _).trans e2);go_wp2_with fail;refine bodyPost_ret (v:= .tuple #[.agg #[.int .i64 k1,.int .i64 n1,.slice A1 l1 c1],.int .i64 nx]) (by simp[results,Tryz.results208,go_sem,s0,s1,s2]) rfl ⟨.mk 8 0 [t],_,nx,rfl, ?_, ?_, ?_, ?_⟩
 · exact(((hN.set (by simp) _).set (by simp) _).set (by simp) _).since (by omega)
 · exact((hx2.setCell (by simp) _).setCell (by simp) _).setCell (by simp) _
 · intro x hx
   cases R with
   |none=> cases hx
   |some y=>
    obtain⟨h1,h2,h3⟩:=HQ1.out y rfl;cases hx
    exact⟨by rw[h1],h2,h3⟩
 · intro hx
   cases R with
   |none=> exact HQ2.out rfl
   |some y=> cases hx
theorem y169(d:Nat)(ih:j25 d)(s:ByteArray)(a:Nat)(w:World)(hs:s.size<=1000000000)(ha:a < s.size)(hc:s[a]=33)(hd:d<=30):
 Calls Tryz.prog 208 #[.string s,.int .i64 a,.int .i64 ((d:Int)+1)] w (j17 w.heap.size w s.size (one 11 (prs d s.data.toList (a+1)))):=by
 have HI:=hdq (fun W=> ih s (a+1) W hs (by omega));obtain⟨R,hR⟩: ∃R,R=prs d s.data.toList (a+1):=⟨_,rfl⟩;rw[<-hR] at HI⊢;clear hR ih;go_enter Tryz.func208,Tryz.ntmps208;go_wp2_with fail;refine(HI.out _).mono ?_;rintro e w1 ⟨t,u,nx,rfl,hF,e1,q1,q2⟩;obtain⟨k0,n0,A0,l0,c0,rfl⟩:=hF.three;have hb:=e1.newBlk;have hsz:=e1.size_alloc;have HQ1:=hdq q1;have HQ2:=hdq q2;have hF1:=hF.ext ((xr w1).alloc (.cells #[.int .i64 k0,.int .i64 n0,.slice A0 l0 c0] 25));have hx0:=(xr w).alloc (.cells #[.int .i64 0,.int .i64 0,.slice none 0 0] 25);simp only[World.size_alloc] at hF1;clear q1 q2 hF;go_wp2_with fail;refine(y28 (w.heap.size+1) _ 11 _ 1 [t] (by intro h;cases h) (j18.one (g:=w1.heap.size+1) (e:=25) hF1 (by simp;omega) (by simp)) (by simp;omega) (by simp)).mono ?_;rintro e w2 ⟨v,rfl,hN,e2⟩;obtain⟨k1,n1,A1,l1,c1,rfl⟩:=hN.three;have hb2:=e2.blk (((xr w1).alloc _|>.alloc _).blk hb);obtain⟨s0,s1,s2,f0,f1,f2⟩:=own3 hb2;have hx2:=(hx0.trans e1).trans (((xr w1).alloc _|>.alloc _).trans e2);go_wp2_with fail;refine bodyPost_ret (v:= .tuple #[.agg #[.int .i64 k1,.int .i64 n1,.slice A1 l1 c1],.int .i64 nx]) (by simp[results,Tryz.results208,go_sem,s0,s1,s2]) rfl ⟨.mk 11 0 [t],_,nx,rfl, ?_, ?_, ?_, ?_⟩
 · exact(((hN.set (by simp) _).set (by simp) _).set (by simp) _).since (by omega)
 · exact((hx2.setCell (by simp) _).setCell (by simp) _).setCell (by simp) _
 · intro x hx
   cases R with
   |none=> cases hx
   |some y=>
    obtain⟨h1,h2,h3⟩:=HQ1.out y rfl;cases hx
    exact⟨by rw[h1],h2,h3⟩
 · intro hx
   cases R with
   |none=> exact HQ2.out rfl
   |some y=> cases hx
theorem y179(d:Nat)(ih:j25 d)(s:ByteArray)(a:Nat)(w:World)(hs:s.size<=1000000000)(ha:a < s.size)(hc:s[a]=94)(hd:d<=30):
 Calls Tryz.prog 208 #[.string s,.int .i64 a,.int .i64 ((d:Int)+1)] w (j17 w.heap.size w s.size (one 15 (prs d s.data.toList (a+1)))):=by
 have HI:=hdq (fun W=> ih s (a+1) W hs (by omega));obtain⟨R,hR⟩: ∃R,R=prs d s.data.toList (a+1):=⟨_,rfl⟩;rw[<-hR] at HI⊢;clear hR ih;go_enter Tryz.func208,Tryz.ntmps208;go_wp2_with fail;refine(HI.out _).mono ?_;rintro e w1 ⟨t,u,nx,rfl,hF,e1,q1,q2⟩;obtain⟨k0,n0,A0,l0,c0,rfl⟩:=hF.three;have hb:=e1.newBlk;have hsz:=e1.size_alloc;have HQ1:=hdq q1;have HQ2:=hdq q2;have hF1:=hF.ext ((xr w1).alloc (.cells #[.int .i64 k0,.int .i64 n0,.slice A0 l0 c0] 25));have hx0:=(xr w).alloc (.cells #[.int .i64 0,.int .i64 0,.slice none 0 0] 25);simp only[World.size_alloc] at hF1;clear q1 q2 hF;go_wp2_with fail;refine(y28 (w.heap.size+1) _ 15 _ 1 [t] (by intro h;cases h) (j18.one (g:=w1.heap.size+1) (e:=25) hF1 (by simp;omega) (by simp)) (by simp;omega) (by simp)).mono ?_;rintro e w2 ⟨v,rfl,hN,e2⟩;obtain⟨k1,n1,A1,l1,c1,rfl⟩:=hN.three;have hb2:=e2.blk (((xr w1).alloc _|>.alloc _).blk hb);obtain⟨s0,s1,s2,f0,f1,f2⟩:=own3 hb2;have hx2:=(hx0.trans e1).trans (((xr w1).alloc _|>.alloc _).trans e2);go_wp2_with fail;refine bodyPost_ret (v:= .tuple #[.agg #[.int .i64 k1,.int .i64 n1,.slice A1 l1 c1],.int .i64 nx]) (by simp[results,Tryz.results208,go_sem,s0,s1,s2]) rfl ⟨.mk 15 0 [t],_,nx,rfl, ?_, ?_, ?_, ?_⟩
 · exact(((hN.set (by simp) _).set (by simp) _).set (by simp) _).since (by omega)
 · exact((hx2.setCell (by simp) _).setCell (by simp) _).setCell (by simp) _
 · intro x hx
   cases R with
   |none=> cases hx
   |some y=>
    obtain⟨h1,h2,h3⟩:=HQ1.out y rfl;cases hx
    exact⟨by rw[h1],h2,h3⟩
 · intro hx
   cases R with
   |none=> exact HQ2.out rfl
   |some y=> cases hx
theorem j194(d:Nat)(ih:j25 d)(s:ByteArray)(a:Nat)(w:World)(hs:s.size<=1000000000)(ha:a < s.size)(hc:s[a]=95)(hd:d<=30):
 Calls Tryz.prog 208 #[.string s,.int .i64 a,.int .i64 ((d:Int)+1)] w (j17 w.heap.size w s.size (one 16 (prs d s.data.toList (a+1)))):=by
 have HI:=hdq (fun W=> ih s (a+1) W hs (by omega));obtain⟨R,hR⟩: ∃R,R=prs d s.data.toList (a+1):=⟨_,rfl⟩;rw[<-hR] at HI⊢;clear hR ih;go_enter Tryz.func208,Tryz.ntmps208;go_wp2_with fail;refine(HI.out _).mono ?_;rintro e w1 ⟨t,u,nx,rfl,hF,e1,q1,q2⟩;obtain⟨k0,n0,A0,l0,c0,rfl⟩:=hF.three;have hb:=e1.newBlk;have hsz:=e1.size_alloc;have HQ1:=hdq q1;have HQ2:=hdq q2;have hF1:=hF.ext ((xr w1).alloc (.cells #[.int .i64 k0,.int .i64 n0,.slice A0 l0 c0] 25));have hx0:=(xr w).alloc (.cells #[.int .i64 0,.int .i64 0,.slice none 0 0] 25);simp only[World.size_alloc] at hF1;clear q1 q2 hF;go_wp2_with fail;refine(y28 (w.heap.size+1) _ 16 _ 1 [t] (by intro h;cases h) (j18.one (g:=w1.heap.size+1) (e:=25) hF1 (by simp;omega) (by simp)) (by simp;omega) (by simp)).mono ?_;rintro e w2 ⟨v,rfl,hN,e2⟩;obtain⟨k1,n1,A1,l1,c1,rfl⟩:=hN.three;have hb2:=e2.blk (((xr w1).alloc _|>.alloc _).blk hb);obtain⟨s0,s1,s2,f0,f1,f2⟩:=own3 hb2;have hx2:=(hx0.trans e1).trans (((xr w1).alloc _|>.alloc _).trans e2);go_wp2_with fail;refine bodyPost_ret (v:= .tuple #[.agg #[.int .i64 k1,.int .i64 n1,.slice A1 l1 c1],.int .i64 nx]) (by simp[results,Tryz.results208,go_sem,s0,s1,s2]) rfl ⟨.mk 16 0 [t],_,nx,rfl, ?_, ?_, ?_, ?_⟩
 · exact(((hN.set (by simp) _).set (by simp) _).set (by simp) _).since (by omega)
 · exact((hx2.setCell (by simp) _).setCell (by simp) _).setCell (by simp) _
 · intro x hx
   cases R with
   |none=> cases hx
   |some y=>
    obtain⟨h1,h2,h3⟩:=HQ1.out y rfl;cases hx
    exact⟨by rw[h1],h2,h3⟩
 · intro hx
   cases R with
   |none=> exact HQ2.out rfl
   |some y=> cases hx
theorem q44{s:ByteArray}{a:Nat}{c:UInt8}(h:a < s.size)(hc:s[a]=c):s.data.toList[a]? =some c:=by rw[q69 s h,hc]
theorem q177(d:Nat)(ih:j25 d)(s:ByteArray)(a:Nat)(w:World)(hs:s.size<=1000000000)(ha:a<=s.size):
 Calls Tryz.prog 209 #[.string s,.int .i64 a,.int .i64 d] w (j17 w.heap.size w s.size (rnd (prs d s.data.toList) s.data.toList a)):=by
 have HI:=hdq (fun a W (ha:a<=s.size+2)=> ih s a W hs ha);obtain⟨F,hF⟩: ∃F,F=prs d s.data.toList:=⟨_,rfl⟩;rw[<-hF] at HI⊢;have hdef:rnd F s.data.toList a=match F a with
  |none=> none
  |some (x,b)=> if rndK s.data.toList[b]? =0 then none else
   match F (b+1) with
   |none=> none
   |some (y,c)=> if s.data.toList[c]? =some 41 then some (.mk (rndK s.data.toList[b]?) 0 [x,y],c+1) else none:=rfl
 obtain⟨R,hR⟩: ∃R,R=rnd F s.data.toList a:=⟨_,rfl⟩;rw[<-hR] at hdef⊢;have HD:=hdq hdef;clear hR ih hF hdef;go_enter Tryz.func209,Tryz.ntmps209;go_wp2_with fail;refine(HI.out a _ (by omega)).mono ?_;rintro e w1 ⟨t,u,nx,rfl,hF,e1,q1,q2⟩;obtain⟨k0,n0,A0,l0,c0,rfl⟩:=hF.three;have hb:=e1.newBlk;have hsz:=e1.size_alloc;have hx0:=((xr w).alloc (.cells #[.int .i64 0,.int .i64 0,.slice none 0 0] 25)).trans e1;have hx1:=hx0.trans ((xr w1).alloc (.cells #[.int .i64 k0,.int .i64 n0,.slice A0 l0 c0] 25));have hF1:=hF.ext ((xr w1).alloc (.cells #[.int .i64 k0,.int .i64 n0,.slice A0 l0 c0] 25));simp only[World.size_alloc] at hF1;have hb':=((xr w1).alloc (.cells #[.int .i64 k0,.int .i64 n0,.slice A0 l0 c0] 25)).blk hb;have hbA:=heap_alloc_new w1 (.cells #[.int .i64 k0,.int .i64 n0,.slice A0 l0 c0] 25);cases hFa:F a with
 |none=>
  obtain rfl:=q2 hFa;have hRn:=HD.out;rw[hFa] at hRn;have HR:=hdq hRn;obtain⟨s0,s1,s2,f0,f1,f2⟩:=own3 hb';clear q1 q2 hRn hFa hsz;go_wp2_with fail;exact bodyPost_ret (v:= .tuple #[.agg #[.int .i64 0,.int .i64 0,.slice none 0 0],.int .i64 (-1)]) (by simp[results,Tryz.results209,go_sem,s0,s1,s2]) rfl ⟨.mk 0 0 [],_,-1,rfl,From.leaf _ _ _ _,((hx1.setCell (by simp) _).setCell (by simp) _).setCell (by simp) _,(fun x hx=> by rw[HR.out] at hx;cases hx),fun _=> rfl⟩
 |some y=>
  obtain⟨x,b⟩:=y;obtain⟨h1,h2,h3⟩:=q1 _ hFa;simp only at h1 h2 h3;have hRs:=HD.out;rw[hFa] at hRs;simp only at hRs;subst h1 h2;clear q1 q2 hFa;have hcap:=hF1;by_cases hlt:b < s.size
  · obtain⟨c,hc⟩: ∃c,s[b]=c:=⟨_,rfl⟩
    rw[q44 hlt hc] at hRs;have hbz:(b:Int) <(s.size:Int):=by omega
    have t0:decide ((b:Int) < 0)=false:=decide_eq_false (by omega);have t1:decide ((s.size:Int)<=(b:Int))=false:=decide_eq_false (by omega);obtain⟨m,hm⟩: ∃m,c.toNat=m:=⟨_,rfl⟩;have hHI:=HI.out (b+1);rw[show((b+1:Nat):Int)=(b:Int)+1 by omega] at hHI;have HI2:=hdq hHI;clear hHI;by_cases hk:rndK (some c)=0
    · rw[if_pos hk] at hRs
      have HR:=hdq hRs;have t2:((m:Int)==62)=false:=by rw[beq_eq_false_iff_ne];intro h;have:c=62:=UInt8.toNat_inj.1 (by rw[hm];simp;omega);rw[this] at hk;exact absurd hk (by decide)
      have t3:((m:Int)==42)=false:=by rw[beq_eq_false_iff_ne];intro h;have:c=42:=UInt8.toNat_inj.1 (by rw[hm];simp;omega);rw[this] at hk;exact absurd hk (by decide)
      have t4:((m:Int)==32)=false:=by rw[beq_eq_false_iff_ne];intro h;have:c=32:=UInt8.toNat_inj.1 (by rw[hm];simp;omega);rw[this] at hk;exact absurd hk (by decide)
      clear hRs hk;go_wp2_with fail;refine(HI2.out _ (by omega)).mono ?_;rintro e w2 ⟨t',u',nx',rfl,hF',e2,-,-⟩;obtain⟨k1,n1,A1,l1,c1,rfl⟩:=hF'.three;have hb2:=(e2.trans ((xr w2).alloc (.cells #[.int .i64 k1,.int .i64 n1,.slice A1 l1 c1] 25))).blk hb';obtain⟨s0,s1,s2,f0,f1,f2⟩:=own3 hb2;have hx2:=hx1.trans (e2.trans ((xr w2).alloc (.cells #[.int .i64 k1,.int .i64 n1,.slice A1 l1 c1] 25)));go_wp2_with fail;exact bodyPost_ret (v:= .tuple #[.agg #[.int .i64 0,.int .i64 0,.slice none 0 0],.int .i64 (-1)]) (by simp[results,Tryz.results209,go_sem,s0,s1,s2]) rfl ⟨.mk 0 0 [],_,-1,rfl,From.leaf _ _ _ _,((hx2.setCell (by simp) _).setCell (by simp) _).setCell (by simp) _,(fun x hx=> by rw[HR.out] at hx;cases hx),fun _=> rfl⟩
    · rw[if_neg hk] at hRs
      obtain⟨K,hK⟩: ∃K,rndK (some c)=K:=⟨_,rfl⟩;rw[hK] at hRs hk;have hcs:(m=62/\K=3)\/(m=42/\K=13)\/(m=32/\K=5):=by
       unfold rndK at hK;by_cases g1:c=62
       · subst g1;exact .inl ⟨hm.symm,by simpa using hK.symm⟩
       · by_cases g2:c=42
         · subst g2;exact .inr (.inl ⟨hm.symm,by simpa using hK.symm⟩)
         · by_cases g3:c=32
           · subst g3;exact .inr (.inr ⟨hm.symm,by simpa using hK.symm⟩)
           · simp[g1,g2,g3] at hK;exact absurd hK.symm hk
      have HRS:=hdq hRs;clear hRs hK hk;rcases hcs with⟨rfl,rfl⟩ |⟨rfl,rfl⟩ |⟨rfl,rfl⟩
      all_goals(
       go_wp2_with fail;refine(HI2.out _ (by omega)).mono ?_;rintro e w2 ⟨t',u',nx',rfl,hF',e2,q1,q2⟩;obtain⟨k1,n1,A1,l1,c1,rfl⟩:=hF'.three;have hs2:=e2.size_alloc;have hxa:=e2.trans ((xr w2).alloc (.cells #[.int .i64 k1,.int .i64 n1,.slice A1 l1 c1] 25));have hb2:=hxa.blk hb';have hbA2:=hxa.blk hbA;have hbB:=heap_alloc_new w2 (.cells #[.int .i64 k1,.int .i64 n1,.slice A1 l1 c1] 25);obtain⟨s0,s1,s2,f0,f1,f2⟩:=own3 hb2;obtain⟨x0,x1,x2,-,-,-⟩:=own3 hbA2;have hx2:=hx1.trans hxa;have hF2:=hF1.ext hxa;have hF2':=(hF'.ext ((xr w2).alloc (.cells #[.int .i64 k1,.int .i64 n1,.slice A1 l1 c1] 25))).since (show w.heap.size+1<=_ by simp;omega);cases hFb:F (b+1) with
       |none=>
        obtain rfl:=q2 hFb;have hRn:=HRS.out;rw[hFb] at hRn;have HR:=hdq hRn;clear q1 q2 hRn hFb;go_wp2_with fail;exact bodyPost_ret (v:= .tuple #[.agg #[.int .i64 0,.int .i64 0,.slice none 0 0],.int .i64 (-1)]) (by simp[results,Tryz.results209,go_sem,s0,s1,s2]) rfl ⟨.mk 0 0 [],_,-1,rfl,From.leaf _ _ _ _,((hx2.setCell (by simp) _).setCell (by simp) _).setCell (by simp) _,(fun x hx=> by rw[HR.out] at hx;cases hx),fun _=> rfl⟩
       |some y2=>
        obtain⟨x',b'⟩:=y2;obtain⟨h1,h2,h3'⟩:=q1 _ hFb;simp only at h1 h2 h3';have hRs2:=HRS.out;rw[hFb] at hRs2;simp only at hRs2;subst h1 h2;clear q1 q2 hFb;have t5:decide ((b':Int) < 0)=false:=decide_eq_false (by omega);by_cases hlt':b' < s.size
        · obtain⟨c',hc'⟩: ∃c',s[b']=c':=⟨_,rfl⟩
          rw[q44 hlt' hc'] at hRs2;have hbz':(b':Int) <(s.size:Int):=by omega
          have t6:decide ((s.size:Int)<=(b':Int))=false:=decide_eq_false (by omega);by_cases h41:c'=41
          · subst h41
            rw[if_pos rfl] at hRs2;have HR:=hdq hRs2;clear hRs2;go_wp2_with fail;refine(y28 (w.heap.size+1) _ _ _ 2 [t,t'] (by intro h;cases h) (j18.two (g:=w2.heap.size+1) (e:=25) hF2 hF2' (by simp;omega) (by simp)) (by simp;omega) (by simp)).mono ?_;rintro e w3 ⟨v,rfl,hN,e3⟩;obtain⟨k3,n3,A3,l3,c3,rfl⟩:=hN.three;obtain⟨z0,z1,z2,g0,g1,g2⟩:=own3 (e3.blk (((xr _).alloc _).blk hb2));have hx3:=hx2.trans (((xr _).alloc _).trans e3);clear s0 s1 s2 x0 x1 x2;go_wp2_with fail;refine bodyPost_ret (v:= .tuple #[.agg #[.int .i64 k3,.int .i64 n3,.slice A3 l3 c3],.int .i64 ((b':Int)+1)]) (by simp[results,Tryz.results209,go_sem,z0,z1,z2]) rfl ⟨_,_,_,rfl,(((hN.set (by simp) _).set (by simp) _).set (by simp) _).since (by omega),((hx3.setCell (by simp) _).setCell (by simp) _).setCell (by simp) _, ?_, ?_⟩
            · intro x hx
              rw[HR.out] at hx;cases hx
              exact⟨rfl,by simp,by show b'+1<=s.size;omega⟩
            · intro hx
              rw[HR.out] at hx;cases hx
          · rw[if_neg (by intro h;cases h;exact h41 rfl)] at hRs2
            have HR:=hdq hRs2;have t7:((c'.toNat:Int) !=41)=true:=by rw[bne_iff_ne];intro h;exact h41 (UInt8.toNat_inj.1 (by simp;omega))
            have t8:((c'.toNat:Int)==41)=false:=by rw[beq_eq_false_iff_ne];intro h;exact h41 (UInt8.toNat_inj.1 (by simp;omega))
            clear hRs2 h41;go_wp2_with fail;exact bodyPost_ret (v:= .tuple #[.agg #[.int .i64 0,.int .i64 0,.slice none 0 0],.int .i64 (-1)]) (by simp[results,Tryz.results209,go_sem,s0,s1,s2]) rfl ⟨.mk 0 0 [],_,-1,rfl,From.leaf _ _ _ _,((hx2.setCell (by simp) _).setCell (by simp) _).setCell (by simp) _,(fun x hx=> by rw[HR.out] at hx;cases hx),fun _=> rfl⟩
        · rw[j40 s (by omega),if_neg (by simp)] at hRs2
          have HR:=hdq hRs2;have t6:decide ((s.size:Int)<=(b':Int))=true:=decide_eq_true (by omega);clear hRs2;go_wp2_with fail;exact bodyPost_ret (v:= .tuple #[.agg #[.int .i64 0,.int .i64 0,.slice none 0 0],.int .i64 (-1)]) (by simp[results,Tryz.results209,go_sem,s0,s1,s2]) rfl ⟨.mk 0 0 [],_,-1,rfl,From.leaf _ _ _ _,((hx2.setCell (by simp) _).setCell (by simp) _).setCell (by simp) _,(fun x hx=> by rw[HR.out] at hx;cases hx),fun _=> rfl⟩)
  · rw[j40 s (by omega),if_pos (by rfl)] at hRs
    have HR:=hdq hRs;have t0:decide ((b:Int) < 0)=false:=decide_eq_false (by omega);have t1:decide ((s.size:Int)<=(b:Int))=true:=decide_eq_true (by omega);obtain⟨s0,s1,s2,f0,f1,f2⟩:=own3 hb';clear hRs hsz hcap;go_wp2_with fail;exact bodyPost_ret (v:= .tuple #[.agg #[.int .i64 0,.int .i64 0,.slice none 0 0],.int .i64 (-1)]) (by simp[results,Tryz.results209,go_sem,s0,s1,s2]) rfl ⟨.mk 0 0 [],_,-1,rfl,From.leaf _ _ _ _,((hx1.setCell (by simp) _).setCell (by simp) _).setCell (by simp) _,(fun x hx=> by rw[HR.out] at hx;cases hx),fun _=> rfl⟩
end Go.Proofs.YtdkamgafpphdjaaGreat
