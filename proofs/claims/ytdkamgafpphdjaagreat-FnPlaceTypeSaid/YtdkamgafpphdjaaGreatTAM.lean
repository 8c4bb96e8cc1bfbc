/-
  Lemmas towards the law, 13: Sub, Paths.
-/
import Derived.Test.YtdkamgafpphdjaaGreatTAK
namespace Go.Proofs.YtdkamgafpphdjaaGreat
open Go.RowKit
set_option linter.unusedVariables false
def j14:Tr:= .mk 0 0 []
mutual
def shfT(y:Int):Tr->Int->Tr
 | .mk k n ks,c=> .mk k (if k=1/\c<=n then n+y else n) (q21 y k ks 0 c)
def q21(y:Int):Int->List Tr->Nat->Int->List Tr
 |_, [],_,_=> []
 |k,t::ts,i,c=> shfT y t (c+und k i)::q21 y k ts (i+1) c
end
mutual
def sbsT(u:Tr):Tr->Int->Int->Tr
 | .mk k n ks,x,d=> if k=1/\n=x then shfT d u 0 else .mk k (if k=1/\x < n then n - 1 else n) (y22 u k ks 0 x d)
def y22(u:Tr):Int->List Tr->Nat->Int->Int->List Tr
 |_, [],_,_,_=> []
 |k,t::ts,i,x,d=> sbsT u t (x+und k i) (d+und k i)::y22 u k ts (i+1) x d
end
mutual
def chgT(g:Int->Int->Tr):Tr->Int->Tr
 | .mk k n ks,b=> if k=1 then g n b else .mk k n (j86 g k ks 0 b)
def j86(g:Int->Int->Tr):Int->List Tr->Nat->Int->List Tr
 |_, [],_,_=> []
 |k,t::ts,i,b=> chgT g t (b+und k i)::j86 g k ts (i+1) b
end
mutual
def allT(h:Int->Int->Bool):Tr->Int->Bool
 | .mk k n ks,b=> if k=1 then h n b else j41 h k ks 0 b
def j41(h:Int->Int->Bool):Int->List Tr->Nat->Int->Bool
 |_, [],_,_=> true
 |k,t::ts,i,b=> allT h t (b+und k i)&& j41 h k ts (i+1) b
end
theorem y100(y:Int): ∀(k:Int) (ts:List Tr) (i:Nat) (c:Int),(q21 y k ts i c).length=ts.length
 |_, [],_,_=> rfl
 |k,t::ts,i,c=> by simp[q21,y100 y k ts (i+1) c]
theorem j139(u:Tr): ∀(k:Int) (ts:List Tr) (i:Nat) (x d:Int),(y22 u k ts i x d).length=ts.length
 |_, [],_,_,_=> rfl
 |k,t::ts,i,x,d=> by simp[y22,j139 u k ts (i+1) x d]
mutual
theorem y152(y:Int): ∀(t:Tr) (c:Int),cnt (shfT y t c)=cnt t
 | .mk k n ks,c=> by
  unfold shfT;simp only[cnt,y138 y k ks 0 c]
theorem y138(y:Int): ∀(k:Int) (ts:List Tr) (i:Nat) (c:Int),cnts (q21 y k ts i c)=cnts ts
 |_, [],_,_=> rfl
 |k,t::ts,i,c=> by
  unfold q21;simp only[cnts,y152 y t _,y138 y k ts (i+1) c]
end
mutual
theorem y65{g:Sig}: ∀{t:Tr} {d e:Int},shape g t d=true->d<=e->shape g t e=true
 | .mk k n ks,d,e,h,hd=> by
  simp only[shape,Bool.and_eq_true,decide_eq_true_eq] at h⊢;exact⟨by omega,h.2.1,q99 h.2.2 (by omega)⟩
theorem q99{g:Sig}: ∀{ts:List Tr} {d e:Int},y23 g ts d=true->d<=e->y23 g ts e=true
 | [],_,_,_,_=> rfl
 |t::ts,d,e,h,hd=> by
  simp only[y23,Bool.and_eq_true] at h⊢;exact⟨y65 h.1 hd,q99 h.2 hd⟩
end
theorem j126{n:Int}{ks:List Tr}{d:Int}(h:shape sigT (.mk 1 n ks) d=true):ks= []/\0<=n/\n<=20:=by
 obtain⟨h0,h1,h2,-⟩:=j12 h;have h3:=q143 1;have:(0:Int)=(ks.length:Int):=h0;exact⟨List.eq_nil_of_length_eq_zero (by omega),h1,by omega⟩
def gsh(y c:Int)(n b:Int):Tr:= .mk 1 (if c<=n - b then n+y else n) []
def hsh(y c:Int)(n b:Int):Bool:=if c<=n - b then decide (c<=n+y - b)&& decide (n+y<=20) else true
mutual
theorem q152(y c:Int): ∀(t:Tr) (b d:Int),shape sigT t d=true->chgT (gsh y c) t b=shfT y t (c+b)
 | .mk k n ks,b,d,h=> by
  unfold chgT shfT;by_cases hk:k=1
  · subst hk
    obtain⟨rfl,-,-⟩:=j126 h;rw[if_pos rfl];unfold gsh;by_cases h2:c<=n - b
    · rw[if_pos h2,if_pos ⟨rfl,by omega⟩];rfl
    · rw[if_neg h2,if_neg (by omega)];rfl
  · rw[if_neg hk,if_neg (fun h=> hk h.1),j138 y c k ks 0 b (d - 1) (j12 h).2.2.2]
theorem j138(y c:Int): ∀(k:Int) (ts:List Tr) (i:Nat) (b d:Int),(∀t∈ts,shape sigT t d=true)->j86 (gsh y c) k ts i b=q21 y k ts i (c+b)
 |_, [],_,_,_,_=> rfl
 |k,t::ts,i,b,d,h=> by
  unfold j86 q21;rw[q152 y c t _ d (h t (by simp)),j138 y c k ts (i+1) b d (fun t ht=> h t (by simp[ht])),Int.add_assoc]
end
theorem q158{g:Sig}{k n:Int}{a b:Nat}(h:a=b):j79 g k n a=j79 g k n b:=by rw[h]
mutual
theorem y156(y c:Int)(hy:0<=y): ∀(t:Tr) (b d:Int),shape sigT t d=true->allT (hsh y c) t b=shape sigT (shfT y t (c+b)) d
 | .mk k n ks,b,d,h=> by
  have hh:=h;simp only[shape,Bool.and_eq_true] at hh;unfold allT shfT;by_cases hk:k=1
  · subst hk
    obtain⟨rfl,h0,h1⟩:=j126 h;have hd:=of_decide_eq_true hh.1;rw[if_pos rfl];have hs: ∀x:Int,0<=x->shape sigT (.mk 1 x []) d=decide (x<=20):=fun x hx=> by
     simp only[shape,y23,j79,List.length_nil,Bool.and_true];rw[decide_eq_true hd,decide_eq_true (show sigT.ops 1=((0:Nat):Int) from rfl),Bool.true_and,Bool.true_and]
     show inR x 0 20=_
     unfold inR;rw[decide_eq_true hx,Bool.true_and]
    unfold hsh;by_cases h2:c<=n - b
    · rw[if_pos h2,if_pos ⟨rfl,by omega⟩,show q21 y 1 [] 0 (c+b)= [] from rfl,hs _ (by omega),decide_eq_true (by omega),Bool.true_and]
    · rw[if_neg h2,if_neg (by omega),show q21 y 1 [] 0 (c+b)= [] from rfl,hs _ h0,decide_eq_true h1]
  · rw[if_neg hk,if_neg (fun h=> hk h.1),j134 y c hy k ks 0 b (d - 1) hh.2.2]
    simp only[shape];rw[hh.1,q158 (y100 y k ks 0 (c+b)),hh.2.1]
    rfl
theorem j134(y c:Int)(hy:0<=y): ∀(k:Int) (ts:List Tr) (i:Nat) (b d:Int),y23 sigT ts d=true->j41 (hsh y c) k ts i b=y23 sigT (q21 y k ts i (c+b)) d
 |_, [],_,_,_,_=> rfl
 |k,t::ts,i,b,d,h=> by
  simp only[y23,Bool.and_eq_true] at h;unfold j41 q21;simp only[y23];rw[y156 y c hy t _ d h.1,j134 y c hy k ts (i+1) b d h.2,Int.add_assoc]
end
theorem y183{y c:Int}(hy:0<=y){t:Tr}(h:valid sigT t=true):(allT (hsh y c) t 0 && valid sigT (chgT (gsh y c) t 0))=valid sigT (shfT y t c)/\chgT (gsh y c) t 0=shfT y t c:=by
 obtain⟨h1,h2⟩:=q12 h;have e1:=q152 y c t 0 30 h1;have e2:=y156 y c hy t 0 30 h1;rw[Int.add_zero] at e1 e2;refine⟨?_,e1⟩;rw[e1,e2];unfold valid;cases shape sigT (shfT y t c) 30 <;> simp
def gsb(u:Tr)(x:Int)(n b:Int):Tr:=if n - b=x then(if valid sigT (shfT b u 0)=true then shfT b u 0 else j14) else .mk 1 (if x < n - b then n - 1 else n) []
def hsb(u:Tr)(x:Int)(n b:Int):Bool:=if n - b=x then valid sigT (shfT b u 0) else true
mutual
theorem j146(u:Tr)(x:Int): ∀(t:Tr) (b d:Int),shape sigT t d=true->allT (hsb u x) t b=true->chgT (gsb u x) t b=sbsT u t (x+b) b
 | .mk k n ks,b,d,h,ho=> by
  unfold allT at ho;unfold chgT sbsT;by_cases hk:k=1
  · subst hk
    obtain⟨rfl,-,-⟩:=j126 h;rw[if_pos rfl] at ho⊢;unfold hsb at ho;unfold gsb;by_cases h2:n - b=x
    · rw[if_pos h2] at ho⊢
      rw[if_pos ho,if_pos (show(1:Int)=1/\n=x+b from⟨rfl,by omega⟩)]
    · rw[if_neg h2,if_neg (show¬((1:Int)=1/\n=x+b) from by omega)]
      by_cases h3:x < n - b
      · rw[if_pos h3,if_pos (show(1:Int)=1/\x+b < n from⟨rfl,by omega⟩)];rfl
      · rw[if_neg h3,if_neg (show¬((1:Int)=1/\x+b < n) from by omega)];rfl
  · rw[if_neg hk] at ho⊢
    rw[if_neg (fun h=> hk h.1),if_neg (fun h=> hk h.1),q139 u x k ks 0 b (d - 1) (j12 h).2.2.2 ho]
theorem q139(u:Tr)(x:Int): ∀(k:Int) (ts:List Tr) (i:Nat) (b d:Int),(∀t∈ts,shape sigT t d=true)->j41 (hsb u x) k ts i b=true->j86 (gsb u x) k ts i b=y22 u k ts i (x+b) b
 |_, [],_,_,_,_,_=> rfl
 |k,t::ts,i,b,d,h,ho=> by
  unfold j41 at ho;rw[Bool.and_eq_true] at ho;unfold j86 y22;rw[j146 u x t _ d (h t (by simp)) ho.1,q139 u x k ts (i+1) b d (fun t ht=> h t (by simp[ht])) ho.2,Int.add_assoc]
end
mutual
theorem q131(u:Tr)(x:Int)(hu:cnt u<=400): ∀(t:Tr) (b d:Int),shape sigT t d=true->allT (hsb u x) t b=false-> ∀e:Int,e<=30->shape sigT (sbsT u t (x+b) b) e=false
 | .mk k n ks,b,d,h,ho,e,he=> by
  unfold allT at ho;unfold sbsT;by_cases hk:k=1
  · subst hk
    rw[if_pos rfl] at ho;unfold hsb at ho;by_cases h2:n - b=x
    · rw[if_pos h2] at ho
      rw[if_pos (show(1:Int)=1/\n=x+b from⟨rfl,by omega⟩),Bool.eq_false_iff];intro hs;have h3:=y65 hs he;unfold valid at ho;rw[h3,y152,decide_eq_true hu] at ho;cases ho
    · rw[if_neg h2] at ho
      cases ho
  · rw[if_neg hk] at ho
    rw[if_neg (fun h=> hk h.1)];simp only[shape];rw[j109 u x hu k ks 0 b (d - 1) (j12 h).2.2.2 ho (e - 1) (by omega)];simp
theorem j109(u:Tr)(x:Int)(hu:cnt u<=400): ∀(k:Int) (ts:List Tr) (i:Nat) (b d:Int),(∀t∈ts,shape sigT t d=true)->j41 (hsb u x) k ts i b=false-> ∀e:Int,e<=30->y23 sigT (y22 u k ts i (x+b) b) e=false
 |_, [],_,_,_,_,ho,_,_=> by unfold j41 at ho;cases ho
 |k,t::ts,i,b,d,h,ho,e,he=> by
  unfold j41 at ho;unfold y22;simp only[y23];rw[Bool.and_eq_false_iff] at ho⊢;rw[Int.add_assoc];rcases ho with ho|ho
  · exact .inl (q131 u x hu t _ d (h t (by simp)) ho e he)
  · exact .inr (j109 u x hu k ts (i+1) b d (fun t ht=> h t (by simp[ht])) ho e he)
end
theorem q189{u:Tr}{x:Int}(hu:cnt u<=400){t:Tr}(h:valid sigT t=true):(allT (hsb u x) t 0 && valid sigT (chgT (gsb u x) t 0))=valid sigT (sbsT u t x 0)/\(allT (hsb u x) t 0=true->chgT (gsb u x) t 0=sbsT u t x 0):=by
 obtain⟨h1,h2⟩:=q12 h;have e1:=j146 u x t 0 30 h1;have e2:=q131 u x hu t 0 30 h1;rw[Int.add_zero] at e1 e2;refine⟨?_,e1⟩;cases ha:allT (hsb u x) t 0 with
 |true=> rw[e1 ha,Bool.true_and]
 |false=>
  unfold valid;rw[e2 ha 30 (Int.le_refl _)]
  rfl
end Go.Proofs.YtdkamgafpphdjaaGreat
namespace Go.Proofs.YtdkamgafpphdjaaGreat
open Go.RowKit
set_option linter.unusedVariables false
def q19(w:World)(S:Nat->Prop)(u:Value)(p:List Int):Prop:=
 (u= .slice none 0 0/\p= [])\/ ∃b o c,u= .slice (some ⟨b,o,none⟩) p.length c/\p.length<=c/\c<=maxLen/\S b/\ ∀j (h:j < p.length),w.cell? ⟨b,o+j,none⟩=some (.int .i64 p[j])
theorem q19.mono{w w':World}{S S':Nat->Prop}{u:Value}{p:List Int}(hS: ∀b,S b->S' b)(hw: ∀b,S b->w'.heap[b]? =w.heap[b]?)(h:q19 w S u p):q19 w' S' u p:=by
 rcases h with h|⟨b,o,c,rfl,h1,h2,h3,h4⟩
 · exact .inl h
 · exact .inr ⟨b,o,c,rfl,h1,h2,hS b h3,fun j hj=>(World.cell?_of_block (w:=w) (a:=⟨b,o+j,none⟩) (hw b h3)).trans (h4 j hj)⟩
theorem q19.oneCell{w:World}{S:Nat->Prop}{u:Value}{p:List Int}(h:q19 w S u p):u.oneCell'=true:=by
 rcases h with⟨rfl,_⟩ |⟨b,o,c,rfl,_⟩ <;> rfl
theorem q19.slice{w:World}{S:Nat->Prop}{u:Value}{p:List Int}(h:q19 w S u p)(hS: ∀b,S b->b < w.heap.size): ∃A c,u= .slice A p.length c/\p.length<=c/\c<=maxLen/\Nums w A p:=by
 rcases h with⟨rfl,rfl⟩ |⟨b,o,c,rfl,h1,h2,h3,h4⟩
 · exact⟨none,0,rfl,Nat.le_refl _,Nat.zero_le _, .inl rfl⟩
 · exact⟨_,c,rfl,h1,h2, .inr ⟨b,o,rfl,hS b h3,h4⟩⟩
theorem q32{w:World}{base:Nat}{e:TypeId}{v:Value}{p:List Int}(h:w.ownsRow base e 1 v p.length (p.map (Value.int .i64))):q19 w (fun b=> base<=b/\b < w.heap.size/\v.ownBlock=some b) v p:=by
 have hcl:=fun g hg=> h.cells (g:=g) hg
 rcases h.2 with⟨rfl,h0⟩ |⟨g,c,cur,rfl,hb,hg,hn,hm,hcs,ht⟩
 · exact .inl ⟨rfl,List.eq_nil_of_length_eq_zero h0⟩
 · refine .inr ⟨g,0,c,rfl,hn,hm,⟨hb,q10 hg,rfl⟩,fun j hj=> ?_⟩
   have:=hcl g rfl j (.int .i64 p[j]) (by rw[List.getElem?_map,List.getElem?_eq_getElem hj];rfl)
   rwa [Addr.add_lit] at this
def RowP(w:World)(S:Nat->Prop)(xs:List Value)(ps:List (List Int)):Prop:=xs.length=ps.length/\ ∀(j:Nat) (u:Value) (p:List Int),xs[j]? =some u->ps[j]? =some p->q19 w S u p
theorem RowP.mono{w w':World}{S S':Nat->Prop}{xs:List Value}{ps:List (List Int)}(hS: ∀b,S b->S' b)(hw: ∀b,S b->w'.heap[b]? =w.heap[b]?)(h:RowP w S xs ps):RowP w' S' xs ps:=
 ⟨h.1,fun j u p h1 h2=>(h.2 j u p h1 h2).mono hS hw⟩
theorem RowP.append{w:World}{S:Nat->Prop}{xs ys:List Value}{ps qs:List (List Int)}(h:RowP w S xs ps)(k:RowP w S ys qs):RowP w S (xs++ys) (ps++qs):=by
 refine⟨by simp[h.1,k.1],fun j u p h1 h2=> ?_⟩;by_cases hj:j < xs.length
 · rw[List.getElem?_append_left hj] at h1
   rw[List.getElem?_append_left (by have:=h.1;omega)] at h2;exact h.2 j u p h1 h2
 · rw[List.getElem?_append_right (by omega)] at h1
   rw[List.getElem?_append_right (by have:=h.1;omega)] at h2;exact k.2 (j - xs.length) u p h1 (by rw[h.1];exact h2)
theorem RowP.one{w:World}{S:Nat->Prop}{u:Value}{p:List Int}(h:q19 w S u p):RowP w S [u] [p]:=by
 refine⟨rfl,fun j u' p' h1 h2=> ?_⟩
 match j,h1,h2 with
 |0,h1,h2=>
  simp at h1 h2
  subst h1 h2;exact h
 |j+1,h1,h2=> simp at h1
def q25(W w:World)(e:TypeId)(v:Value)(ps:List (List Int)):Prop:=
 ∃xs,w.ownsRow W.heap.size e 1 v ps.length xs/\RowP w (fun b=> W.heap.size<=b/\b < w.heap.size/\v.ownBlock≠some b) xs ps
theorem q25.lit{W w:World}{e:TypeId}{g:Nat}(hg:w.heap[g]? =some (.cells #[] e (0,0)))(hW:W.heap.size<=g):q25 W w e (.slice (some ⟨g,0,none⟩) 0 0) []:=
 ⟨[],⟨rfl, .inr ⟨g,0,#[],rfl,hW,hg,Nat.le_refl _,Nat.zero_le _,rfl,rfl⟩⟩,rfl,fun j u p h=> by simp at h⟩
theorem j76{w w':World}{base n':Nat}{e:TypeId}{v:Value}{n:Nat}{xs:List Value}(h:w.ownsRow base e n' v n xs)(hb: ∀g,v.ownBlock=some g->w'.heap[g]? =w.heap[g]?):w'.ownsRow base e n' v n xs:=by
 refine⟨h.1, ?_⟩;rcases h.2 with h|⟨g,cap,cur,rfl,h1,h2,r⟩
 · exact .inl h
 · exact .inr ⟨g,cap,cur,rfl,h1,(hb g rfl).trans h2,r⟩
theorem q25.same{W w w':World}{e:TypeId}{v:Value}{ps:List (List Int)}(h:q25 W w e v ps)(hs:w.heap.size<=w'.heap.size)(hw: ∀b,W.heap.size<=b->b < w.heap.size->w'.heap[b]? =w.heap[b]?):q25 W w' e v ps:=by
 obtain⟨xs,h1,h2⟩:=h;exact⟨xs,j76 h1 (fun g hg=> hw g (h1.lt g hg).1 (h1.lt g hg).2),h2.mono (fun b hb=>⟨hb.1,Nat.lt_of_lt_of_le hb.2.1 hs,hb.2.2⟩) (fun b hb=> hw b hb.1 hb.2.1)⟩
theorem q25.ext{W w w':World}{e:TypeId}{v:Value}{ps:List (List Int)}(h:q25 W w e v ps)(he:Ext w w'):q25 W w' e v ps:=h.same he.size (fun b _ hb=> he.heap b hb)
theorem q25.since{W W' w:World}{e:TypeId}{v:Value}{ps:List (List Int)}(h:q25 W w e v ps)(hs:W'.heap.size<=W.heap.size):q25 W' w e v ps:=by
 obtain⟨xs,h1,h2⟩:=h;refine⟨xs,⟨h1.1, ?_⟩,h2.mono (fun b hb=>⟨Nat.le_trans hs hb.1,hb.2⟩) (fun _ _=> rfl)⟩;rcases h1.2 with h|⟨g,cap,cur,rfl,h1,r⟩
 · exact .inl h
 · exact .inr ⟨g,cap,cur,rfl,Nat.le_trans hs h1,r⟩
theorem q25.lt{W w:World}{e:TypeId}{v:Value}{ps:List (List Int)}(h:q25 W w e v ps){g:Nat}(hg:v.ownBlock=some g):W.heap.size<=g/\g < w.heap.size:=by
 obtain⟨xs,h1,h2⟩:=h;exact h1.lt g hg
theorem q25.slice{W w:World}{e:TypeId}{v:Value}{ps:List (List Int)}(h:q25 W w e v ps): ∃A cap,v= .slice A ps.length cap/\ps.length<=cap/\cap<=maxLen/\(ps= []\/ ∃b,A=some ⟨b,0,none⟩)/\ ∀j (hj:j < ps.length),∃b u,A=some ⟨b,0,none⟩/\w.cell? ⟨b,j,none⟩=some u/\q19 w (fun b=> W.heap.size<=b/\b < w.heap.size/\v.ownBlock≠some b) u ps[j]:=by
 obtain⟨xs,h1,h2⟩:=h;have hcl:=fun g hg=> h1.cells (g:=g) hg
 rcases h1.2 with⟨rfl,h0⟩ |⟨g,c,cur,rfl,hb,hg,hn,hm,hcs,ht⟩
 · refine⟨none,0,by rw[h0],by omega,Nat.zero_le _, .inl (List.eq_nil_of_length_eq_zero h0),fun j hj=> by omega⟩
 · refine⟨_,c,rfl,hn,hm, .inr ⟨g,rfl⟩,fun j hj=> ?_⟩
   have hj':j < xs.length:=by rw[h2.1];exact hj
   have h3:=hcl g rfl j xs[j] (List.getElem?_eq_getElem hj');rw[Addr.add_lit,Nat.zero_add] at h3;exact⟨g,_,rfl,h3,h2.2 j _ _ (List.getElem?_eq_getElem hj') (List.getElem?_eq_getElem hj)⟩
theorem Only.widen{L M:List Nat}{a w w':World}(h:Only L a w)(k:Only M w w')(hM: ∀b,b∈M->b∈L\/a.heap.size<=b):Only L a w':=
 ⟨k.os.trans h.os,k.tape.trans h.tape,k.output.trans h.output,Nat.le_trans h.size k.size,fun i hi hn=>(k.block i (Nat.lt_of_lt_of_le hi h.size) (fun hm=> by rcases hM i hm with h1|h1;exact hn h1;omega)).trans (h.block i hi hn)⟩
theorem Only.ofExt{L:List Nat}{w w':World}(h:Ext w w'):Only L w w':=⟨h.os,h.tape,h.output,h.size,fun b hb _=> h.heap b hb⟩
theorem q83{P:Program}(w:World){o:Oper}{a:Act}{K:Act->World->Prop}{Q:Exit->Act->World->Prop}(s x:Operand)(t:TypeId)
 (ho:o.op= .call {callee:= .builtin .append,args:=#[s,x],argTypes:=#[t,t]})
 (base:Nat) (e e':TypeId) (i:TypeInfo) (z:Value) (bytes:Nat) (ht:P.underlying t=some (.slice e)) (hi:P.info? e=some i) (hz:i.zero=some z) (hsize:i.size=1) (hby:i.bytes=bytes) (hb8:bytes<=64) (hzs:z.cells.size=1)
 {v:Value} {n:Nat} {xs:List Value} {y:Value} {gx:Nat} (hy:y.oneCell'=true) (hs:a.eval s=v) (hown:w.ownsRow base e 1 v n xs)
 (hx:a.eval x= .slice (some ⟨gx,0,none⟩) 1 1) (hgx:w.heap[gx]? =some (.cells #[y] e' (0,0))) (hn:n < 1099511627776) (hbase:base<=w.heap.size)
 (h: ∀v' w',w'.ownsRow base e 1 v' (n+1) (xs++ [y])->w.grownBy w' v.ownBlock->(∀g,v'.ownBlock=some g->v.ownBlock=some g\/w.heap.size<=g)->K (a.put o.dst v') w'):o.wp P a w K Q:=by
 have hc: ∀j u, [y][j]? =some u->w.cell? ((⟨gx,0,none⟩:Addr).add j)=some u:=by
  intro j u hu;rw[Addr.add_lit,Nat.zero_add,y10 hgx]
  simpa using hu
 have h1: ∀u∈ [y],u.oneCell'=true:=by intro u hu;rw[List.mem_singleton.1 hu];exact hy
 have hb:(n+1)*bytes<=140737488355328:=Nat.le_trans (Nat.mul_le_mul (show n+1<=1099511627776 by omega) hb8) (by decide);obtain⟨v',w',hr,r1,r2,r3⟩:=q16 (P:=P) w base t o.type e i z 1 bytes ht hi hz hsize hby hzs (by decide) v n xs hown ⟨gx,0,none⟩ 1 1 [y] rfl hc h1 (by unfold maxLen;omega) hb hbase;unfold Oper.wp execOp;simp only[ho,resolve,invoke,builtin,Sem.run_bind,Sem.run_pure,Result.andThen_ok,List.map_toArray,List.map_cons,List.map_nil,hs,hx,hr];exact h v' w' r1 r2 r3
theorem y107{P:Program}(w:World){o:Oper}{a:Act}{K:Act->World->Prop}{Q:Exit->Act->World->Prop}(s x:Operand)(t:TypeId)
 (ho:o.op= .call {callee:= .builtin .append,args:=#[s,x],argTypes:=#[t,t]})
 (e e':TypeId) (i:TypeInfo) (z:Value) (bytes:Nat) (ht:P.underlying t=some (.slice e)) (hi:P.info? e=some i) (hz:i.zero=some z) (hsize:i.size=1) (hby:i.bytes=bytes) (hb8:bytes<=64) (hzs:z.cells.size=1)
 {W:World} {v:Value} {ps:List (List Int)} {p:List Int} {y:Value} {gx:Nat} (hs:a.eval s=v) (hG:q25 W w e v ps) (hW:W.heap.size<=w.heap.size)
 (hp:q19 w (fun b=> W.heap.size<=b/\b < w.heap.size/\v.ownBlock≠some b) y p)
 (hx:a.eval x= .slice (some ⟨gx,0,none⟩) 1 1) (hgx:w.heap[gx]? =some (.cells #[y] e' (0,0))) (hn:ps.length < 1099511627776)
 (h: ∀v' w',q25 W w' e v' (ps++ [p])->w.grownBy w' v.ownBlock->(∀g,v'.ownBlock=some g->v.ownBlock=some g\/w.heap.size<=g)->K (a.put o.dst v') w'):o.wp P a w K Q:=by
 obtain⟨xs,h1,h2⟩:=hG;refine q83 w s x t ho W.heap.size e e' i z bytes ht hi hz hsize hby hb8 hzs hp.oneCell hs h1 hx hgx hn hW (fun v' w' r1 r2 r3=> ?_);have hS: ∀b,W.heap.size<=b/\b < w.heap.size/\v.ownBlock≠some b->W.heap.size<=b/\b < w'.heap.size/\v'.ownBlock≠some b:=fun b hb=> by
  refine⟨hb.1,Nat.lt_of_lt_of_le hb.2.1 r2.size,fun he=> ?_⟩;rcases r3 b he with h4|h4
  · exact hb.2.2 h4
  · omega
 have hw: ∀b,W.heap.size<=b/\b < w.heap.size/\v.ownBlock≠some b->w'.heap[b]? =w.heap[b]? :=fun b hb=> r2.block b hb.2.1 (fun he=> hb.2.2 he.symm)
 exact h v' w' ⟨_,by simpa using r1,(h2.mono hS hw).append (RowP.one (hp.mono hS hw))⟩ r2 r3
theorem y69{P:Program}(w:World){o:Oper}{a:Act}{K:Act->World->Prop}{Q:Exit->Act->World->Prop}(s x:Operand)(t:TypeId)
 (ho:o.op= .call {callee:= .builtin .append,args:=#[s,x],argTypes:=#[t,t]})
 (base:Nat) (e:TypeId) (i:TypeInfo) (z:Value) (bytes:Nat) (ht:P.underlying t=some (.slice e)) (hi:P.info? e=some i) (hz:i.zero=some z) (hsize:i.size=1) (hby:i.bytes=bytes) (hb8:bytes<=64) (hzs:z.cells.size=1)
 {v u:Value} {ns p:List Int} {S:Nat->Prop} (hs:a.eval s=v) (hG:w.ownsRow base e 1 v ns.length (ns.map (Value.int .i64))) (hW:base<=w.heap.size)
 (hx:a.eval x=u) (hu:q19 w S u p) (hn:ns.length+p.length < 1099511627776)
 (h: ∀v' w',w'.ownsRow base e 1 v' (ns++p).length ((ns++p).map (Value.int .i64))->w.grownBy w' v.ownBlock->(∀g,v'.ownBlock=some g->v.ownBlock=some g\/w.heap.size<=g)->K (a.put o.dst v') w'):o.wp P a w K Q:=by
 rcases hu with⟨rfl,rfl⟩ |⟨b,o',c,rfl,h1,h2,h3,h4⟩
 · have hr:=run_append_owned_none (P:=P) (w:=w) base t o.type e i 1 ht hi v ns.length _ hG
   unfold Oper.wp execOp;simp only[ho,resolve,invoke,builtin,Sem.run_bind,Sem.run_pure,Result.andThen_ok,List.map_toArray,List.map_cons,List.map_nil,hs,hx,hr];exact(h v w (by simpa using hG) ⟨rfl,rfl,rfl,Nat.le_refl _,fun _ _ _=> rfl⟩ (fun g hg=> .inl hg))
 · have hbb:(ns.length+p.length)*bytes<=140737488355328:=Nat.le_trans (Nat.mul_le_mul (show ns.length+p.length<=1099511627776 by omega) hb8) (by decide)
   obtain⟨v',w',hr,r1,r2,r3⟩:=q16 (P:=P) w base t o.type e i z 1 bytes ht hi hz hsize hby hzs (by decide) v ns.length _ hG ⟨b,o',none⟩ p.length c (p.map (Value.int .i64)) (by simp)
    (fun j y hy=> by
     rw[Addr.add_lit];rw[List.getElem?_map] at hy;by_cases hj:j < p.length
     · rw[List.getElem?_eq_getElem hj] at hy
       rw[h4 j hj];exact hy
     · rw[List.getElem?_eq_none (by omega)] at hy
       cases hy)
    (fun y hy=> by obtain⟨n,_,rfl⟩:=List.mem_map.1 hy;rfl) (by unfold maxLen;omega) hbb hW
   unfold Oper.wp execOp;simp only[ho,resolve,invoke,builtin,Sem.run_bind,Sem.run_pure,Result.andThen_ok,List.map_toArray,List.map_cons,List.map_nil,hs,hx,hr];exact(h v' w' (by simpa using r1) r2 r3)
theorem y43{P:Program}(w:World){ops:Array Oper}{o:Oper}{a:Act}{K:Act->World->Prop}{Q:Exit->Act->World->Prop}{E:Prop}(hgd:o.guard=none)(s x:Operand)(t:TypeId)
 (ho:o.op= .call {callee:= .builtin .append,args:=#[s,x],argTypes:=#[t,t]})
 (base:Nat) (e e':TypeId) (i:TypeInfo) (z:Value) (bytes:Nat) (ht:P.underlying t=some (.slice e)) (hi:P.info? e=some i) (hz:i.zero=some z) (hsize:i.size=1) (hby:i.bytes=bytes) (hb8:bytes<=64) (hzs:z.cells.size=1)
 {v:Value} {n:Nat} {xs:List Value} {y:Value} {gx:Nat} (hy:y.oneCell'=true) (hs:a.eval s=v) (hown:w.ownsRow base e 1 v n xs)
 (hx:a.eval x= .slice (some ⟨gx,0,none⟩) 1 1) (hgx:w.heap[gx]? =some (.cells #[y] e' (0,0))) (hn:n < 1099511627776) (hbase:base<=w.heap.size)
 (h: ∀v' w',w'.ownsRow base e 1 v' (n+1) (xs++ [y])->w.grownBy w' v.ownBlock->(∀g,v'.ownBlock=some g->v.ownBlock=some g\/w.heap.size<=g)->K (a.put o.dst v') w'):if Region.wanted o (yielded ops a.tmps)=true then Oper.wp P o a w K Q else E:=by
 rw[if_pos (by simp[Region.wanted,hgd])];exact q83 w s x t ho base e e' i z bytes ht hi hz hsize hby hb8 hzs hy hs hown hx hgx hn hbase h
theorem y47{P:Program}(w:World){ops:Array Oper}{rest:List Oper}{o:Oper}{a:Act}{Q:Exit->Act->World->Prop}(hgd:o.guard=none)(s x:Operand)(t:TypeId)
 (ho:o.op= .call {callee:= .builtin .append,args:=#[s,x],argTypes:=#[t,t]})
 (e e':TypeId) (i:TypeInfo) (z:Value) (bytes:Nat) (ht:P.underlying t=some (.slice e)) (hi:P.info? e=some i) (hz:i.zero=some z) (hsize:i.size=1) (hby:i.bytes=bytes) (hb8:bytes<=64) (hzs:z.cells.size=1)
 {W:World} {v:Value} {ps:List (List Int)} {p:List Int} {y:Value} {gx:Nat} (hs:a.eval s=v) (hG:q25 W w e v ps) (hW:W.heap.size<=w.heap.size)
 (hp:q19 w (fun b=> W.heap.size<=b/\b < w.heap.size/\v.ownBlock≠some b) y p)
 (hx:a.eval x= .slice (some ⟨gx,0,none⟩) 1 1) (hgx:w.heap[gx]? =some (.cells #[y] e' (0,0))) (hn:ps.length < 1099511627776)
 (h: ∀v' w',q25 W w' e v' (ps++ [p])->w.grownBy w' v.ownBlock->(∀g,v'.ownBlock=some g->v.ownBlock=some g\/w.heap.size<=g)->wpList P ops Q rest (a.put o.dst v') w'):wpList P ops Q (o::rest) a w:=
 wpList_plain hgd fun K hK=> y107 w s x t ho e e' i z bytes ht hi hz hsize hby hb8 hzs hs hG hW hp hx hgx hn (fun v' w' h1 h2 h3=> hK _ _ (h v' w' h1 h2 h3))
theorem q17{P:Program}(w:World){ops:Array Oper}{rest:List Oper}{o:Oper}{a:Act}{Q:Exit->Act->World->Prop}(hgd:o.guard=none)(s x:Operand)(t:TypeId)
 (ho:o.op= .call {callee:= .builtin .append,args:=#[s,x],argTypes:=#[t,t]})
 (base:Nat) (e:TypeId) (i:TypeInfo) (z:Value) (bytes:Nat) (ht:P.underlying t=some (.slice e)) (hi:P.info? e=some i) (hz:i.zero=some z) (hsize:i.size=1) (hby:i.bytes=bytes) (hb8:bytes<=64) (hzs:z.cells.size=1)
 {v u:Value} {ns p:List Int} {S:Nat->Prop} (hs:a.eval s=v) (hG:w.ownsRow base e 1 v ns.length (ns.map (Value.int .i64))) (hW:base<=w.heap.size)
 (hx:a.eval x=u) (hu:q19 w S u p) (hn:ns.length+p.length < 1099511627776)
 (h: ∀v' w',w'.ownsRow base e 1 v' (ns++p).length ((ns++p).map (Value.int .i64))->w.grownBy w' v.ownBlock->(∀g,v'.ownBlock=some g->v.ownBlock=some g\/w.heap.size<=g)->wpList P ops Q rest (a.put o.dst v') w'):wpList P ops Q (o::rest) a w:=
 wpList_plain hgd fun K hK=> y69 w s x t ho base e i z bytes ht hi hz hsize hby hb8 hzs hs hG hW hx hu hn (fun v' w' h1 h2 h3=> hK _ _ (h v' w' h1 h2 h3))
theorem q38{P:Program}(w:World){ops:Array Oper}{o:Oper}{a:Act}{K:Act->World->Prop}{Q:Exit->Act->World->Prop}{E:Prop}(hgd:o.guard=none)(s x:Operand)(t:TypeId)
 (ho:o.op= .call {callee:= .builtin .append,args:=#[s,x],argTypes:=#[t,t]})
 (base:Nat) (e:TypeId) (i:TypeInfo) (z:Value) (bytes:Nat) (ht:P.underlying t=some (.slice e)) (hi:P.info? e=some i) (hz:i.zero=some z) (hsize:i.size=1) (hby:i.bytes=bytes) (hb8:bytes<=64) (hzs:z.cells.size=1)
 {v u:Value} {ns p:List Int} {S:Nat->Prop} (hs:a.eval s=v) (hG:w.ownsRow base e 1 v ns.length (ns.map (Value.int .i64))) (hW:base<=w.heap.size)
 (hx:a.eval x=u) (hu:q19 w S u p) (hn:ns.length+p.length < 1099511627776)
 (h: ∀v' w',w'.ownsRow base e 1 v' (ns++p).length ((ns++p).map (Value.int .i64))->w.grownBy w' v.ownBlock->(∀g,v'.ownBlock=some g->v.ownBlock=some g\/w.heap.size<=g)->K (a.put o.dst v') w'):if Region.wanted o (yielded ops a.tmps)=true then Oper.wp P o a w K Q else E:=by
 rw[if_pos (by simp[Region.wanted,hgd])];exact y69 w s x t ho base e i z bytes ht hi hz hsize hby hb8 hzs hs hG hW hx hu hn h
end Go.Proofs.YtdkamgafpphdjaaGreat
