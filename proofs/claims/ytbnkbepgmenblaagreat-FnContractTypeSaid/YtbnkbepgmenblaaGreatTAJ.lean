/-
  Lemmas towards the law, 10: Paths, Parse2, Subst, ReadP, Plc.
-/
import Derived.Test.YtbnkbepgmenblaaGreatTAI
import Derived.Deep.RegionHeldLaw
import Derived.Lib.AtoiAll
import Derived.Lib.Strings
set_option linter.unusedVariables false
set_option maxHeartbeats 2000000
set_option maxRecDepth 100000
namespace Go.Proofs.YtbnkbepgmenblaaGreat
open Go.RowKit
def q20(w:World)(S:Nat->Prop)(u:Value)(p:List Int):Prop:=
 (u= .slice none 0 0/\p= [])\/ ∃b o c,u= .slice (some ⟨b,o,none⟩) p.length c/\p.length<=c/\c<=maxLen/\S b/\ ∀j (h:j < p.length),w.cell? ⟨b,o+j,none⟩=some (.int .i64 p[j])
theorem q20.mono{w w':World}{S S':Nat->Prop}{u:Value}{p:List Int}(hS: ∀b,S b->S' b)(hw: ∀b,S b->w'.heap[b]? =w.heap[b]?)(h:q20 w S u p):q20 w' S' u p:=by
 rcases h with h|⟨b,o,c,rfl,h1,h2,h3,h4⟩
 · exact .inl h
 · exact .inr ⟨b,o,c,rfl,h1,h2,hS b h3,fun j hj=>(World.cell?_of_block (w:=w) (a:=⟨b,o+j,none⟩) (hw b h3)).trans (h4 j hj)⟩
theorem q20.oneCell{w:World}{S:Nat->Prop}{u:Value}{p:List Int}(h:q20 w S u p):u.oneCell'=true:=by
 rcases h with⟨rfl,_⟩ |⟨b,o,c,rfl,_⟩ <;> rfl
theorem q20.slice{w:World}{S:Nat->Prop}{u:Value}{p:List Int}(h:q20 w S u p)(hS: ∀b,S b->b < w.heap.size): ∃A c,u= .slice A p.length c/\p.length<=c/\c<=maxLen/\Nums w A p:=by
 rcases h with⟨rfl,rfl⟩ |⟨b,o,c,rfl,h1,h2,h3,h4⟩
 · exact⟨none,0,rfl,Nat.le_refl _,Nat.zero_le _,.inl rfl⟩
 · exact⟨_,c,rfl,h1,h2,.inr ⟨b,o,rfl,hS b h3,h4⟩⟩
theorem j34{w:World}{base:Nat}{e:TypeId}{v:Value}{p:List Int}(h:w.ownsRow base e 1 v p.length (p.map (Value.int .i64))):q20 w (fun b=> base<=b/\b < w.heap.size/\v.ownBlock=some b) v p:=by
 have Bt:=fun g hg=> h.cells (g:=g) hg
 rcases h.2 with⟨rfl,h0⟩ |⟨g,c,cur,rfl,hb,hg,hn,hm,hcs,ht⟩
 · exact .inl ⟨rfl,List.eq_nil_of_length_eq_zero h0⟩
 · refine .inr ⟨g,0,c,rfl,hn,hm,⟨hb,j10 hg,rfl⟩,fun j hj=> ?_⟩
   have:=Bt g rfl j (.int .i64 p[j]) (by rw[List.getElem?_map,List.getElem?_eq_getElem hj];rfl)
   rwa [Addr.add_lit] at this
def RowP(w:World)(S:Nat->Prop)(xs:List Value)(ps:List (List Int)):Prop:=xs.length=ps.length/\ ∀(j:Nat) (u:Value) (p:List Int),xs[j]? =some u->ps[j]? =some p->q20 w S u p
theorem RowP.mono{w w':World}{S S':Nat->Prop}{xs:List Value}{ps:List (List Int)}(hS: ∀b,S b->S' b)(hw: ∀b,S b->w'.heap[b]? =w.heap[b]?)(h:RowP w S xs ps):RowP w' S' xs ps:=
 ⟨h.1,fun j u p h1 h2=>(h.2 j u p h1 h2).mono hS hw⟩
theorem RowP.append{w:World}{S:Nat->Prop}{xs ys:List Value}{ps qs:List (List Int)}(h:RowP w S xs ps)(k:RowP w S ys qs):RowP w S (xs++ys) (ps++qs):=by
 refine⟨by simp[h.1,k.1],fun j u p h1 h2=> ?_⟩;by_cases hj:j < xs.length
 · rw[List.getElem?_append_left hj] at h1
   rw[List.getElem?_append_left (by have:=h.1;omega)] at h2;exact h.2 j u p h1 h2
 · rw[List.getElem?_append_right (by omega)] at h1
   rw[List.getElem?_append_right (by have:=h.1;omega)] at h2;exact k.2 (j - xs.length) u p h1 (by rw[h.1];exact h2)
theorem RowP.one{w:World}{S:Nat->Prop}{u:Value}{p:List Int}(h:q20 w S u p):RowP w S [u] [p]:=by
 refine⟨rfl,fun j u' p' h1 h2=> ?_⟩
 match j,h1,h2 with
 |0,h1,h2=>
  simp at h1 h2
  subst h1 h2;exact h
 |j+1,h1,h2=> simp at h1
def y24(W w:World)(e:TypeId)(v:Value)(ps:List (List Int)):Prop:=
 ∃xs,w.ownsRow W.heap.size e 1 v ps.length xs/\RowP w (fun b=> W.heap.size<=b/\b < w.heap.size/\v.ownBlock≠some b) xs ps
theorem y24.nil(W w:World)(e:TypeId):y24 W w e (.slice none 0 0) []:=⟨[],World.ownsRow_nil _ _ _ _,rfl,fun j u p h=> by simp at h⟩
theorem y24.lit{W w:World}{e:TypeId}{g:Nat}(hg:w.heap[g]? =some (.cells #[] e (0,0)))(hW:W.heap.size<=g):y24 W w e (.slice (some ⟨g,0,none⟩) 0 0) []:=
 ⟨[],⟨rfl,.inr ⟨g,0,#[],rfl,hW,hg,Nat.le_refl _,Nat.zero_le _,rfl,rfl⟩⟩,rfl,fun j u p h=> by simp at h⟩
theorem y79{w w':World}{base n':Nat}{e:TypeId}{v:Value}{n:Nat}{xs:List Value}(h:w.ownsRow base e n' v n xs)(hb: ∀g,v.ownBlock=some g->w'.heap[g]? =w.heap[g]?):w'.ownsRow base e n' v n xs:=by
 refine⟨h.1, ?_⟩;rcases h.2 with h|⟨g,cap,cur,rfl,h1,h2,r⟩
 · exact .inl h
 · exact .inr ⟨g,cap,cur,rfl,h1,(hb g rfl).trans h2,r⟩
theorem y24.same{W w w':World}{e:TypeId}{v:Value}{ps:List (List Int)}(h:y24 W w e v ps)(hs:w.heap.size<=w'.heap.size)(hw: ∀b,W.heap.size<=b->b < w.heap.size->w'.heap[b]? =w.heap[b]?):y24 W w' e v ps:=by
 obtain⟨xs,h1,h2⟩:=h;exact⟨xs,y79 h1 (fun g hg=> hw g (h1.lt g hg).1 (h1.lt g hg).2),h2.mono (fun b hb=>⟨hb.1,Nat.lt_of_lt_of_le hb.2.1 hs,hb.2.2⟩) (fun b hb=> hw b hb.1 hb.2.1)⟩
theorem y24.ext{W w w':World}{e:TypeId}{v:Value}{ps:List (List Int)}(h:y24 W w e v ps)(he:Ext w w'):y24 W w' e v ps:=h.same he.size (fun b _ hb=> he.heap b hb)
theorem y24.since{W W' w:World}{e:TypeId}{v:Value}{ps:List (List Int)}(h:y24 W w e v ps)(hs:W'.heap.size<=W.heap.size):y24 W' w e v ps:=by
 obtain⟨xs,h1,h2⟩:=h;refine⟨xs,⟨h1.1, ?_⟩,h2.mono (fun b hb=>⟨Nat.le_trans hs hb.1,hb.2⟩) (fun _ _=> rfl)⟩;rcases h1.2 with h|⟨g,cap,cur,rfl,h1,r⟩
 · exact .inl h
 · exact .inr ⟨g,cap,cur,rfl,Nat.le_trans hs h1,r⟩
theorem y24.lt{W w:World}{e:TypeId}{v:Value}{ps:List (List Int)}(h:y24 W w e v ps){g:Nat}(hg:v.ownBlock=some g):W.heap.size<=g/\g < w.heap.size:=by
 obtain⟨xs,h1,h2⟩:=h;exact h1.lt g hg
theorem y24.slice{W w:World}{e:TypeId}{v:Value}{ps:List (List Int)}(h:y24 W w e v ps): ∃A cap,v= .slice A ps.length cap/\ps.length<=cap/\cap<=maxLen/\(ps= []\/ ∃b,A=some ⟨b,0,none⟩)/\ ∀j (hj:j < ps.length),∃b u,A=some ⟨b,0,none⟩/\w.cell? ⟨b,j,none⟩=some u/\q20 w (fun b=> W.heap.size<=b/\b < w.heap.size/\v.ownBlock≠some b) u ps[j]:=by
 obtain⟨xs,h1,h2⟩:=h;have Bt:=fun g hg=> h1.cells (g:=g) hg
 rcases h1.2 with⟨rfl,h0⟩ |⟨g,c,cur,rfl,hb,hg,hn,hm,hcs,ht⟩
 · refine⟨none,0,by rw[h0],by omega,Nat.zero_le _,.inl (List.eq_nil_of_length_eq_zero h0),fun j hj=> by omega⟩
 · refine⟨_,c,rfl,hn,hm,.inr ⟨g,rfl⟩,fun j hj=> ?_⟩
   have hj':j < xs.length:=by rw[h2.1];exact hj
   have h3:=Bt g rfl j xs[j] (List.getElem?_eq_getElem hj');rw[Addr.add_lit,Nat.zero_add] at h3;exact⟨g,_,rfl,h3,h2.2 j _ _ (List.getElem?_eq_getElem hj') (List.getElem?_eq_getElem hj)⟩
theorem Only.widen{L M:List Nat}{a w w':World}(h:Only L a w)(k:Only M w w')(hM: ∀b,b∈M->b∈L\/a.heap.size<=b):Only L a w':=
 ⟨k.os.trans h.os,k.tape.trans h.tape,k.output.trans h.output,Nat.le_trans h.size k.size,fun i hi hn=>(k.block i (Nat.lt_of_lt_of_le hi h.size) (fun hm=> by rcases hM i hm with h1|h1;exact hn h1;omega)).trans (h.block i hi hn)⟩
theorem Only.ofExt{L:List Nat}{w w':World}(h:Ext w w'):Only L w w':=⟨h.os,h.tape,h.output,h.size,fun b hb _=> h.heap b hb⟩
theorem y81{P:Program}(w:World){o:Oper}{a:Act}{K:Act->World->Prop}{Q:Exit->Act->World->Prop}(s x:Operand)(t:TypeId)
 (ho:o.op= .call {callee:= .builtin .append,args:=#[s,x],argTypes:=#[t,t]})
 (base:Nat) (e e':TypeId) (i:TypeInfo) (z:Value) (bytes:Nat) (ht:P.underlying t=some (.slice e)) (hi:P.info? e=some i) (hz:i.zero=some z) (hsize:i.size=1) (hby:i.bytes=bytes) (kr:bytes<=64) (hzs:z.cells.size=1)
 {v:Value} {n:Nat} {xs:List Value} {y:Value} {gx:Nat} (hy:y.oneCell'=true) (hs:a.eval s=v) (hown:w.ownsRow base e 1 v n xs)
 (hx:a.eval x= .slice (some ⟨gx,0,none⟩) 1 1) (hgx:w.heap[gx]? =some (.cells #[y] e' (0,0))) (hn:n < 1099511627776) (hbase:base<=w.heap.size)
 (h: ∀v' w',w'.ownsRow base e 1 v' (n+1) (xs++ [y])->w.grownBy w' v.ownBlock->(∀g,v'.ownBlock=some g->v.ownBlock=some g\/w.heap.size<=g)->K (a.put o.dst v') w'):o.wp P a w K Q:=by
 have hc: ∀j u, [y][j]? =some u->w.cell? ((⟨gx,0,none⟩:Addr).add j)=some u:=by
  intro j u hu;rw[Addr.add_lit,Nat.zero_add,q10 hgx]
  simpa using hu
 have h1: ∀u∈ [y],u.oneCell'=true:=by intro u hu;rw[List.mem_singleton.1 hu];exact hy
 have hb:(n+1)*bytes<=140737488355328:=Nat.le_trans (Nat.mul_le_mul (show n+1<=1099511627776 by omega) kr) (by decide);obtain⟨v',w',hr,r1,r2,r3⟩:=y18 (P:=P) w base t o.type e i z 1 bytes ht hi hz hsize hby hzs (by decide) v n xs hown ⟨gx,0,none⟩ 1 1 [y] rfl hc h1 (by unfold maxLen;omega) hb hbase;unfold Oper.wp execOp;simp only[ho,resolve,invoke,builtin,Sem.run_bind,Sem.run_pure,Result.andThen_ok,List.map_toArray,List.map_cons,List.map_nil,hs,hx,hr];exact h v' w' r1 r2 r3
theorem y112{P:Program}(w:World){o:Oper}{a:Act}{K:Act->World->Prop}{Q:Exit->Act->World->Prop}(s x:Operand)(t:TypeId)
 (ho:o.op= .call {callee:= .builtin .append,args:=#[s,x],argTypes:=#[t,t]})
 (e e':TypeId) (i:TypeInfo) (z:Value) (bytes:Nat) (ht:P.underlying t=some (.slice e)) (hi:P.info? e=some i) (hz:i.zero=some z) (hsize:i.size=1) (hby:i.bytes=bytes) (kr:bytes<=64) (hzs:z.cells.size=1)
 {W:World} {v:Value} {ps:List (List Int)} {p:List Int} {y:Value} {gx:Nat} (hs:a.eval s=v) (hG:y24 W w e v ps) (hW:W.heap.size<=w.heap.size)
 (hp:q20 w (fun b=> W.heap.size<=b/\b < w.heap.size/\v.ownBlock≠some b) y p)
 (hx:a.eval x= .slice (some ⟨gx,0,none⟩) 1 1) (hgx:w.heap[gx]? =some (.cells #[y] e' (0,0))) (hn:ps.length < 1099511627776)
 (h: ∀v' w',y24 W w' e v' (ps++ [p])->w.grownBy w' v.ownBlock->(∀g,v'.ownBlock=some g->v.ownBlock=some g\/w.heap.size<=g)->K (a.put o.dst v') w'):o.wp P a w K Q:=by
 obtain⟨xs,h1,h2⟩:=hG;refine y81 w s x t ho W.heap.size e e' i z bytes ht hi hz hsize hby kr hzs hp.oneCell hs h1 hx hgx hn hW (fun v' w' r1 r2 r3=> ?_);have hS: ∀b,W.heap.size<=b/\b < w.heap.size/\v.ownBlock≠some b->W.heap.size<=b/\b < w'.heap.size/\v'.ownBlock≠some b:=fun b hb=> by
  refine⟨hb.1,Nat.lt_of_lt_of_le hb.2.1 r2.size,fun he=> ?_⟩;rcases r3 b he with h4|h4
  · exact hb.2.2 h4
  · omega
 have hw: ∀b,W.heap.size<=b/\b < w.heap.size/\v.ownBlock≠some b->w'.heap[b]? =w.heap[b]? :=fun b hb=> r2.block b hb.2.1 (fun he=> hb.2.2 he.symm)
 exact h v' w' ⟨_,by simpa using r1,(h2.mono hS hw).append (RowP.one (hp.mono hS hw))⟩ r2 r3
theorem q75{P:Program}(w:World){o:Oper}{a:Act}{K:Act->World->Prop}{Q:Exit->Act->World->Prop}(s x:Operand)(t:TypeId)
 (ho:o.op= .call {callee:= .builtin .append,args:=#[s,x],argTypes:=#[t,t]})
 (base:Nat) (e:TypeId) (i:TypeInfo) (z:Value) (bytes:Nat) (ht:P.underlying t=some (.slice e)) (hi:P.info? e=some i) (hz:i.zero=some z) (hsize:i.size=1) (hby:i.bytes=bytes) (kr:bytes<=64) (hzs:z.cells.size=1)
 {v u:Value} {ns p:List Int} {S:Nat->Prop} (hs:a.eval s=v) (hG:w.ownsRow base e 1 v ns.length (ns.map (Value.int .i64))) (hW:base<=w.heap.size)
 (hx:a.eval x=u) (hu:q20 w S u p) (hn:ns.length+p.length < 1099511627776)
 (h: ∀v' w',w'.ownsRow base e 1 v' (ns++p).length ((ns++p).map (Value.int .i64))->w.grownBy w' v.ownBlock->(∀g,v'.ownBlock=some g->v.ownBlock=some g\/w.heap.size<=g)->K (a.put o.dst v') w'):o.wp P a w K Q:=by
 rcases hu with⟨rfl,rfl⟩ |⟨b,o',c,rfl,h1,h2,h3,h4⟩
 · have hr:=run_append_owned_none (P:=P) (w:=w) base t o.type e i 1 ht hi v ns.length _ hG
   unfold Oper.wp execOp;simp only[ho,resolve,invoke,builtin,Sem.run_bind,Sem.run_pure,Result.andThen_ok,List.map_toArray,List.map_cons,List.map_nil,hs,hx,hr];exact(h v w (by simpa using hG) ⟨rfl,rfl,rfl,Nat.le_refl _,fun _ _ _=> rfl⟩ (fun g hg=> .inl hg))
 · have Rv:(ns.length+p.length)*bytes<=140737488355328:=Nat.le_trans (Nat.mul_le_mul (show ns.length+p.length<=1099511627776 by omega) kr) (by decide)
   obtain⟨v',w',hr,r1,r2,r3⟩:=y18 (P:=P) w base t o.type e i z 1 bytes ht hi hz hsize hby hzs (by decide) v ns.length _ hG ⟨b,o',none⟩ p.length c (p.map (Value.int .i64)) (by simp)
    (fun j y hy=> by
     rw[Addr.add_lit];rw[List.getElem?_map] at hy;by_cases hj:j < p.length
     · rw[List.getElem?_eq_getElem hj] at hy
       rw[h4 j hj];exact hy
     · rw[List.getElem?_eq_none (by omega)] at hy
       cases hy)
    (fun y hy=> by obtain⟨n,_,rfl⟩:=List.mem_map.1 hy;rfl) (by unfold maxLen;omega) Rv hW
   unfold Oper.wp execOp;simp only[ho,resolve,invoke,builtin,Sem.run_bind,Sem.run_pure,Result.andThen_ok,List.map_toArray,List.map_cons,List.map_nil,hs,hx,hr];exact(h v' w' (by simpa using r1) r2 r3)
theorem y45{P:Program}(w:World){ops:Array Oper}{o:Oper}{a:Act}{K:Act->World->Prop}{Q:Exit->Act->World->Prop}{E:Prop}(hgd:o.guard=none)(s x:Operand)(t:TypeId)
 (ho:o.op= .call {callee:= .builtin .append,args:=#[s,x],argTypes:=#[t,t]})
 (base:Nat) (e e':TypeId) (i:TypeInfo) (z:Value) (bytes:Nat) (ht:P.underlying t=some (.slice e)) (hi:P.info? e=some i) (hz:i.zero=some z) (hsize:i.size=1) (hby:i.bytes=bytes) (kr:bytes<=64) (hzs:z.cells.size=1)
 {v:Value} {n:Nat} {xs:List Value} {y:Value} {gx:Nat} (hy:y.oneCell'=true) (hs:a.eval s=v) (hown:w.ownsRow base e 1 v n xs)
 (hx:a.eval x= .slice (some ⟨gx,0,none⟩) 1 1) (hgx:w.heap[gx]? =some (.cells #[y] e' (0,0))) (hn:n < 1099511627776) (hbase:base<=w.heap.size)
 (h: ∀v' w',w'.ownsRow base e 1 v' (n+1) (xs++ [y])->w.grownBy w' v.ownBlock->(∀g,v'.ownBlock=some g->v.ownBlock=some g\/w.heap.size<=g)->K (a.put o.dst v') w'):if Region.wanted o (yielded ops a.tmps)=true then Oper.wp P o a w K Q else E:=by
 rw[if_pos (by simp[Region.wanted,hgd])];exact y81 w s x t ho base e e' i z bytes ht hi hz hsize hby kr hzs hy hs hown hx hgx hn hbase h
theorem j47{P:Program}(w:World){ops:Array Oper}{rest:List Oper}{o:Oper}{a:Act}{Q:Exit->Act->World->Prop}(hgd:o.guard=none)(s x:Operand)(t:TypeId)
 (ho:o.op= .call {callee:= .builtin .append,args:=#[s,x],argTypes:=#[t,t]})
 (e e':TypeId) (i:TypeInfo) (z:Value) (bytes:Nat) (ht:P.underlying t=some (.slice e)) (hi:P.info? e=some i) (hz:i.zero=some z) (hsize:i.size=1) (hby:i.bytes=bytes) (kr:bytes<=64) (hzs:z.cells.size=1)
 {W:World} {v:Value} {ps:List (List Int)} {p:List Int} {y:Value} {gx:Nat} (hs:a.eval s=v) (hG:y24 W w e v ps) (hW:W.heap.size<=w.heap.size)
 (hp:q20 w (fun b=> W.heap.size<=b/\b < w.heap.size/\v.ownBlock≠some b) y p)
 (hx:a.eval x= .slice (some ⟨gx,0,none⟩) 1 1) (hgx:w.heap[gx]? =some (.cells #[y] e' (0,0))) (hn:ps.length < 1099511627776)
 (h: ∀v' w',y24 W w' e v' (ps++ [p])->w.grownBy w' v.ownBlock->(∀g,v'.ownBlock=some g->v.ownBlock=some g\/w.heap.size<=g)->wpList P ops Q rest (a.put o.dst v') w'):wpList P ops Q (o::rest) a w:=
 wpList_plain hgd fun K hK=> y112 w s x t ho e e' i z bytes ht hi hz hsize hby kr hzs hs hG hW hp hx hgx hn (fun v' w' h1 h2 h3=> hK _ _ (h v' w' h1 h2 h3))
theorem y17{P:Program}(w:World){ops:Array Oper}{rest:List Oper}{o:Oper}{a:Act}{Q:Exit->Act->World->Prop}(hgd:o.guard=none)(s x:Operand)(t:TypeId)
 (ho:o.op= .call {callee:= .builtin .append,args:=#[s,x],argTypes:=#[t,t]})
 (base:Nat) (e:TypeId) (i:TypeInfo) (z:Value) (bytes:Nat) (ht:P.underlying t=some (.slice e)) (hi:P.info? e=some i) (hz:i.zero=some z) (hsize:i.size=1) (hby:i.bytes=bytes) (kr:bytes<=64) (hzs:z.cells.size=1)
 {v u:Value} {ns p:List Int} {S:Nat->Prop} (hs:a.eval s=v) (hG:w.ownsRow base e 1 v ns.length (ns.map (Value.int .i64))) (hW:base<=w.heap.size)
 (hx:a.eval x=u) (hu:q20 w S u p) (hn:ns.length+p.length < 1099511627776)
 (h: ∀v' w',w'.ownsRow base e 1 v' (ns++p).length ((ns++p).map (Value.int .i64))->w.grownBy w' v.ownBlock->(∀g,v'.ownBlock=some g->v.ownBlock=some g\/w.heap.size<=g)->wpList P ops Q rest (a.put o.dst v') w'):wpList P ops Q (o::rest) a w:=
 wpList_plain hgd fun K hK=> q75 w s x t ho base e i z bytes ht hi hz hsize hby kr hzs hs hG hW hx hu hn (fun v' w' h1 h2 h3=> hK _ _ (h v' w' h1 h2 h3))
theorem j39{P:Program}(w:World){ops:Array Oper}{o:Oper}{a:Act}{K:Act->World->Prop}{Q:Exit->Act->World->Prop}{E:Prop}(hgd:o.guard=none)(s x:Operand)(t:TypeId)
 (ho:o.op= .call {callee:= .builtin .append,args:=#[s,x],argTypes:=#[t,t]})
 (base:Nat) (e:TypeId) (i:TypeInfo) (z:Value) (bytes:Nat) (ht:P.underlying t=some (.slice e)) (hi:P.info? e=some i) (hz:i.zero=some z) (hsize:i.size=1) (hby:i.bytes=bytes) (kr:bytes<=64) (hzs:z.cells.size=1)
 {v u:Value} {ns p:List Int} {S:Nat->Prop} (hs:a.eval s=v) (hG:w.ownsRow base e 1 v ns.length (ns.map (Value.int .i64))) (hW:base<=w.heap.size)
 (hx:a.eval x=u) (hu:q20 w S u p) (hn:ns.length+p.length < 1099511627776)
 (h: ∀v' w',w'.ownsRow base e 1 v' (ns++p).length ((ns++p).map (Value.int .i64))->w.grownBy w' v.ownBlock->(∀g,v'.ownBlock=some g->v.ownBlock=some g\/w.heap.size<=g)->K (a.put o.dst v') w'):if Region.wanted o (yielded ops a.tmps)=true then Oper.wp P o a w K Q else E:=by
 rw[if_pos (by simp[Region.wanted,hgd])];exact q75 w s x t ho base e i z bytes ht hi hz hsize hby kr hzs hs hG hW hx hu hn h
def From(B:Nat)(w:World)(t:Tr)(v:Value):Prop:=InT w (fun b=> B<=b/\b < w.heap.size) t v
theorem From.leaf(B:Nat)(w:World)(k n:Int):From B w (.mk k n []) (.agg #[.int .i64 k,.int .i64 n,.slice none 0 0]):=InT.mk_iff.2 ⟨none,0,rfl,Nat.le_refl _,Nat.zero_le _,.inl rfl⟩
theorem From.ext{B:Nat}{w w':World}{t:Tr}{v:Value}(h:From B w t v)(he:Ext w w'):From B w' t v:=h.mono (fun b hb=>⟨hb.1,Nat.lt_of_lt_of_le hb.2 he.size⟩) (fun b hb=> he.heap b hb.2)
theorem From.since{B C:Nat}{w:World}{t:Tr}{v:Value}(h:From B w t v)(hc:C<=B):From C w t v:=h.mono (fun b hb=>⟨Nat.le_trans hc hb.1,hb.2⟩) (fun _ _=> rfl)
theorem From.lies{B:Nat}{w:World}{t:Tr}{v:Value}(h:From B w t v):Lies w t v:=h.mono (fun b hb=> hb.2) (fun _ _=> rfl)
theorem From.three{B:Nat}{w:World}{t:Tr}{u:Value}(h:From B w t u): ∃k n A l c,u= .agg #[.int .i64 k,.int .i64 n,.slice A l c]:=h.lies.three
theorem From.set{B:Nat}{w:World}{t:Tr}{v:Value}(h:From B w t v){p:Addr}(hp:p.block < B)(u:Value):From B (w.setCell p u) t v:=
 h.mono (fun b hb=>⟨hb.1,by simpa using hb.2⟩) (fun b hb=> Below.heap_setCell w p u b (by omega))
theorem From.made{w w':World}{e:TypeId}{t:Tr}{v:Value}(h:Made w w' e t v):From w.heap.size w' t v:=by
 obtain⟨L,h,hf⟩:=h;exact InT.mono (fun b hb=> hf.2 b hb) (fun _ _=> rfl) h.inT
def j14(B:Nat)(w:World)(A:Option Addr)(ks:List Tr):Prop:=InK w (fun b=> B<=b/\b < w.heap.size) A ks
theorem j14.one{B g:Nat}{w:World}{t:Tr}{v0 v1 v2:Value}{e:TypeId}(h:From B w t (.agg #[v0,v1,v2]))(hB:B<=w.heap.size)(hg:g=w.heap.size):j14 B (w.alloc (.cells #[v0,v1,v2] e)) (some ⟨g,0,none⟩) [t]:=
 hg▸InK.one (h.ext ((xr w).alloc _)) (heap_alloc_new w _) ⟨hB,by simp⟩
theorem j14.two{B g:Nat}{w:World}{t u:Tr}{v0 v1 v2 x0 x1 x2:Value}{e:TypeId}(h:From B w t (.agg #[v0,v1,v2]))(h':From B w u (.agg #[x0,x1,x2]))(hB:B<=w.heap.size)(hg:g=w.heap.size):j14 B (w.alloc (.cells #[v0,v1,v2,x0,x1,x2] e)) (some ⟨g,0,none⟩) [t,u]:=by
 subst hg;have hx:=(xr w).alloc (.cells #[v0,v1,v2,x0,x1,x2] e);have hg:=heap_alloc_new w (.cells #[v0,v1,v2,x0,x1,x2] e);have h1:=h.ext hx;have h2:=h'.ext hx;refine .inr ⟨w.heap.size,0,rfl,⟨hB,by simp⟩, ?_⟩;unfold InL;refine⟨⟨v0,v1,v2,q10 hg 0,q10 hg 1,q10 hg 2,h1⟩, ?_⟩;unfold InL;refine⟨⟨x0,x1,x2,q10 hg 3,q10 hg 4,q10 hg 5,h2⟩, ?_⟩;unfold InL
 trivial
theorem y16(B:Nat)(w:World)(k:Int)(A:Option Addr)(cap:Nat)(ks:List Tr)(hA:A=none->cap=0)(hK:j14 B w A ks)(hB:B<=w.heap.size)(hn:ks.length<=1099511627776):
 Calls Tryz.prog 75 #[.int .i64 k,.slice A ks.length cap] w fun e w'=> ∃u,e= .returned u/\From B w' (.mk k 0 ks) u/\Ext w w':=
 (j70 w k A cap ks hA _ (fun b hb=> hb.2) hK hn).mono fun e w' ⟨u,h1,h2,h3⟩=>⟨u,h1,h2.mono (fun b hb=> by
  have:=h3.size;rcases hb with hb|hb
  · exact⟨hb.1,by omega⟩
  · exact⟨by omega,hb.2⟩) (fun _ _=> rfl),h3⟩
def j21(B:Nat)(w:World)(size:Nat)(o:Option (Tr×Nat))(e:Ending)(w':World):Prop:=
 ∃(t:Tr) (u:Value) (nx:Int),e= .returned (.tuple #[u,.int .i64 nx])/\From B w' t u/\Ext w w'/\(∀x,o=some x->t=x.1/\nx=x.2/\x.2<=size)/\(o=none->nx= -1)
def j30(d:Nat):Prop:= ∀(s:ByteArray) (a:Nat) (w:World),s.size<=1000000000->a<=s.size+2->Calls Tryz.prog 182 #[.string s,.int .i64 a,.int .i64 d] w (j21 w.heap.size w s.size (prs d s.data.toList a))
theorem y194(d:Nat)(ih:j30 d)(s:ByteArray)(a:Nat)(w:World)(hs:s.size<=1000000000)(ha:a < s.size)(hc:s[a]=43)(hd:d<=30):
 Calls Tryz.prog 200 #[.string s,.int .i64 a,.int .i64 ((d:Int)+1)] w (j21 w.heap.size w s.size (one 8 (prs d s.data.toList (a+1)))):=by
 have HI:=hdq (fun W=> ih s (a+1) W hs (by omega));obtain⟨R,hR⟩: ∃R,R=prs d s.data.toList (a+1):=⟨_,rfl⟩;rw[<-hR] at HI⊢;clear hR ih;go_enter Tryz.func200,Tryz.ntmps200;go_wp2_with fail;refine(HI.out _).mono ?_;rintro e w1 ⟨t,u,nx,rfl,hF,e1,q1,q2⟩;obtain⟨k0,n0,A0,l0,c0,rfl⟩:=hF.three;have hb:=e1.newBlk;have hsz:=e1.size_alloc;have jy:=hdq q1;have kt:=hdq q2;have ek:=hF.ext ((xr w1).alloc (.cells #[.int .i64 k0,.int .i64 n0,.slice A0 l0 c0] 25));have hx0:=(xr w).alloc (.cells #[.int .i64 0,.int .i64 0,.slice none 0 0] 25);simp only[World.size_alloc] at ek;clear q1 q2 hF;go_wp2_with fail;refine(y16 (w.heap.size+1) _ 8 _ 1 [t] (by intro h;cases h) (j14.one (g:=w1.heap.size+1) (e:=25) ek (by simp;omega) (by simp)) (by simp;omega) (by simp)).mono ?_;rintro e w2 ⟨v,rfl,hN,e2⟩;obtain⟨k1,n1,A1,l1,c1,rfl⟩:=hN.three;have hb2:=e2.blk (((xr w1).alloc _|>.alloc _).blk hb);obtain⟨s0,s1,s2,f0,f1,f2⟩:=own3 hb2;have hx2:=(hx0.trans e1).trans (((xr w1).alloc _|>.alloc _).trans e2);go_wp2_with fail;refine bodyPost_ret (v:= .tuple #[.agg #[.int .i64 k1,.int .i64 n1,.slice A1 l1 c1],.int .i64 nx]) (by simp[results,Tryz.results200,go_sem,s0,s1,s2]) rfl ⟨.mk 8 0 [t],_,nx,rfl, ?_, ?_, ?_, ?_⟩
 · exact(((hN.set (by simp) _).set (by simp) _).set (by simp) _).since (by omega)
 · exact((hx2.setCell (by simp) _).setCell (by simp) _).setCell (by simp) _
 · intro x hx
   cases R with
   |none=> cases hx
   |some y=>
    obtain⟨h1,h2,h3⟩:=jy.out y rfl;cases hx
    exact⟨by rw[h1],h2,h3⟩
 · intro hx
   cases R with
   |none=> exact kt.out rfl
   |some y=> cases hx
theorem y180(d:Nat)(ih:j30 d)(s:ByteArray)(a:Nat)(w:World)(hs:s.size<=1000000000)(ha:a < s.size)(hc:s[a]=33)(hd:d<=30):
 Calls Tryz.prog 200 #[.string s,.int .i64 a,.int .i64 ((d:Int)+1)] w (j21 w.heap.size w s.size (one 11 (prs d s.data.toList (a+1)))):=by
 have HI:=hdq (fun W=> ih s (a+1) W hs (by omega));obtain⟨R,hR⟩: ∃R,R=prs d s.data.toList (a+1):=⟨_,rfl⟩;rw[<-hR] at HI⊢;clear hR ih;go_enter Tryz.func200,Tryz.ntmps200;go_wp2_with fail;refine(HI.out _).mono ?_;rintro e w1 ⟨t,u,nx,rfl,hF,e1,q1,q2⟩;obtain⟨k0,n0,A0,l0,c0,rfl⟩:=hF.three;have hb:=e1.newBlk;have hsz:=e1.size_alloc;have jy:=hdq q1;have kt:=hdq q2;have ek:=hF.ext ((xr w1).alloc (.cells #[.int .i64 k0,.int .i64 n0,.slice A0 l0 c0] 25));have hx0:=(xr w).alloc (.cells #[.int .i64 0,.int .i64 0,.slice none 0 0] 25);simp only[World.size_alloc] at ek;clear q1 q2 hF;go_wp2_with fail;refine(y16 (w.heap.size+1) _ 11 _ 1 [t] (by intro h;cases h) (j14.one (g:=w1.heap.size+1) (e:=25) ek (by simp;omega) (by simp)) (by simp;omega) (by simp)).mono ?_;rintro e w2 ⟨v,rfl,hN,e2⟩;obtain⟨k1,n1,A1,l1,c1,rfl⟩:=hN.three;have hb2:=e2.blk (((xr w1).alloc _|>.alloc _).blk hb);obtain⟨s0,s1,s2,f0,f1,f2⟩:=own3 hb2;have hx2:=(hx0.trans e1).trans (((xr w1).alloc _|>.alloc _).trans e2);go_wp2_with fail;refine bodyPost_ret (v:= .tuple #[.agg #[.int .i64 k1,.int .i64 n1,.slice A1 l1 c1],.int .i64 nx]) (by simp[results,Tryz.results200,go_sem,s0,s1,s2]) rfl ⟨.mk 11 0 [t],_,nx,rfl, ?_, ?_, ?_, ?_⟩
 · exact(((hN.set (by simp) _).set (by simp) _).set (by simp) _).since (by omega)
 · exact((hx2.setCell (by simp) _).setCell (by simp) _).setCell (by simp) _
 · intro x hx
   cases R with
   |none=> cases hx
   |some y=>
    obtain⟨h1,h2,h3⟩:=jy.out y rfl;cases hx
    exact⟨by rw[h1],h2,h3⟩
 · intro hx
   cases R with
   |none=> exact kt.out rfl
   |some y=> cases hx
theorem y184(d:Nat)(ih:j30 d)(s:ByteArray)(a:Nat)(w:World)(hs:s.size<=1000000000)(ha:a < s.size)(hc:s[a]=94)(hd:d<=30):
 Calls Tryz.prog 200 #[.string s,.int .i64 a,.int .i64 ((d:Int)+1)] w (j21 w.heap.size w s.size (one 15 (prs d s.data.toList (a+1)))):=by
 have HI:=hdq (fun W=> ih s (a+1) W hs (by omega));obtain⟨R,hR⟩: ∃R,R=prs d s.data.toList (a+1):=⟨_,rfl⟩;rw[<-hR] at HI⊢;clear hR ih;go_enter Tryz.func200,Tryz.ntmps200;go_wp2_with fail;refine(HI.out _).mono ?_;rintro e w1 ⟨t,u,nx,rfl,hF,e1,q1,q2⟩;obtain⟨k0,n0,A0,l0,c0,rfl⟩:=hF.three;have hb:=e1.newBlk;have hsz:=e1.size_alloc;have jy:=hdq q1;have kt:=hdq q2;have ek:=hF.ext ((xr w1).alloc (.cells #[.int .i64 k0,.int .i64 n0,.slice A0 l0 c0] 25));have hx0:=(xr w).alloc (.cells #[.int .i64 0,.int .i64 0,.slice none 0 0] 25);simp only[World.size_alloc] at ek;clear q1 q2 hF;go_wp2_with fail;refine(y16 (w.heap.size+1) _ 15 _ 1 [t] (by intro h;cases h) (j14.one (g:=w1.heap.size+1) (e:=25) ek (by simp;omega) (by simp)) (by simp;omega) (by simp)).mono ?_;rintro e w2 ⟨v,rfl,hN,e2⟩;obtain⟨k1,n1,A1,l1,c1,rfl⟩:=hN.three;have hb2:=e2.blk (((xr w1).alloc _|>.alloc _).blk hb);obtain⟨s0,s1,s2,f0,f1,f2⟩:=own3 hb2;have hx2:=(hx0.trans e1).trans (((xr w1).alloc _|>.alloc _).trans e2);go_wp2_with fail;refine bodyPost_ret (v:= .tuple #[.agg #[.int .i64 k1,.int .i64 n1,.slice A1 l1 c1],.int .i64 nx]) (by simp[results,Tryz.results200,go_sem,s0,s1,s2]) rfl ⟨.mk 15 0 [t],_,nx,rfl, ?_, ?_, ?_, ?_⟩
 · exact(((hN.set (by simp) _).set (by simp) _).set (by simp) _).since (by omega)
 · exact((hx2.setCell (by simp) _).setCell (by simp) _).setCell (by simp) _
 · intro x hx
   cases R with
   |none=> cases hx
   |some y=>
    obtain⟨h1,h2,h3⟩:=jy.out y rfl;cases hx
    exact⟨by rw[h1],h2,h3⟩
 · intro hx
   cases R with
   |none=> exact kt.out rfl
   |some y=> cases hx
theorem y169(d:Nat)(ih:j30 d)(s:ByteArray)(a:Nat)(w:World)(hs:s.size<=1000000000)(ha:a < s.size)(hc:s[a]=95)(hd:d<=30):
 Calls Tryz.prog 200 #[.string s,.int .i64 a,.int .i64 ((d:Int)+1)] w (j21 w.heap.size w s.size (one 16 (prs d s.data.toList (a+1)))):=by
 have HI:=hdq (fun W=> ih s (a+1) W hs (by omega));obtain⟨R,hR⟩: ∃R,R=prs d s.data.toList (a+1):=⟨_,rfl⟩;rw[<-hR] at HI⊢;clear hR ih;go_enter Tryz.func200,Tryz.ntmps200;go_wp2_with fail;refine(HI.out _).mono ?_;rintro e w1 ⟨t,u,nx,rfl,hF,e1,q1,q2⟩;obtain⟨k0,n0,A0,l0,c0,rfl⟩:=hF.three;have hb:=e1.newBlk;have hsz:=e1.size_alloc;have jy:=hdq q1;have kt:=hdq q2;have ek:=hF.ext ((xr w1).alloc (.cells #[.int .i64 k0,.int .i64 n0,.slice A0 l0 c0] 25));have hx0:=(xr w).alloc (.cells #[.int .i64 0,.int .i64 0,.slice none 0 0] 25);simp only[World.size_alloc] at ek;clear q1 q2 hF;go_wp2_with fail;refine(y16 (w.heap.size+1) _ 16 _ 1 [t] (by intro h;cases h) (j14.one (g:=w1.heap.size+1) (e:=25) ek (by simp;omega) (by simp)) (by simp;omega) (by simp)).mono ?_;rintro e w2 ⟨v,rfl,hN,e2⟩;obtain⟨k1,n1,A1,l1,c1,rfl⟩:=hN.three;have hb2:=e2.blk (((xr w1).alloc _|>.alloc _).blk hb);obtain⟨s0,s1,s2,f0,f1,f2⟩:=own3 hb2;have hx2:=(hx0.trans e1).trans (((xr w1).alloc _|>.alloc _).trans e2);go_wp2_with fail;refine bodyPost_ret (v:= .tuple #[.agg #[.int .i64 k1,.int .i64 n1,.slice A1 l1 c1],.int .i64 nx]) (by simp[results,Tryz.results200,go_sem,s0,s1,s2]) rfl ⟨.mk 16 0 [t],_,nx,rfl, ?_, ?_, ?_, ?_⟩
 · exact(((hN.set (by simp) _).set (by simp) _).set (by simp) _).since (by omega)
 · exact((hx2.setCell (by simp) _).setCell (by simp) _).setCell (by simp) _
 · intro x hx
   cases R with
   |none=> cases hx
   |some y=>
    obtain⟨h1,h2,h3⟩:=jy.out y rfl;cases hx
    exact⟨by rw[h1],h2,h3⟩
 · intro hx
   cases R with
   |none=> exact kt.out rfl
   |some y=> cases hx
theorem j52{s:ByteArray}{a:Nat}{c:UInt8}(h:a < s.size)(hc:s[a]=c):s.data.toList[a]? =some c:=by rw[y121 s h,hc]
theorem q181(d:Nat)(ih:j30 d)(s:ByteArray)(a:Nat)(w:World)(hs:s.size<=1000000000)(ha:a<=s.size):
 Calls Tryz.prog 201 #[.string s,.int .i64 a,.int .i64 d] w (j21 w.heap.size w s.size (rnd (prs d s.data.toList) s.data.toList a)):=by
 have HI:=hdq (fun a W (ha:a<=s.size+2)=> ih s a W hs ha);obtain⟨F,hF⟩: ∃F,F=prs d s.data.toList:=⟨_,rfl⟩;rw[<-hF] at HI⊢;have qc:rnd F s.data.toList a=match F a with
  |none=> none
  |some (x,b)=> if rndK s.data.toList[b]? =0 then none else
   match F (b+1) with
   |none=> none
   |some (y,c)=> if s.data.toList[c]? =some 41 then some (.mk (rndK s.data.toList[b]?) 0 [x,y],c+1) else none:=rfl
 obtain⟨R,hR⟩: ∃R,R=rnd F s.data.toList a:=⟨_,rfl⟩;rw[<-hR] at qc⊢;have HD:=hdq qc;clear hR ih hF qc;go_enter Tryz.func201,Tryz.ntmps201;go_wp2_with fail;refine(HI.out a _ (by omega)).mono ?_;rintro e w1 ⟨t,u,nx,rfl,hF,e1,q1,q2⟩;obtain⟨k0,n0,A0,l0,c0,rfl⟩:=hF.three;have hb:=e1.newBlk;have hsz:=e1.size_alloc;have hx0:=((xr w).alloc (.cells #[.int .i64 0,.int .i64 0,.slice none 0 0] 25)).trans e1;have hx1:=hx0.trans ((xr w1).alloc (.cells #[.int .i64 k0,.int .i64 n0,.slice A0 l0 c0] 25));have ek:=hF.ext ((xr w1).alloc (.cells #[.int .i64 k0,.int .i64 n0,.slice A0 l0 c0] 25));simp only[World.size_alloc] at ek;have hb':=((xr w1).alloc (.cells #[.int .i64 k0,.int .i64 n0,.slice A0 l0 c0] 25)).blk hb;have hbA:=heap_alloc_new w1 (.cells #[.int .i64 k0,.int .i64 n0,.slice A0 l0 c0] 25);cases J5:F a with
 |none=>
  obtain rfl:=q2 J5;have H7:=HD.out;rw[J5] at H7;have HR:=hdq H7;obtain⟨s0,s1,s2,f0,f1,f2⟩:=own3 hb';clear q1 q2 H7 J5 hsz;go_wp2_with fail;exact bodyPost_ret (v:= .tuple #[.agg #[.int .i64 0,.int .i64 0,.slice none 0 0],.int .i64 (-1)]) (by simp[results,Tryz.results201,go_sem,s0,s1,s2]) rfl ⟨.mk 0 0 [],_,-1,rfl,From.leaf _ _ _ _,((hx1.setCell (by simp) _).setCell (by simp) _).setCell (by simp) _,(fun x hx=> by rw[HR.out] at hx;cases hx),fun _=> rfl⟩
 |some y=>
  obtain⟨x,b⟩:=y;obtain⟨h1,h2,h3⟩:=q1 _ J5;simp only at h1 h2 h3;have J1:=HD.out;rw[J5] at J1;simp only at J1;subst h1 h2;clear q1 q2 J5;have Gp:=ek;by_cases hlt:b < s.size
  · obtain⟨c,hc⟩: ∃c,s[b]=c:=⟨_,rfl⟩
    rw[j52 hlt hc] at J1;have Ub:(b:Int) <(s.size:Int):=by omega
    have t0:decide ((b:Int) < 0)=false:=decide_eq_false (by omega);have t1:decide ((s.size:Int)<=(b:Int))=false:=decide_eq_false (by omega);obtain⟨m,hm⟩: ∃m,c.toNat=m:=⟨_,rfl⟩;have Xu:=HI.out (b+1);rw[show((b+1:Nat):Int)=(b:Int)+1 by omega] at Xu;have HI2:=hdq Xu;clear Xu;by_cases hk:rndK (some c)=0
    · rw[if_pos hk] at J1
      have HR:=hdq J1;have t2:((m:Int)==62)=false:=by rw[beq_eq_false_iff_ne];intro h;have:c=62:=UInt8.toNat_inj.1 (by rw[hm];simp;omega);rw[this] at hk;exact absurd hk (by decide)
      have t3:((m:Int)==42)=false:=by rw[beq_eq_false_iff_ne];intro h;have:c=42:=UInt8.toNat_inj.1 (by rw[hm];simp;omega);rw[this] at hk;exact absurd hk (by decide)
      have t4:((m:Int)==32)=false:=by rw[beq_eq_false_iff_ne];intro h;have:c=32:=UInt8.toNat_inj.1 (by rw[hm];simp;omega);rw[this] at hk;exact absurd hk (by decide)
      clear J1 hk;go_wp2_with fail;refine(HI2.out _ (by omega)).mono ?_;rintro e w2 ⟨t',u',nx',rfl,hF',e2,-,-⟩;obtain⟨k1,n1,A1,l1,c1,rfl⟩:=hF'.three;have hb2:=(e2.trans ((xr w2).alloc (.cells #[.int .i64 k1,.int .i64 n1,.slice A1 l1 c1] 25))).blk hb';obtain⟨s0,s1,s2,f0,f1,f2⟩:=own3 hb2;have hx2:=hx1.trans (e2.trans ((xr w2).alloc (.cells #[.int .i64 k1,.int .i64 n1,.slice A1 l1 c1] 25)));go_wp2_with fail;exact bodyPost_ret (v:= .tuple #[.agg #[.int .i64 0,.int .i64 0,.slice none 0 0],.int .i64 (-1)]) (by simp[results,Tryz.results201,go_sem,s0,s1,s2]) rfl ⟨.mk 0 0 [],_,-1,rfl,From.leaf _ _ _ _,((hx2.setCell (by simp) _).setCell (by simp) _).setCell (by simp) _,(fun x hx=> by rw[HR.out] at hx;cases hx),fun _=> rfl⟩
    · rw[if_neg hk] at J1
      obtain⟨K,hK⟩: ∃K,rndK (some c)=K:=⟨_,rfl⟩;rw[hK] at J1 hk;have hcs:(m=62/\K=3)\/(m=42/\K=13)\/(m=32/\K=5):=by
       unfold rndK at hK;by_cases g1:c=62
       · subst g1;exact .inl ⟨hm.symm,by simpa using hK.symm⟩
       · by_cases g2:c=42
         · subst g2;exact .inr (.inl ⟨hm.symm,by simpa using hK.symm⟩)
         · by_cases g3:c=32
           · subst g3;exact .inr (.inr ⟨hm.symm,by simpa using hK.symm⟩)
           · simp[g1,g2,g3] at hK;exact absurd hK.symm hk
      have Qh:=hdq J1;clear J1 hK hk;rcases hcs with⟨rfl,rfl⟩ |⟨rfl,rfl⟩ |⟨rfl,rfl⟩
      all_goals(
       go_wp2_with fail;refine(HI2.out _ (by omega)).mono ?_;rintro e w2 ⟨t',u',nx',rfl,hF',e2,q1,q2⟩;obtain⟨k1,n1,A1,l1,c1,rfl⟩:=hF'.three;have hs2:=e2.size_alloc;have F6:=e2.trans ((xr w2).alloc (.cells #[.int .i64 k1,.int .i64 n1,.slice A1 l1 c1] 25));have hb2:=F6.blk hb';have Ho:=F6.blk hbA;have L5:=heap_alloc_new w2 (.cells #[.int .i64 k1,.int .i64 n1,.slice A1 l1 c1] 25);obtain⟨s0,s1,s2,f0,f1,f2⟩:=own3 hb2;obtain⟨x0,x1,x2,-,-,-⟩:=own3 Ho;have hx2:=hx1.trans F6;have hF2:=ek.ext F6;have Ia:=(hF'.ext ((xr w2).alloc (.cells #[.int .i64 k1,.int .i64 n1,.slice A1 l1 c1] 25))).since (show w.heap.size+1<=_ by simp;omega);cases V4:F (b+1) with
       |none=>
        obtain rfl:=q2 V4;have H7:=Qh.out;rw[V4] at H7;have HR:=hdq H7;clear q1 q2 H7 V4;go_wp2_with fail;exact bodyPost_ret (v:= .tuple #[.agg #[.int .i64 0,.int .i64 0,.slice none 0 0],.int .i64 (-1)]) (by simp[results,Tryz.results201,go_sem,s0,s1,s2]) rfl ⟨.mk 0 0 [],_,-1,rfl,From.leaf _ _ _ _,((hx2.setCell (by simp) _).setCell (by simp) _).setCell (by simp) _,(fun x hx=> by rw[HR.out] at hx;cases hx),fun _=> rfl⟩
       |some y2=>
        obtain⟨x',b'⟩:=y2;obtain⟨h1,h2,h3'⟩:=q1 _ V4;simp only at h1 h2 h3';have ay:=Qh.out;rw[V4] at ay;simp only at ay;subst h1 h2;clear q1 q2 V4;have t5:decide ((b':Int) < 0)=false:=decide_eq_false (by omega);by_cases Di:b' < s.size
        · obtain⟨c',hc'⟩: ∃c',s[b']=c':=⟨_,rfl⟩
          rw[j52 Di hc'] at ay;have He:(b':Int) <(s.size:Int):=by omega
          have t6:decide ((s.size:Int)<=(b':Int))=false:=decide_eq_false (by omega);by_cases ru:c'=41
          · subst ru
            rw[if_pos rfl] at ay;have HR:=hdq ay;clear ay;go_wp2_with fail;refine(y16 (w.heap.size+1) _ _ _ 2 [t,t'] (by intro h;cases h) (j14.two (g:=w2.heap.size+1) (e:=25) hF2 Ia (by simp;omega) (by simp)) (by simp;omega) (by simp)).mono ?_;rintro e w3 ⟨v,rfl,hN,e3⟩;obtain⟨k3,n3,A3,l3,c3,rfl⟩:=hN.three;obtain⟨z0,z1,z2,g0,g1,g2⟩:=own3 (e3.blk (((xr _).alloc _).blk hb2));have hx3:=hx2.trans (((xr _).alloc _).trans e3);clear s0 s1 s2 x0 x1 x2;go_wp2_with fail;refine bodyPost_ret (v:= .tuple #[.agg #[.int .i64 k3,.int .i64 n3,.slice A3 l3 c3],.int .i64 ((b':Int)+1)]) (by simp[results,Tryz.results201,go_sem,z0,z1,z2]) rfl ⟨_,_,_,rfl,(((hN.set (by simp) _).set (by simp) _).set (by simp) _).since (by omega),((hx3.setCell (by simp) _).setCell (by simp) _).setCell (by simp) _, ?_, ?_⟩
            · intro x hx
              rw[HR.out] at hx;cases hx
              exact⟨rfl,by simp,by show b'+1<=s.size;omega⟩
            · intro hx
              rw[HR.out] at hx;cases hx
          · rw[if_neg (by intro h;cases h;exact ru rfl)] at ay
            have HR:=hdq ay;have t7:((c'.toNat:Int) !=41)=true:=by rw[bne_iff_ne];intro h;exact ru (UInt8.toNat_inj.1 (by simp;omega))
            have t8:((c'.toNat:Int)==41)=false:=by rw[beq_eq_false_iff_ne];intro h;exact ru (UInt8.toNat_inj.1 (by simp;omega))
            clear ay ru;go_wp2_with fail;exact bodyPost_ret (v:= .tuple #[.agg #[.int .i64 0,.int .i64 0,.slice none 0 0],.int .i64 (-1)]) (by simp[results,Tryz.results201,go_sem,s0,s1,s2]) rfl ⟨.mk 0 0 [],_,-1,rfl,From.leaf _ _ _ _,((hx2.setCell (by simp) _).setCell (by simp) _).setCell (by simp) _,(fun x hx=> by rw[HR.out] at hx;cases hx),fun _=> rfl⟩
        · rw[q54 s (by omega),if_neg (by simp)] at ay
          have HR:=hdq ay;have t6:decide ((s.size:Int)<=(b':Int))=true:=decide_eq_true (by omega);clear ay;go_wp2_with fail;exact bodyPost_ret (v:= .tuple #[.agg #[.int .i64 0,.int .i64 0,.slice none 0 0],.int .i64 (-1)]) (by simp[results,Tryz.results201,go_sem,s0,s1,s2]) rfl ⟨.mk 0 0 [],_,-1,rfl,From.leaf _ _ _ _,((hx2.setCell (by simp) _).setCell (by simp) _).setCell (by simp) _,(fun x hx=> by rw[HR.out] at hx;cases hx),fun _=> rfl⟩)
  · rw[q54 s (by omega),if_pos (by rfl)] at J1
    have HR:=hdq J1;have t0:decide ((b:Int) < 0)=false:=decide_eq_false (by omega);have t1:decide ((s.size:Int)<=(b:Int))=true:=decide_eq_true (by omega);obtain⟨s0,s1,s2,f0,f1,f2⟩:=own3 hb';clear J1 hsz Gp;go_wp2_with fail;exact bodyPost_ret (v:= .tuple #[.agg #[.int .i64 0,.int .i64 0,.slice none 0 0],.int .i64 (-1)]) (by simp[results,Tryz.results201,go_sem,s0,s1,s2]) rfl ⟨.mk 0 0 [],_,-1,rfl,From.leaf _ _ _ _,((hx1.setCell (by simp) _).setCell (by simp) _).setCell (by simp) _,(fun x hx=> by rw[HR.out] at hx;cases hx),fun _=> rfl⟩
end Go.Proofs.YtbnkbepgmenblaaGreat
namespace Go.Proofs.YtbnkbepgmenblaaGreat
open Go.RowKit
attribute [local go_sem ↓] Go.wp_at_zero Go.wp_at_succ
def ldO(t:TypeId)(s:Nat):Op:=Op.load t (.tmp s)
attribute [local go_sem] ldO
theorem y215:(Tryz.prog.info? 25).map (fun i=>(i.zero,i.size,i.bytes))=some (some (.agg #[.int .i64 0,.int .i64 0,.slice none 0 0]),3,40):=by kernel_rfl
theorem j136(y:Int): ∀{k:Int} {ts:List Tr} {i j:Nat} {c:Int} (h:j < ts.length),(j20 y k ts i c)[j]'(by rw[q64];exact h)=shfT y ts[j] (c+und k (i+j))
 |k,t::ts,i,0,c,h=> by simp[j20]
 |k,t::ts,i,j+1,c,h=> by
  simp only[j20,List.getElem_cons_succ];rw[j136 y (j:=j) (by simpa using h),show i+1+j=i+(j+1) by omega]
theorem j26.lt{w:World}{b o j:Nat}{ks:List Tr}(h:j26 w (some ⟨b,o,none⟩) ks)(hj:j < ks.length):b < w.heap.size:=by
 rcases h with h|⟨b',o',e,hb,-⟩
 · rw[h] at hj;simp at hj
 · cases e;exact hb
theorem j84{l:List Tr}{j:Nat}{t:Tr}(h:j < l.length)(e:l[j]=t):l.take j++ [t]=l.take (j+1):=by rw[<-e];exact List.take_append_getElem h
def q210(t:Tr):Prop:= ∀(w:World) (v:Value) (y c d:Int),shape sigT t d=true->Lies w t v->cnt t<=1000->0<=y->y<=1000000->0<=c->c+cnt t<=1000000->
 Calls Tryz.prog 130 #[v,.int .i64 y,.int .i64 c] w fun e w'=> ∃u,e= .returned u/\Made w w' 25 (shfT y t c) u/\Ext w w'
theorem q148: ∀t:Tr,q210 t:=Tr.ind fun k n ks hk=> by
 intro w v y c d hsh j7 U7 hy0 M8 hc0 hc1;obtain⟨-,ah,az,hsk⟩:=j12 hsh;have O6:=q102 k;obtain⟨A,cap,rfl,hl,hc,hK⟩:=Lies.mk_iff.1 j7;obtain⟨i0,hi,hz0,hz1,hz2⟩:=info_parts y215;have hcc:=hc;unfold maxLen at hcc;simp only[cnt] at U7 hc1;have hlc:=y19 ks;obtain⟨b1,d1⟩: ∃b1,(k==1)=b1:=⟨_,rfl⟩;obtain⟨b2,d2⟩: ∃b2,decide (c<=n)=b2:=⟨_,rfl⟩;obtain⟨nn,Dq⟩: ∃nn,nn=if(b1 && b2)=true then n+y else n:=⟨_,rfl⟩
 obtain⟨rs,il⟩: ∃rs,rs=j20 y k ks 0 c:=⟨_,rfl⟩;have hres:shfT y (.mk k n ks) c= .mk k nn rs:=by
  rw[Dq,il,<-d1,<-d2]
  conv=> lhs;unfold shfT
  simp
 have Dn:rs.length=ks.length:=by rw[il,q64]
 have bk: ∀j (h:j < ks.length),rs[j]'(by omega)=shfT y ks[j] (c+und k j):=fun j h=> by
  subst il;rw[j136 y h,Nat.zero_add]
 rw[hres];have W4:=hdq bk;clear hres il bk;cases b1 with
 |true=>
  obtain rfl:k=1:=by simpa using d1
  obtain⟨rfl,-,-⟩:=y89 hsh;obtain rfl:rs= []:=List.eq_nil_of_length_eq_zero (by simpa using Dn);cases b2
  all_goals simp only[Bool.and_true,Bool.and_false,if_true,Bool.false_eq_true,if_false] at Dq
  all_goals go_enter Tryz.func130,Tryz.ntmps130
  all_goals go_wp2_with fail
  all_goals refine wp_loop_rounds 1 ?_
  all_goals rw[rounds_succ]
  all_goals go_wp2_with fail
  all_goals exact bodyPost_ret (v:= .agg #[.int .i64 1,.int .i64 nn,.slice none 0 0]) (by simp[results,Tryz.results130,go_sem,Dq]) rfl ⟨_,rfl,Made.leaf _ _ _ _ _,(((xr w).alloc _).alloc _).alloc _⟩
 |false=>
  simp only[Bool.false_and,Bool.false_eq_true,if_false] at Dq;go_enter Tryz.func130,Tryz.ntmps130;go_wp2_with fail;obtain⟨w1,i7⟩: ∃w1,w1=(w.alloc (.cells #[.int .i64 k,.int .i64 n,.slice A ks.length cap] 25)).alloc (.cells #[.int .i64 0,.int .i64 0,.slice none 0 0] 25):=⟨_,rfl⟩;obtain⟨W,hW⟩: ∃W,W=w1.alloc (.cells #[.int .i64 k,.int .i64 nn,.slice none 0 0] 25):=⟨_,rfl⟩;have hs1:w1.heap.size=w.heap.size+1+1:=by rw[i7];simp
  have Eu:W.heap.size=w.heap.size+3:=by rw[hW];simp;omega
  have C6:Ext w w1:=i7▸((xr w).alloc _).alloc _;have I3:Ext w1 W:=hW▸(xr w1).alloc _;have F2:w1.heap[w.heap.size+1]? =some (.cells #[.int .i64 0,.int .i64 0,.slice none 0 0] 25 (0,0)):=by
   rw[i7];exact(blk2 (xr _)).2.1
  have ot:W.heap[w.heap.size+1+1]? =some (.cells #[.int .i64 k,.int .i64 nn,.slice none 0 0] 25 (0,0)):=by
   have:=heap_alloc_new w1 (.cells #[.int .i64 k,.int .i64 nn,.slice none 0 0] 25);rw[hs1] at this;rw[hW];exact this
  have T7:w1.heap[w.heap.size]? =some (.cells #[.int .i64 k,.int .i64 n,.slice A ks.length cap] 25 (0,0)):=by
   rw[i7];exact(blk2 (xr _)).1
  rw[Dq] at hW;rw[<-i7,<-hW];clear hW i7
  go_loopw [8] (fun i wr=> ∃(j:Nat) (v:Value),j<=ks.length/\i= .int .i64 j/\wr.heap[w.heap.size+1+1]? =some (.cells #[.int .i64 k,.int .i64 nn,v] 25 (0,0))/\Grow W wr 25 v (rs.take j)/\Ext w1 wr/\W.heap.size<=wr.heap.size) (fun i _=> ks.length -(intOf i).toNat)
  case atStart=> exact⟨0,_,Nat.zero_le _,rfl,ot,Grow.nil _ _ _,I3,Nat.le_refl _⟩
  case round=>
   obtain⟨j,v,hj,rfl,J9,hG,he,hle⟩:=hrel;by_cases hlt:j < ks.length
   · obtain⟨b,o,k',n',A',cap',kids,rfl,HK,c0,c1,c2,K8,L6,hK',D6,j5⟩:=hK.get (C6.trans he) hlt
     have L8:=j84 (l:=rs) (j:=j) (by omega) (W4.out j hlt);rw[HK.out] at L8;have Gf:=y86 k j;have lf:=hsk _ j5;have my:(j:Int) <(ks.length:Int):=by omega
     obtain⟨uu,hu⟩: ∃u,u=und k j:=⟨_,rfl⟩;have HU:=hdq (fun W=> q100 k j W);rw[<-hu] at HU Gf L8;have qw:=hdq L8;have pu:=hdq (IntWalk.i64_in (c+uu) ⟨by omega,by omega⟩);clear hu L8;have hcm:=y15 j5;have hlen:(rs.take j).length < 1099511627776:=by rw[List.length_take];omega
     have Y2:(rs.take j).length=j:=by rw[List.length_take];omega
     have HL:=hdq Y2;have U5:=he.blk T7;obtain⟨t0,-,t2,-,-,-⟩:=own3 U5;have hj':(j:Int) <(ks.length:Int):=by omega
     go_wp2_with fail;have R9:=hle;have N4:=hG;have Y3:=J9;have hv:=q10 Y3 2;have C8: ∀w',Below W.heap.size wr w'->w'.heap[w.heap.size+1+1]? =some (.cells #[.int .i64 k,.int .i64 nn,v] 25 (0,0)):=fun w' hB=>(hB.block (w.heap.size+1+1) (by omega)).trans Y3
     have p5:=hdq C8;have D8:Ext wr wr.drew:=(xr wr).drew;have dr:=D6.ext D8;have nt:=he;have Ob:=hK.lt hlt;have HS:=hdq (show∀w',Below (w.heap.size+1) wr w'->w'.cell? ⟨w.heap.size,0,none⟩=some (.int .i64 k)/\w'.cell? ⟨w.heap.size,2,none⟩=some (.slice (some ⟨b,o,none⟩) ks.length cap)/\w'.cell? ⟨b,o+j*3,none⟩=some (.int .i64 k')/\w'.cell? ⟨b,o+j*3+1,none⟩=some (.int .i64 n')/\w'.cell? ⟨b,o+j*3+2,none⟩=some (.slice A' kids.length cap') from fun w' hw'=>
      ⟨(hw'.cell (p:=⟨w.heap.size,0,none⟩) (by show w.heap.size < _;omega)).trans t0,(hw'.cell (p:=⟨w.heap.size,2,none⟩) (by show w.heap.size < _;omega)).trans t2,(hw'.cell (p:=⟨b,o+j*3,none⟩) (by show b < _;omega)).trans c0,(hw'.cell (p:=⟨b,o+j*3+1,none⟩) (by show b < _;omega)).trans c1,(hw'.cell (p:=⟨b,o+j*3+2,none⟩) (by show b < _;omega)).trans c2⟩)
     have Zs:Below (w.heap.size+1) wr wr.drew:=(Below.refl _ _).drew;clear C8 Y2 J9 hG he hle hcc;rw[show Op.load 23 (Operand.tmp 35)=ldO 23 35 from rfl]
     go_region_held_law (fun w'=> w'.cell? ⟨w.heap.size,0,none⟩=some (.int .i64 k)/\w'.cell? ⟨w.heap.size,2,none⟩=some (.slice (some ⟨b,o,none⟩) ks.length cap)/\w'.cell? ⟨b,o+j*3,none⟩=some (.int .i64 k')/\w'.cell? ⟨b,o+j*3+1,none⟩=some (.int .i64 n')/\w'.cell? ⟨b,o+j*3+2,none⟩=some (.slice A' kids.length cap'))
      (first|exact HS.out _ ((Mm.setCell (by show _<=w.heap.size+1+1;omega) _)) |exact HS.out _ Mm|exact HS.out _ (Ju.alloc (by omega) _) |exact HS.out _ Ju|exact HS.out _ Zs)
      (first|(go_simp;go_at_call 148;refine(HU.out _).mono ?_;rintro e wu ⟨rfl,rfl⟩) |(go_simp;go_at_call 130;(try rw[pu.out]);refine(hk _ j5 _ _ y (c+uu) (d - 1) lf dr (by omega) hy0 M8 (by omega) (by omega)).mono ?_;rintro e w4 ⟨u,rfl,hM,h4⟩;obtain⟨a1,a2,a3,a4,a5,rfl⟩:=hM.three';have hv4:=q10 (p5.out _ ((D8.trans h4).below R9)) 2;have jq:=World.block_lt_of_cell? _ _ hv4;have Ju:Below (w.heap.size+1) wr w4:=((D8.trans h4).below R9).mono (by omega)) |(refine q29 _ (by rfl) (.tmp 36) (.tmp 50) _ (by rfl) 25 i0 _ Tryz.underlying23 hi hz0 hz1 hz2 rfl (by rfl) N4 R9 (D8.trans h4) (hM.since (Nat.le_refl _)) ((xr _).alloc _) (by rfl) (heap_alloc_new _ _) hlen ?_;intro v' w5 G7 E6;obtain⟨B5,c5,rfl,q1,q2,-⟩:=G7.made;have gi:=q10 (p5.out _ E6) 2;have Er:=y13 (p5.out _ E6) 2;have Mm:Below (w.heap.size+1) wr w5:=E6.mono (by omega)))
     all_goals(
      have fh:Ext w1 w5:=nt.trans' E6 (by omega);have hs5:=E6.size;have G5:=p5.out _ E6;rw[List.length_append,List.length_singleton,HL.out,qw.out] at G7;have rq:=fun u=> G7.after ((y25.refl W.heap.size w5).setCell (p:=⟨w.heap.size+1+1,2,none⟩) (by show w.heap.size+1+1 < W.heap.size;omega) u)
      clear hv4 jq hv p5 hM h4 c0 c1 c2 t2 t0;go_wp2_with fail
      go_roundw
      case rel=> exact⟨j+1,_,by omega,by go_num,j11 G5 2 _,rq _,fh.setCell (by show _<=w.heap.size+1+1;omega) _,by simp;omega⟩
      case measure=> simp[intOf];omega)
   · obtain⟨B5,c5,rfl,q1,q2,ij⟩:=hG.made
     have M0:j=ks.length:=by omega
     have Ig:rs.take j=rs:=List.take_of_length_le (by omega);obtain⟨r0,r1,r2,-,-,-⟩:=own3 J9;have U5:=he.blk T7;obtain⟨-,-,t2,-,-,-⟩:=own3 U5;have Z6:=he.blk F2;obtain⟨s0,s1,s2,f0,f1,f2⟩:=own3 Z6;rw[Ig] at q1 r2 ij;clear J9;go_wp2_with fail;refine bodyPost_ret (v:= .agg #[.int .i64 k,.int .i64 nn,.slice B5 rs.length c5]) (by simp[results,Tryz.results130,go_sem,s0,s1,s2,Dq,Dn]) rfl ⟨_,rfl, ?_, ?_⟩
     · exact Made.since (Made.after (Made.mk q1 q2 ij) ((((y25.refl _ _).setCell (by show w.heap.size+1 < _;omega) _).setCell (by show w.heap.size+1 < _;omega) _).setCell (by show w.heap.size+1 < _;omega) _)) (by omega)
     · exact((((C6.trans he).setCell (by simp) _).setCell (by simp) _).setCell (by simp) _)
end Go.Proofs.YtbnkbepgmenblaaGreat
namespace Go.Proofs.YtbnkbepgmenblaaGreat
theorem j181{k:Int}{n:Nat}(h:opsT k=(n:Int)):k=1\/k=2\/k=3\/k=4\/k=5\/k=6\/k=7\/k=8\/k=9\/k=10\/k=11\/k=12\/k=13\/k=14\/k=15\/k=16:=by
 by_cases hk:1<=k/\k<=16
 · omega
 · exfalso
   unfold opsT at h
   repeat rw[if_neg (by omega)] at h
   omega
mutual
def plc(p:Tr->Bool):Tr->List Int->List (List Int)
 | .mk k n ks,q=>(if p (.mk k n ks)=true then [q] else [])++plcs p 0 ks q
def plcs(p:Tr->Bool):Nat->List Tr->List Int->List (List Int)
 |_, [],_=> []
 |i,t::ts,q=> plc p t (q++ [(i:Int)])++plcs p (i+1) ts q
end
mutual
def cntP(p:Tr->Bool):Tr->Nat
 | .mk k n ks=>(if p (.mk k n ks)=true then 1 else 0)+y138 p ks
def y138(p:Tr->Bool):List Tr->Nat
 | []=> 0
 |t::ts=> cntP p t+y138 p ts
end
mutual
theorem y178(p:Tr->Bool): ∀(t:Tr) (q:List Int),(plc p t q).length=cntP p t
 | .mk k n ks,q=> by
  rw[plc,cntP,List.length_append,j127 p ks 0 q]
  split <;> simp
theorem j127(p:Tr->Bool): ∀(ks:List Tr) (i:Nat) (q:List Int),(plcs p i ks q).length=y138 p ks
 | [],i,q=> by rw[plcs,y138];rfl
 |t::ts,i,q=> by rw[plcs,y138,List.length_append,y178 p t _,j127 p ts _ q]
end
mutual
theorem y200(p:Tr->Bool): ∀t:Tr,cntP p t<=cnt t
 | .mk k n ks=> by
  rw[cntP,cnt];have:=j126 p ks
  split <;> omega
theorem j126(p:Tr->Bool): ∀ks:List Tr,y138 p ks<=cnts ks
 | []=> by rw[y138,cnts];exact Nat.le_refl _
 |t::ts=> by
  rw[y138,cnts];have:=y200 p t;have:=j126 p ts;omega
end
def j55(t:Tr):Bool:=rdxT t !=0
def atT:Tr->List Int->Option Tr
 |t, []=> some t
 | .mk _ _ ks,i::r=> if 0<=i/\i < ks.length then atT (kd ks i.toNat) r else none
def bndT:Tr->List Int->List Tr
 |_, []=> []
 | .mk k _ ks,i::r=> if 0<=i/\i < ks.length then(if 0 < und k i.toNat then [kd ks 0] else [])++bndT (kd ks i.toNat) r else []
theorem y187(t:Tr)(ts:List Tr)(i:Nat):kd (t::ts) (i+1)=kd ts i:=rfl
theorem j68{ks:List Tr}{i:Nat}(h:i < ks.length):kd ks i∈ks:=by
 unfold kd;rw[List.getD_eq_getElem?_getD,List.getElem?_eq_getElem h];exact List.getElem_mem h
mutual
theorem plc_at(p:Tr->Bool): ∀(t:Tr) (q:List Int) (x:List Int),x∈plc p t q-> ∃r u,x=q++r/\atT t r=some u/\p u=true
 | .mk k n ks,q,x,h=> by
  rw[plc] at h;rcases List.mem_append.1 h with h|h
  · by_cases hp:p (.mk k n ks)=true
    · rw[if_pos hp] at h
      exact⟨[],.mk k n ks,by simpa using h,rfl,hp⟩
    · rw[if_neg hp] at h
      cases h
  · obtain⟨j,r,u,h1,h2,h3,h4⟩:=j202 p ks 0 q x h
    refine⟨((j:Nat):Int)::r,u,by simpa using h2, ?_,h4⟩;rw[atT,if_pos ⟨by omega,by omega⟩]
    simpa using h3
theorem j202(p:Tr->Bool): ∀(ks:List Tr) (i:Nat) (q:List Int) (x:List Int),x∈plcs p i ks q-> ∃(j:Nat) (r:List Int) (u:Tr),j < ks.length/\x=q++((i+j:Nat):Int)::r/\atT (kd ks j) r=some u/\p u=true
 | [],i,q,x,h=> by rw[plcs] at h;cases h
 |t::ts,i,q,x,h=> by
  rw[plcs] at h;rcases List.mem_append.1 h with h|h
  · obtain⟨r,u,h1,h2,h3⟩:=plc_at p t _ x h
    exact⟨0,r,u,by simp,by simpa using h1,h2,h3⟩
  · obtain⟨j,r,u,h1,h2,h3,h4⟩:=j202 p ts (i+1) q x h
    refine⟨j+1,r,u,by simpa using h1, ?_,h3,h4⟩;rw[h2,show i+1+j=i+(j+1) by omega]
end
theorem y107{g:Sig}: ∀(a:List Int) (t u:Tr) (d:Int),shape g t d=true->atT t a=some u->shape g u (d - a.length)=true
 | [],t,u,d,h,e=> by
  have e:t=u:=by cases t;simpa[atT] using e
  subst e
  simpa using h
 |i::a,.mk k n ks,u,d,h,e=> by
  rw[atT] at e
  split at e
  · rename_i hi
    have h1:=(q25 h).2.2.2 (kd ks i.toNat) (j68 (by omega));have:=y107 a _ u (d - 1) h1 e;rw[List.length_cons,show d -((a.length+1:Nat):Int)=d - 1 - a.length by omega];exact this
  · cases e
theorem j41{g:Sig}{t:Tr}{d:Int}(h:shape g t d=true):1<=d:=by
 obtain⟨k,n,ks⟩:=t;simp only[shape,Bool.and_eq_true,decide_eq_true_eq] at h;exact h.1
mutual
def outT:Tr->Option (List Int)
 | .mk k n ks=> if rdx k ks=0 then j53 0 ks else some []
def j53:Nat->List Tr->Option (List Int)
 |_, []=> none
 |i,t::ts=> match outT t with
  |some p=> some ((i:Int)::p)
  |none=> j53 (i+1) ts
end
mutual
theorem q121: ∀t:Tr,(outT t).isSome= !nrm t
 | .mk k n ks=> by
  rw[outT,nrm];by_cases h:rdx k ks=0
  · rw[if_pos h,q130 ks 0]
    simp[h]
  · rw[if_neg h]
    simp[h]
theorem q130: ∀(ks:List Tr) (i:Nat),(j53 i ks).isSome= !nrms ks
 | [],i=> by rw[j53,nrms];rfl
 |t::ts,i=> by
  have h:=q121 t;rw[j53,nrms];cases e:outT t with
  |some p=> rw[e] at h;simp at h;simp[h]
  |none=> rw[e] at h;simp at h;simp[h,q130 ts (i+1)]
end
theorem q127: ∀(t:Tr) (d:Int),shape sigT t d=true-> ∀p,outT t=some p->(p.length:Int)<=d:=Tr.ind fun k n ks hk=> by
 intro d h p e;have hd:=j41 h;rw[outT] at e
 split at e
 · have key: ∀(i:Nat) (ts:List Tr),(∀t∈ts,t∈ks)->j53 i ts=some p->(p.length:Int)<=d:=by
    intro i ts
    induction ts generalizing i with
    |nil=> intro _ h;rw[j53] at h;cases h
    |cons t ts ih=>
     intro hm h1;rw[j53] at h1;cases e2:outT t with
     |some q=>
      rw[e2] at h1;simp only[Option.some.injEq] at h1;subst h1;have:=hk t (hm t (by simp)) (d - 1) ((q25 h).2.2.2 t (hm t (by simp))) q e2;simp only[List.length_cons];omega
     |none=>
      rw[e2] at h1;exact ih (i+1) (fun t ht=> hm t (by simp[ht])) h1
   exact key 0 ks (fun _ h=> h) e
 · simp only[Option.some.injEq] at e
   subst e;simp
   omega
end Go.Proofs.YtbnkbepgmenblaaGreat
