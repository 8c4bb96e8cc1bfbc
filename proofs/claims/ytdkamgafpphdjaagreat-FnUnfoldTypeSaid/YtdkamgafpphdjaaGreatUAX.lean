/-
  Lemmas towards the law, 24: DefG, CopyTop, Draws2.
-/
import Derived.Test.YtdkamgafpphdjaaGreatUAW
set_option maxHeartbeats 2000000
set_option maxRecDepth 100000
namespace Go.Proofs.YtdkamgafpphdjaaGreat
open Go.RowKit
set_option linter.unusedVariables false
def q25(W w:World)(e:TypeId)(v:Value)(ks:List Tr)(n:Nat):Prop:=
 ks.length=n*2/\ ∃xs,w.ownsRow W.heap.size e 6 v n xs/\RowL w (fun b=> W.heap.size<=b/\b < w.heap.size/\v.ownBlock≠some b) xs ks
theorem q118{w w':World}{base:Nat}{e:TypeId}{v:Value}{n:Nat}{xs:List Value}(h:w.ownsRow base e 6 v n xs)(hb: ∀g,v.ownBlock=some g->w'.heap[g]? =w.heap[g]?):w'.ownsRow base e 6 v n xs:=by
 refine⟨h.1, ?_⟩;rcases h.2 with h|⟨g,cap,cur,rfl,h1,h2,r⟩
 · exact .inl h
 · exact .inr ⟨g,cap,cur,rfl,h1,(hb g rfl).trans h2,r⟩
theorem q25.lit{W w:World}{e:TypeId}{g:Nat}(hg:w.heap[g]? =some (.cells #[] e (0,0)))(hW:W.heap.size<=g):q25 W w e (.slice (some ⟨g,0,none⟩) 0 0) [] 0:=
 ⟨rfl, [],⟨rfl,.inr ⟨g,0,#[],rfl,hW,hg,Nat.le_refl _,Nat.zero_le _,rfl,rfl⟩⟩,RowL.nil⟩
theorem q25.same{W w w':World}{e:TypeId}{v:Value}{ks:List Tr}{n:Nat}(h:q25 W w e v ks n)(hs:w.heap.size<=w'.heap.size)(hb: ∀b,W.heap.size<=b->b < w.heap.size->w'.heap[b]? =w.heap[b]?):q25 W w' e v ks n:=by
 obtain⟨h0,xs,h1,h2⟩:=h;exact⟨h0,xs,q118 h1 (fun g hg=> hb g (h1.lt g hg).1 (h1.lt g hg).2),h2.mono (fun b hb=>⟨hb.1,Nat.lt_of_lt_of_le hb.2.1 hs,hb.2.2⟩) (fun b hm=> hb b hm.1 hm.2.1)⟩
theorem q25.ext{W w w':World}{e:TypeId}{v:Value}{ks:List Tr}{n:Nat}(h:q25 W w e v ks n)(he:Ext w w'):q25 W w' e v ks n:=h.same he.size (fun b _ hb=> he.heap b hb)
theorem q25.only{W w w':World}{e:TypeId}{v:Value}{ks:List Tr}{n:Nat}{L:List Nat}(h:q25 W w e v ks n)(ho:Only L w w')(hL: ∀b,b∈L->b < W.heap.size):q25 W w' e v ks n:=
 h.same ho.size (fun b hW hb=> ho.block b hb (fun hm=> by have:=hL b hm;omega))
theorem q25.slice{W w:World}{e:TypeId}{v:Value}{ks:List Tr}{n:Nat}(h:q25 W w e v ks n): ∃A cap,v= .slice A n cap/\n<=cap/\cap<=maxLen/\j18 W.heap.size w A ks:=by
 obtain⟨h0,xs,h1,h2⟩:=h;rcases h1.2 with⟨rfl,h3⟩ |⟨g,cap,cur,rfl,hb,hg,hnc,hcm,hcs,ht⟩
 · have:ks= []:=List.eq_nil_of_length_eq_zero (by omega)
   subst this;exact⟨none,0,by rw[h3],by omega,Nat.zero_le _,.inl rfl⟩
 · refine⟨_,cap,rfl,hnc,hcm,.inr ⟨g,0,rfl,⟨hb,q10 hg⟩, ?_⟩⟩
   have h3:=RowL.tail (cur.toList.drop (n*6)) (h2.mono (S':=fun b=> W.heap.size<=b/\b < w.heap.size) (fun b hb=>⟨hb.1,hb.2.1⟩) (fun _ _=> rfl));rw[<-ht,List.take_append_drop] at h3;exact RowL.inL hg (pre:= []) h3 (by simp)
theorem q25.cap{W w:World}{e:TypeId}{A:Option Addr}{n cap n':Nat}{ks:List Tr}(h:q25 W w e (.slice A n cap) ks n'):A=none->cap=0:=by
 obtain⟨h0,xs,h1,h2⟩:=h;intro hA;rcases h1.2 with⟨h3,-⟩ |⟨g,c,cur,h3,-⟩
 · simp only[Value.slice.injEq] at h3
   exact h3.2.2
 · simp only[Value.slice.injEq] at h3
   rw[hA] at h3;cases h3.1
theorem y162{w:World}{g:Nat}{v0 v1 v2 v3 v4 v5:Value}{e:TypeId}(h:w.heap[g]? =some (.cells #[v0,v1,v2,v3,v4,v5] e (0,0))): ∀j u, [v0,v1,v2,v3,v4,v5][j]? =some u->w.cell? ((⟨g,0,none⟩:Addr).add j)=some u:=by
 intro j u hu;rw[Addr.add_lit,Nat.zero_add,y10 h]
 simpa using hu
theorem RowL.append{w:World}{S:Nat->Prop}{ys:List Value}{ts:List Tr}(ht:RowL w S ys ts): ∀{xs:List Value} {ks:List Tr},xs.length=ks.length*3->RowL w S xs ks->RowL w S (xs++ys) (ks++ts)
 |xs, [],hx,h=> by
  have hx0:xs= []:=List.eq_nil_of_length_eq_zero (by simpa using hx);subst hx0;exact ht
 |xs,x::ks,hx,h=> by
  obtain⟨u0,u1,u2,rest,rfl,h1,h2⟩:=RowL.cons_iff.1 h;exact RowL.cons_iff.2 ⟨u0,u1,u2,_,rfl,h1,RowL.append ht (by simp only[List.length_cons] at hx;omega) h2⟩
theorem RowL.two{w:World}{S:Nat->Prop}{t u:Tr}{v0 v1 v2 v3 v4 v5:Value}(h1:InT w S t (.agg #[v0,v1,v2]))(h2:InT w S u (.agg #[v3,v4,v5])):RowL w S [v0,v1,v2,v3,v4,v5] [t,u]:=
 RowL.cons_iff.2 ⟨v0,v1,v2,_,rfl,h1,RowL.cons_iff.2 ⟨v3,v4,v5,_,rfl,h2,RowL.nil⟩⟩
theorem j70{P:Program}(w:World){o:Oper}{a:Act}{K:Act->World->Prop}{Q:Exit->Act->World->Prop}(s x:Operand)(t:TypeId)
 (ho:o.op= .call {callee:= .builtin .append,args:=#[s,x],argTypes:=#[t,t]})
 (e:TypeId) (i:TypeInfo) (z:Value) (ht:P.underlying t=some (.slice e)) (hi:P.info? e=some i) (hz:i.zero=some z) (hsize:i.size=6) (hby:i.bytes=80) (hzs:z.cells.size=6)
 {W:World} {v:Value} {ks:List Tr} {n:Nat} {t1 t2:Tr} {v0 v1 v2 v3 v4 v5:Value} {gx:Nat} (hs:a.eval s=v) (hG:q25 W w e v ks n) (hW:W.heap.size<=w.heap.size)
 (hT1:InT w (fun b=> W.heap.size<=b/\b < w.heap.size/\v.ownBlock≠some b) t1 (.agg #[v0,v1,v2])) (hT2:InT w (fun b=> W.heap.size<=b/\b < w.heap.size/\v.ownBlock≠some b) t2 (.agg #[v3,v4,v5]))
 (hx:a.eval x= .slice (some ⟨gx,0,none⟩) 1 1) (hgx:w.heap[gx]? =some (.cells #[v0,v1,v2,v3,v4,v5] e (0,0))) (hn:n < 1099511627776)
 (h: ∀v' w',q25 W w' e v' (ks++ [t1,t2]) (n+1)->Below W.heap.size w w'->w.grownBy w' v.ownBlock->(∀g,v'.ownBlock=some g->v.ownBlock=some g\/w.heap.size<=g)->K (a.put o.dst v') w'):o.wp P a w K Q:=by
 obtain⟨h0,xs,h1,h2⟩:=hG;have hone: ∀u∈ [v0,v1,v2,v3,v4,v5],u.oneCell'=true:=by
  have q1:=y46 hT1;have q2:=y46 hT2;intro u hu;simp only[List.mem_cons,List.not_mem_nil,or_false] at hu q1 q2;rcases hu with hu|hu|hu|hu|hu|hu
  · exact q1 u (.inl hu)
  · exact q1 u (.inr (.inl hu))
  · exact q1 u (.inr (.inr hu))
  · exact q2 u (.inl hu)
  · exact q2 u (.inr (.inl hu))
  · exact q2 u (.inr (.inr hu))
 obtain⟨v',w',hr,r1,r2,r3⟩:=q16 (P:=P) w W.heap.size t o.type e i z 6 80 ht hi hz hsize hby hzs (by decide) v n xs h1 ⟨gx,0,none⟩ 1 1 [v0,v1,v2,v3,v4,v5] rfl (y162 hgx) hone (by unfold maxLen;omega) (by omega) hW;have hB:Below W.heap.size w w':=⟨r2.os,r2.tape,r2.output,r2.size,fun b hb=> r2.block b (by omega) (fun he=> by have:=(h1.lt b he.symm).1;omega)⟩;have hS: ∀b,W.heap.size<=b/\b < w.heap.size/\v.ownBlock≠some b->W.heap.size<=b/\b < w'.heap.size/\v'.ownBlock≠some b:=fun b hb=> by
  refine⟨hb.1,Nat.lt_of_lt_of_le hb.2.1 r2.size,fun he=> ?_⟩;rcases r3 b he with h4|h4
  · exact hb.2.2 h4
  · have:=hb.2.1
    omega
 have hw: ∀b,W.heap.size<=b/\b < w.heap.size/\v.ownBlock≠some b->w'.heap[b]? =w.heap[b]? :=fun b hb=> r2.block b hb.2.1 (fun he=> hb.2.2 he.symm)
 have hG':q25 W w' e v' (ks++ [t1,t2]) (n+1):=⟨by simp[h0];omega,_,r1,RowL.append (RowL.two (hT1.mono hS hw) (hT2.mono hS hw)) (by rw[h1.1,h0];omega) (h2.mono hS hw)⟩;unfold Oper.wp execOp;simp only[ho,resolve,invoke,builtin,Sem.run_bind,Sem.run_pure,Result.andThen_ok,List.map_toArray,List.map_cons,List.map_nil,hs,hx,hr];exact h v' w' hG' hB r2 r3
theorem y43{P:Program}(w:World){ops:Array Oper}{rest:List Oper}{o:Oper}{a:Act}{Q:Exit->Act->World->Prop}(hgd:o.guard=none)(s x:Operand)(t:TypeId)
 (ho:o.op= .call {callee:= .builtin .append,args:=#[s,x],argTypes:=#[t,t]})
 (e:TypeId) (i:TypeInfo) (z:Value) (ht:P.underlying t=some (.slice e)) (hi:P.info? e=some i) (hz:i.zero=some z) (hsize:i.size=6) (hby:i.bytes=80) (hzs:z.cells.size=6)
 {W:World} {v:Value} {ks:List Tr} {n:Nat} {t1 t2:Tr} {v0 v1 v2 v3 v4 v5:Value} {gx:Nat} (hs:a.eval s=v) (hG:q25 W w e v ks n) (hW:W.heap.size<=w.heap.size)
 (hT1:InT w (fun b=> W.heap.size<=b/\b < w.heap.size/\v.ownBlock≠some b) t1 (.agg #[v0,v1,v2])) (hT2:InT w (fun b=> W.heap.size<=b/\b < w.heap.size/\v.ownBlock≠some b) t2 (.agg #[v3,v4,v5]))
 (hx:a.eval x= .slice (some ⟨gx,0,none⟩) 1 1) (hgx:w.heap[gx]? =some (.cells #[v0,v1,v2,v3,v4,v5] e (0,0))) (hn:n < 1099511627776)
 (h: ∀v' w',q25 W w' e v' (ks++ [t1,t2]) (n+1)->Below W.heap.size w w'->w.grownBy w' v.ownBlock->(∀g,v'.ownBlock=some g->v.ownBlock=some g\/w.heap.size<=g)->wpList P ops Q rest (a.put o.dst v') w'):wpList P ops Q (o::rest) a w:=
 wpList_plain hgd fun K hK=> j70 w s x t ho e i z ht hi hz hsize hby hzs hs hG hW hT1 hT2 hx hgx hn (fun v' w' h1 h2 h3 h4=> hK _ _ (h v' w' h1 h2 h3 h4))
theorem q99{P:Program}(w:World){ops:Array Oper}{o:Oper}{a:Act}{K:Act->World->Prop}{Q:Exit->Act->World->Prop}{E:Prop}(hgd:o.guard=none)(s x:Operand)(t:TypeId)
 (ho:o.op= .call {callee:= .builtin .append,args:=#[s,x],argTypes:=#[t,t]})
 (e:TypeId) (i:TypeInfo) (z:Value) (ht:P.underlying t=some (.slice e)) (hi:P.info? e=some i) (hz:i.zero=some z) (hsize:i.size=6) (hby:i.bytes=80) (hzs:z.cells.size=6)
 {W:World} {v:Value} {ks:List Tr} {n:Nat} {t1 t2:Tr} {v0 v1 v2 v3 v4 v5:Value} {gx:Nat} (hs:a.eval s=v) (hG:q25 W w e v ks n) (hW:W.heap.size<=w.heap.size)
 (hT1:InT w (fun b=> W.heap.size<=b/\b < w.heap.size/\v.ownBlock≠some b) t1 (.agg #[v0,v1,v2])) (hT2:InT w (fun b=> W.heap.size<=b/\b < w.heap.size/\v.ownBlock≠some b) t2 (.agg #[v3,v4,v5]))
 (hx:a.eval x= .slice (some ⟨gx,0,none⟩) 1 1) (hgx:w.heap[gx]? =some (.cells #[v0,v1,v2,v3,v4,v5] e (0,0))) (hn:n < 1099511627776)
 (h: ∀v' w',q25 W w' e v' (ks++ [t1,t2]) (n+1)->Below W.heap.size w w'->w.grownBy w' v.ownBlock->(∀g,v'.ownBlock=some g->v.ownBlock=some g\/w.heap.size<=g)->K (a.put o.dst v') w'):
 if Region.wanted o (yielded ops a.tmps)=true then Oper.wp P o a w K Q else E:=by
 have hw:Region.wanted o (yielded ops a.tmps)=true:=by simp[Region.wanted,hgd]
 rw[if_pos hw];exact j70 w s x t ho e i z ht hi hz hsize hby hzs hs hG hW hT1 hT2 hx hgx hn h
theorem q25.off{W w w1:World}{e:TypeId}{v:Value}{ks:List Tr}{n:Nat}{t:Tr}{u:Value}(h:q25 W w e v ks n)(hW:W.heap.size<=w.heap.size)(ht:From w.heap.size w1 t u):InT w1 (fun b=> W.heap.size<=b/\b < w1.heap.size/\v.ownBlock≠some b) t u:=by
 obtain⟨h0,xs,h1,h2⟩:=h;exact InT.mono (fun b hb=>⟨by have:=hb.1;omega,hb.2,fun he=> by have:=(h1.lt b he).2;have:=hb.1;omega⟩) (fun _ _=> rfl) ht
theorem q25.row{W w:World}{e:TypeId}{v:Value}{ks:List Tr}{n:Nat}(h:q25 W w e v ks n)(hn:0 < n): ∃g cap,v= .slice (some ⟨g,0,none⟩) n cap/\W.heap.size<=g/\g < w.heap.size/\n<=cap/\cap<=maxLen/\
 ∀j,j < n*6-> ∃x,w.cell? ⟨g,j,none⟩=some x/\w.frozen? ⟨g,j,none⟩=false:=by
 obtain⟨h0,xs,h1,h2⟩:=h;rcases h1.2 with⟨rfl,h3⟩ |⟨g,cap,cur,rfl,hb,hg,hnc,hcm,hcs,ht⟩
 · omega
 · exact⟨g,cap,rfl,hb,q10 hg,hnc,hcm,fun j hj=>⟨cur[j]'(by rw[hcs];omega),by rw[y10 hg];exact Array.getElem?_eq_getElem _,q12 hg _⟩⟩
theorem q25.set{W w:World}{e:TypeId}{g cap n j:Nat}{ks:List Tr}{t:Tr}{v0 v1 v2:Value}(h:q25 W w e (.slice (some ⟨g,0,none⟩) n cap) ks n)(hj:j < ks.length)
 (ht:InT w (fun b=> W.heap.size<=b/\b < w.heap.size/\b≠g) t (.agg #[v0,v1,v2])):
 q25 W (((w.setCell ⟨g,j*3,none⟩ v0).setCell ⟨g,j*3+1,none⟩ v1).setCell ⟨g,j*3+2,none⟩ v2) e (.slice (some ⟨g,0,none⟩) n cap) (ks.set j t) n:=by
 obtain⟨h0,xs,h1,h2⟩:=h;rcases h1.2 with⟨h3,h4⟩ |⟨g',cap',cur,he,hb,hg,hnc,hcm,hcs,htk⟩
 · rw[h4] at h0;omega
 · simp only[Value.slice.injEq,Option.some.injEq,Addr.mk.injEq,and_true,true_and] at he
   obtain⟨rfl,rfl⟩:=he;have q1:=q11 (q11 (q11 hg (j*3) v0) (j*3+1) v1) (j*3+2) v2;have q2: ∀b,b≠g->(((w.setCell ⟨g,j*3,none⟩ v0).setCell ⟨g,j*3+1,none⟩ v1).setCell ⟨g,j*3+2,none⟩ v2).heap[b]? =w.heap[b]? :=fun b hne=> by
    rw[Below.heap_setCell _ _ _ _ hne,Below.heap_setCell _ _ _ _ hne,Below.heap_setCell _ _ _ _ hne]
   have hlx:xs.length=ks.length*3:=by rw[h1.1,h0];omega
   refine⟨by simpa using h0,((xs.set (j*3) v0).set (j*3+1) v1).set (j*3+2) v2,⟨by simpa using h1.1,.inr ⟨g,cap,_,rfl,hb,q1,hnc,hcm,by simpa using hcs, ?_⟩⟩, ?_⟩
   · simp only[Array.toList_setIfInBounds,List.take_set,htk]
   · have hmn:RowL (((w.setCell ⟨g,j*3,none⟩ v0).setCell ⟨g,j*3+1,none⟩ v1).setCell ⟨g,j*3+2,none⟩ v2) (fun b=> W.heap.size<=b/\b <(((w.setCell ⟨g,j*3,none⟩ v0).setCell ⟨g,j*3+1,none⟩ v1).setCell ⟨g,j*3+2,none⟩ v2).heap.size/\(Value.slice (some ⟨g,0,none⟩) n cap).ownBlock≠some b) xs ks:=
      h2.mono (fun b hb=>⟨hb.1,by simpa using hb.2.1,hb.2.2⟩) (fun b hb=> q2 b (fun he=> hb.2.2 (by rw[he];rfl)))
     refine RowL.set (InT.mono (fun b hb=>⟨hb.1,by simpa using hb.2.1,fun he=> hb.2.2 (by simpa[Value.ownBlock] using he.symm)⟩) (fun b hb=> q2 b hb.2.2) ht) j hmn
theorem j18.tailD{B:Nat}{w:World}{b o:Nat}{ks:List Tr}(h:j18 B w (some ⟨b,o,none⟩) ks)(h2:ks≠ []):j18 B w (some ⟨b,o+6,none⟩) (ks.drop 2):=by
 rcases h with h|⟨b',o',he,hb,hl⟩
 · exact absurd h h2
 · simp only[Option.some.injEq,Addr.mk.injEq,and_true] at he
   obtain⟨rfl,rfl⟩:=he;exact .inr ⟨b,o+6,rfl,hb,InL.drop 2 hl⟩
end Go.Proofs.YtdkamgafpphdjaaGreat
namespace Go.Proofs.YtdkamgafpphdjaaGreat
open Go.RowKit
set_option linter.unusedVariables false
attribute [local go_sem ↓] Go.wp_at_zero Go.wp_at_succ
theorem OwnL.rowL{w:World}{e:TypeId}{S:Nat->Prop}: ∀{xs:List Value} {ks:List Tr} {L:List Nat},OwnL w e xs ks L->(∀b,b∈L->S b)->RowL w S xs ks
 |_, [],_,_,_=> RowL.nil
 |xs,t::ts,L,h,hS=> by
  obtain⟨v0,v1,v2,rest,L1,L2,rfl,h1,h2,rfl⟩:=OwnL.cons_iff.1 h;exact RowL.cons_iff.2 ⟨v0,v1,v2,rest,rfl,h1.inT.mono (fun b hb=> hS b (by simp[hb])) (fun _ _=> rfl),OwnL.rowL h2 (fun b hb=> hS b (by simp[hb]))⟩
theorem Grow.toS{W w:World}{e:TypeId}{v:Value}{ks:List Tr}(h:Grow W w e v ks):j20 (fun b=> b < W.heap.size) W w e v ks:=by
 obtain⟨xs,L,h1,h2,h3,h4⟩:=h;exact⟨xs,h1,h2.rowL (fun b hb=>⟨(h3.2 b hb).2,fun he=> h4 b he hb,by have:=(h3.2 b hb).1;omega⟩)⟩
theorem y156(k n:Int)(ks:List Tr)(w:World)(v:Value)(hin:Lies w (.mk k n ks) v)(hcnt:cnt (.mk k n ks)<=1000000):
 Calls Tryz.prog 72 #[v] w fun e w'=> ∃B c,e= .returned (.agg #[.int .i64 k,.int .i64 n,.slice B ks.length c])/\(∃W0:World,w.heap.size<=W0.heap.size/\j20 (fun b=> b < W0.heap.size) W0 w' 25 (.slice B ks.length c) ks/\W0.heap.size<=w'.heap.size)/\Ext w w':=by
 obtain⟨A,cap,rfl,hl,hc,hK⟩:=Lies.mk_iff.1 hin;obtain⟨i0,hi,hz0,hz1,hz2⟩:=info_parts q129;have hcc:=hc;unfold maxLen at hcc;simp only[cnt] at hcnt;have hlc:=j16 ks;go_enter Tryz.func72,Tryz.ntmps72;go_wp2_with fail;obtain⟨w1,hw1⟩: ∃w1,w1=(w.alloc (.cells #[.int .i64 k,.int .i64 n,.slice A ks.length cap] 25)).alloc (.cells #[.int .i64 0,.int .i64 0,.slice none 0 0] 25):=⟨_,rfl⟩;obtain⟨W,hW⟩: ∃W,W=w1.alloc (.cells #[.int .i64 k,.int .i64 n,.slice none 0 0] 25):=⟨_,rfl⟩;have hs1:w1.heap.size=w.heap.size+1+1:=by rw[hw1];simp
 have hsW:W.heap.size=w.heap.size+3:=by rw[hW];simp;omega
 have hE1:Ext w w1:=hw1▸((xr w).alloc _).alloc _;have hEW:Ext w1 W:=hW▸(xr w1).alloc _;have hbR:w1.heap[w.heap.size+1]? =some (.cells #[.int .i64 0,.int .i64 0,.slice none 0 0] 25 (0,0)):=by
  rw[hw1];exact(blk2 (xr _)).2.1
 have hbO:W.heap[w.heap.size+1+1]? =some (.cells #[.int .i64 k,.int .i64 n,.slice none 0 0] 25 (0,0)):=by
  have:=heap_alloc_new w1 (.cells #[.int .i64 k,.int .i64 n,.slice none 0 0] 25);rw[hs1] at this;rw[hW];exact this
 have hbT:w1.heap[w.heap.size]? =some (.cells #[.int .i64 k,.int .i64 n,.slice A ks.length cap] 25 (0,0)):=by
  rw[hw1];exact(blk2 (xr _)).1
 rw[<-hw1,<-hW];clear hW hw1
 go_loopw [4] (fun i wr=> ∃(j:Nat) (v:Value),j<=ks.length/\i= .int .i64 j/\wr.heap[w.heap.size+1+1]? =some (.cells #[.int .i64 k,.int .i64 n,v] 25 (0,0))/\Grow W wr 25 v (ks.take j)/\Ext w1 wr/\W.heap.size<=wr.heap.size) (fun i _=> ks.length -(intOf i).toNat)
 case atStart=> exact⟨0,_,Nat.zero_le _,rfl,hbO,Grow.nil _ _ _,hEW,Nat.le_refl _⟩
 case round=>
  obtain⟨j,v,hj,rfl,hbv,hG,he,hle⟩:=hrel;by_cases hlt:j < ks.length
  · obtain⟨b,o,k',n',A',cap',kids,rfl,HK,c0,c1,c2,hkl,hkc,hK',hin',hmem⟩:=hK.get (hE1.trans he) hlt
    have htk:=List.take_append_getElem hlt;rw[HK.out] at htk;have hcm:=y14 hmem;have hlen:(ks.take j).length < 1099511627776:=by rw[List.length_take];omega
    have hlj:(ks.take j).length=j:=by rw[List.length_take];omega
    have HL:=hdq hlj;have hbT2:=he.blk hbT;obtain⟨-,-,t2,-,-,-⟩:=own3 hbT2;have hj':(j:Int) <(ks.length:Int):=by omega
    go_wp2_with fail;have hle2:=hle;have hG2:=hG;have hbv2:=hbv;have hv:=y10 hbv2 2;have hcells: ∀w',Below W.heap.size wr w'->w'.heap[w.heap.size+1+1]? =some (.cells #[.int .i64 k,.int .i64 n,v] 25 (0,0)):=fun w' hB=>(hB.block (w.heap.size+1+1) (by omega)).trans hbv2
    have HCells:=hdq hcells;have hEd:Ext wr wr.drew:=(xr wr).drew;have hinD:=hin'.ext hEd;have he2:=he;clear hcells hlj hbv hG he hle hcc
    go_region_law (first|(go_simp;go_at_call 72;refine(q59 _ _ _ hinD (by omega)).mono ?_;rintro e w4 ⟨u,rfl,hM,h4⟩;obtain⟨a1,a2,a3,a4,a5,rfl⟩:=hM.three';have hv4:=y10 (HCells.out _ ((hEd.trans h4).below hle2)) 2;have hs4:=World.block_lt_of_cell? _ _ hv4) |(refine y24 _ (by rfl) (.tmp 18) (.tmp 25) _ (by rfl) 25 i0 _ Tryz.underlying23 hi hz0 hz1 hz2 rfl (by rfl) hG2 hle2 (hEd.trans h4) (hM.since (Nat.le_refl _)) ((xr _).alloc _) (by rfl) (heap_alloc_new _ _) hlen ?_;intro v' w5 hG5 hB5;obtain⟨B5,c5,rfl,q1,q2,-⟩:=hG5.made;have hv5:=y10 (HCells.out _ hB5) 2;have hf5:=q12 (HCells.out _ hB5) 2))
    all_goals(
     have hE5:Ext w1 w5:=he2.trans' hB5 (by omega);have hs5:=hB5.size;have hb6:=HCells.out _ hB5;rw[List.length_append,List.length_singleton,htk,show(ks.take j).length+1=min (j+1) ks.length from by rw[List.length_take];omega] at hG5;have hGs:=fun u=> hG5.after ((q23.refl W.heap.size w5).setCell (p:=⟨w.heap.size+1+1,2,none⟩) (by show w.heap.size+1+1 < W.heap.size;omega) u)
     clear hv4 hs4 hv HCells hM h4 c0 c1 c2 t2;go_wp2_with fail
     go_roundw
     case rel=> exact⟨j+1,_,by omega,by go_num,q11 hb6 2 _,hGs _,hE5.setCell (by show _<=w.heap.size+1+1;omega) _,by simp;omega⟩
     case measure=> simp[intOf];omega)
  · obtain⟨B5,c5,rfl,q1,q2,hMK⟩:=hG.made
    have hGS:=hG.toS;have hjl:j=ks.length:=by omega
    have hln:(ks.take j).length=ks.length:=by rw[hjl,List.take_length]
    obtain⟨r0,r1,r2,-,-,-⟩:=own3 hbv;have hbT2:=he.blk hbT;obtain⟨-,-,t2,-,-,-⟩:=own3 hbT2;have hbR':=he.blk hbR;obtain⟨s0,s1,s2,f0,f1,f2⟩:=own3 hbR';rw[hln] at q1 r2;rw[show ks.take j=ks from by rw[hjl,List.take_length]] at hMK;rw[hln] at hGS;clear hln hbv;go_wp2_with fail;refine bodyPost_ret (v:= .agg #[.int .i64 k,.int .i64 n,.slice B5 ks.length c5]) (by simp[results,Tryz.results72,go_sem,s0,s1,s2]) rfl ⟨B5,c5,rfl,⟨W,by omega, ?_,by simp;omega⟩, ?_⟩
    · rw[show ks.take j=ks from by rw[hjl,List.take_length]] at hGS
      exact((hGS.only (Only.one _ (w.heap.size+1) 0 _) (by intro b hb;rw[List.mem_singleton.1 hb];omega) (fun b hb=> hb)).only (Only.one _ (w.heap.size+1) 1 _) (by intro b hb;rw[List.mem_singleton.1 hb];omega) (fun b hb=> hb)).only (Only.one _ (w.heap.size+1) 2 _) (by intro b hb;rw[List.mem_singleton.1 hb];omega) (fun b hb=> hb)
    · exact((((hE1.trans he).setCell (by simp) _).setCell (by simp) _).setCell (by simp) _)
theorem nd_le4: ∀d,d<=4->nd d<=1023
 |0,_=> by decide
 |1,_=> by decide
 |2,_=> by decide
 |3,_=> by decide
 |4,_=> by decide
theorem q165:valid sigT (.mk 7 0 [])=true:=by decide
theorem j172(w:World)(g m:Nat)(hR:Rd w g m)(hm:m < 900000):Calls Tryz.prog 101 #[.pointer (some ⟨g,0,none⟩)] w fun e w'=> ∃t u,e= .returned u/\valid sigT t=true/\From w.heap.size w' t u/\Rd w' g (m+1024)/\Only [g] w w':=by
 have hgl:=hR.lt;have hx0:=((xr w).alloc (.cells #[.int .i64 0,.int .i64 0,.slice none 0 0] 25)).alloc (.cells #[.int .i64 3,.int .i64 4,.int .i64 2,.int .i64 3,.int .i64 1] 3);obtain⟨b40,b50,-⟩:=blk2 (xr ((w.alloc (.cells #[.int .i64 0,.int .i64 0,.slice none 0 0] 25)).alloc (.cells #[.int .i64 3,.int .i64 4,.int .i64 2,.int .i64 3,.int .i64 1] 3)));have hN:=y45 (w:=w.alloc (.cells #[.int .i64 0,.int .i64 0,.slice none 0 0] 25)) (cs:=#[.int .i64 3,.int .i64 4,.int .i64 2,.int .i64 3,.int .i64 1]) (e:=3) (ns:= [3,4,2,3,1]) rfl;rw[World.size_alloc] at hN;go_enter Tryz.func101,Tryz.ntmps101;go_wp2_with fail;generalize (w.alloc _).alloc _=w0 at hx0 b40 b50 hN;refine(j65 _ g m (hR.ext hx0) (by omega) _ 5 [3,4,2,3,1] (by simp) (by decide) (by simp) hN (by intro b o hb;simp at hb;omega)).mono ?_;rintro e w1 ⟨d,rfl,hmem,hR1,ho1⟩;obtain⟨dn,rfl,hd4⟩: ∃dn:Nat,d=dn/\dn<=4:=by
  simp only[List.mem_cons,List.not_mem_nil,or_false] at hmem;exact⟨d.toNat,by omega,by omega⟩
 have hnd:=nd_le4 dn hd4;have b41:=ho1.keepBlk b40 (by simp;omega);have hO1:=(oE (L:= [g]) hx0).trans ho1;clear hmem hN b50 b40;go_wp2_with fail;refine(y108 dn hd4 _ g _ hR1 (by omega)).mono ?_;rintro e w2 ⟨t,u,rfl,hF,hR2,ho2⟩;obtain⟨k0,n0,A0,l0,c0,rfl⟩:=hF.three;have b42:=ho2.keepBlk b41 (by simp;omega);have hO2:=hO1.trans ho2;have hx3:=(xr w2).alloc (.cells #[.int .i64 k0,.int .i64 n0,.slice A0 l0 c0] 25);have hbT:=heap_alloc_new w2 (.cells #[.int .i64 k0,.int .i64 n0,.slice A0 l0 c0] 25);have hFx:=(hF.ext hx3).since (show w.heap.size+1<=w1.heap.size from q10 b41);have b43:=hx3.blk b42;have hO3:=hO2.trans (oE (L:= [g]) hx3);have hR3:=hR2.ext hx3;clear b41 b42 hO1 hO2 hF hR1;go_wp2_with fail;refine(y30 t _ _ hFx.lies).mono ?_;obtain⟨vt,hvt⟩: ∃vt,vt=valid sigT t:=⟨_,rfl⟩;rw[<-hvt];rintro e w4 ⟨rfl,e4⟩;have hF4:=hFx.ext e4;obtain⟨s0,s1,s2,f0,f1,f2⟩:=own3 (e4.blk b43);obtain⟨x0,x1,x2,-,-,-⟩:=own3 (e4.blk hbT);have hO4:=hO3.trans (oE (L:= [g]) e4);have hR4:=hR3.ext e4;have HV:=hdq hvt;clear hvt hbT hR3 hO3 hR2;cases vt with
 |true=>
  go_wp2_with fail;refine bodyPost_ret (v:= .agg #[.int .i64 k0,.int .i64 n0,.slice A0 l0 c0]) (by simp[results,Tryz.results101,go_sem,s0,s1,s2]) rfl ⟨t,_,rfl,HV.out.symm, ?_, ?_, ?_⟩
  · exact(((hF4.set (by simp) _).set (by simp) _).set (by simp) _).since (by omega)
  · exact(((hR4.mono (by omega)).set (by simpa using hgl) _).set (by simpa using hgl) _).set (by simpa using hgl) _
  · exact((hO4.setNew (by simp) _).setNew (by simp) _).setNew (by simp) _
 |false=>
  have b44:=e4.blk b43;clear s0 s1 s2 f0 f1 f2;go_wp2_with fail;refine(y17 _ 7 0).mono ?_;rintro e w5 ⟨rfl,e5⟩;obtain⟨s0,s1,s2,f0,f1,f2⟩:=own3 (e5.blk b44);have hO5:=hO4.trans (oE (L:= [g]) e5);have hR5:=hR4.ext e5;go_wp2_with fail;refine bodyPost_ret (v:= .agg #[.int .i64 7,.int .i64 0,.slice none 0 0]) (by simp[results,Tryz.results101,go_sem,s0,s1,s2]) rfl ⟨.mk 7 0 [],_,rfl,q165,From.leaf _ _ _ _, ?_, ?_⟩
  · exact(((hR5.mono (by omega)).set (by simpa using hgl) _).set (by simpa using hgl) _).set (by simpa using hgl) _
  · exact((hO5.setNew (by simp) _).setNew (by simp) _).setNew (by simp) _
end Go.Proofs.YtdkamgafpphdjaaGreat
