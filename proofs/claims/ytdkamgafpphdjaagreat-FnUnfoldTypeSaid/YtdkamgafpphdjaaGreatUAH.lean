/-
  Lemmas towards the law, 8: Grow, Same, OrdX.
-/
import Derived.Test.YtdkamgafpphdjaaGreatUAG
import Derived.Laws.AppendOwn
import Derived.Outline
import Derived.OwnWalk
import Derived.StillTailTactics
import Derived.Test.YtdkamgafpphdjaaGreatProg
set_option maxHeartbeats 400000
namespace Go.Proofs.YtdkamgafpphdjaaGreat
open Go.RowKit
set_option linter.unusedVariables false
theorem q16{P:Program}(w:World)(base:Nat)(t ty e:TypeId)(i:TypeInfo)(z:Value)(size bytes:Nat)(ht:P.underlying t=some (.slice e))(hi:P.info? e=some i)(hz:i.zero=some z)
 (hsize:i.size=size) (hby:i.bytes=bytes) (hzs:z.cells.size=size) (hsz:0 < size)
 (v:Value) (n:Nat) (xs:List Value) (hown:w.ownsRow base e size v n xs)
 (a:Addr) (m c:Nat) (news:List Value) (hl:news.length=m*size) (hnews: ∀j u,news[j]? =some u->w.cell? (a.add j)=some u) (h1: ∀u∈news,u.oneCell'=true)
 (h63:n+m<=maxLen) (hbytes:(n+m)*bytes<=140737488355328) (hbase:base<=w.heap.size):
 ∃v' w',(Builtin.append_ #[t,t] ty #[v,.slice (some a) m c]).run P w= .ok v' w'/\w'.ownsRow base e size v' (n+m) (xs++news)/\w.grownBy w' v.ownBlock/\
  (∀g,v'.ownBlock=some g->v.ownBlock=some g\/w.heap.size<=g):=by
 obtain⟨v',w',hr,h2,h3,h4⟩:=run_append_own (P:=P) w base t ty e i z size bytes ht hi hz hsize hby hzs hsz v n xs hown a m c news hl hnews h1 h63 hbytes hbase;refine⟨v',w',hr,h2,h3,fun g hg=> ?_⟩;rcases hown.2 with⟨rfl,rfl⟩ |⟨g0,cap,cur,rfl,_,hg0,hnc,hcm,hcs,htake⟩
 · by_cases hm:m=0
   · rw[h4.2 ⟨rfl,hm⟩] at hg
     cases hg
   · have hn':m<=9223372036854775807:=by simp only[maxLen] at h63;omega
     have hr':=run_append_nil (P:=P) w t ty e i z ht hi hz a m c news (by rw[hl,hsize]) hnews (by omega) (by omega) (by rw[hby];have hb:=hbytes;simp only[Nat.zero_add] at hb;omega);rw[hr'] at hr;cases hr
     simp only[Value.ownBlock,Option.some.injEq] at hg;exact .inr (by omega)
 · by_cases hroom:n+m<=cap
   · have hfit:n*i.size+news.length<=cur.size:=by rw[hl,hcs,hsize,<-Nat.add_mul];exact Nat.mul_le_mul_right _ hroom
     have hr':=run_append_room (P:=P) w t ty e i ht hi g0 n cap cur hg0 a m c news (by rw[hl,hsize]) hnews h1 hroom hfit;rw[hr'] at hr;cases hr
     exact .inl hg
   · have hn':n+m<=9223372036854775807:=by simp only[maxLen] at h63;omega
     have holds: ∀j u,xs[j]? =some u->w.cell? ((⟨g0,0,none⟩:Addr).add j)=some u:=hown.cells (g:=g0) rfl;have hr':=run_append_grow (P:=P) w t ty e i z ht hi hz ⟨g0,0,none⟩ n cap xs (by rw[hown.1,hsize]) holds a m c news (by rw[hl,hsize]) hnews (by omega) (by omega) (by rw[hby];exact growslice_fits (by omega) hbytes);rw[hr'] at hr;cases hr
     simp only[Value.ownBlock,Option.some.injEq] at hg;exact .inr (by omega)
def Grow(W w:World)(e:TypeId)(v:Value)(ks:List Tr):Prop:=
 ∃xs L,w.ownsRow W.heap.size e 3 v ks.length xs/\OwnL w e xs ks L/\j45 W w L/\ ∀g,v.ownBlock=some g-> ¬g∈L
theorem Grow.nil(W w:World)(e:TypeId):Grow W w e (.slice none 0 0) []:=
 ⟨[], [],World.ownsRow_nil _ _ _ _,OwnL.nil,j45.nil _ _,fun _ _ h=> by cases h⟩
theorem j28{w w':World}{base:Nat}{e:TypeId}{v:Value}{n:Nat}{xs:List Value}(h:w.ownsRow base e 3 v n xs)(hb: ∀g,v.ownBlock=some g->w'.heap[g]? =w.heap[g]?):w'.ownsRow base e 3 v n xs:=by
 refine⟨h.1, ?_⟩;rcases h.2 with h|⟨g,cap,cur,rfl,h1,h2,r⟩
 · exact .inl h
 · exact .inr ⟨g,cap,cur,rfl,h1,(hb g rfl).trans h2,r⟩
theorem Grow.same{W w w':World}{e:TypeId}{v:Value}{ks:List Tr}(h:Grow W w e v ks)(hs:w.heap.size<=w'.heap.size)(hb: ∀b,W.heap.size<=b->b < w.heap.size->w'.heap[b]? =w.heap[b]?):Grow W w' e v ks:=by
 obtain⟨xs,L,h1,h2,h3,h4⟩:=h;exact⟨xs,L,j28 h1 (fun g hg=> hb g (h1.lt g hg).1 (h1.lt g hg).2),h2.mono (fun b hm=> hb b (h3.2 b hm).1 (h3.2 b hm).2),h3.mono (Nat.le_refl _) hs,h4⟩
theorem Grow.ext{W w w':World}{e:TypeId}{v:Value}{ks:List Tr}(h:Grow W w e v ks)(he:Ext w w'):Grow W w' e v ks:=h.same he.size (fun b _ hb=> he.heap b hb)
theorem Grow.after{W w w':World}{e:TypeId}{v:Value}{ks:List Tr}(h:Grow W w e v ks)(ha:q23 W.heap.size w w'):Grow W w' e v ks:=h.same ha.2 (fun b hb _=> ha.1 b hb)
theorem Grow.made{W w:World}{e:TypeId}{v:Value}{ks:List Tr}(h:Grow W w e v ks): ∃A cap,v= .slice A ks.length cap/\ks.length<=cap/\cap<=maxLen/\y96 W w e A ks:=by
 obtain⟨xs,L,h1,h2,h3,h4⟩:=h;rcases h1.2 with⟨rfl,h0⟩ |⟨g,cap,cur,rfl,hb,hg,hnc,hcm,hcs,ht⟩
 · have:ks= []:=List.eq_nil_of_length_eq_zero h0
   subst this;exact⟨none,0,rfl,Nat.le_refl _,Nat.zero_le _,y96.nil _ _ _ _⟩
 · refine⟨_,cap,rfl,hnc,hcm,g::L,.inr ⟨g,cur,L,rfl,hg,rfl, ?_⟩,List.nodup_cons.2 ⟨h4 g rfl,h3.1⟩,fun b hm=> ?_⟩
   · have:=OwnL.tail (cur.toList.drop (ks.length*3)) h2
     rw[<-ht,List.take_append_drop] at this;exact this
   · rcases List.mem_cons.1 hm with rfl|hm
     · exact⟨hb,q10 hg⟩
     · exact h3.2 b hm
theorem q87{w w':World}{e:TypeId}{t:Tr}{v0 v1 v2:Value}(h:Made w w' e t (.agg #[v0,v1,v2])): ∀u∈ [v0,v1,v2],u.oneCell'=true:=by
 obtain⟨k,n,ks⟩:=t;obtain⟨A,cap,hv,_⟩:=Made.mk_iff.1 h;simp only[Value.agg.injEq,Array.mk.injEq,List.cons.injEq,and_true] at hv;obtain⟨rfl,rfl,rfl⟩:=hv;intro u hu;simp only[List.mem_cons,List.not_mem_nil,or_false] at hu;rcases hu with rfl|rfl|rfl <;> rfl
theorem j59{w:World}{g:Nat}{v0 v1 v2:Value}{e:TypeId}(h:w.heap[g]? =some (.cells #[v0,v1,v2] e (0,0))): ∀j u, [v0,v1,v2][j]? =some u->w.cell? ((⟨g,0,none⟩:Addr).add j)=some u:=by
 intro j u hu;rw[Addr.add_lit,Nat.zero_add,y10 h]
 simpa using hu
theorem Grow.step{W wr w1 w w':World}{e:TypeId}{v v':Value}{ks:List Tr}{t:Tr}{v0 v1 v2:Value}{xs:List Value}{L:List Nat}
 (hL:OwnL wr e xs ks L) (hF:j45 W wr L) (hv: ∀g,v.ownBlock=some g-> ¬g∈L/\g < wr.heap.size/\W.heap.size<=g) (hx:xs.length=ks.length*3) (hW:W.heap.size<=wr.heap.size) (hE1:Ext wr w1) (hM:Made wr w1 e t (.agg #[v0,v1,v2])) (hE2:Ext w1 w)
 (h2:w'.ownsRow W.heap.size e 3 v' (ks.length+1) (xs++ [v0,v1,v2])) (h3:w.grownBy w' v.ownBlock) (h4: ∀g,v'.ownBlock=some g->v.ownBlock=some g\/w.heap.size<=g):Grow W w' e v' (ks++ [t])/\Below W.heap.size wr w':=by
 obtain⟨M,hM,hFM⟩:=hM;have s1:=hE1.size;have s2:=hE2.size;have keep: ∀b,b < w1.heap.size->(v.ownBlock≠some b)->w'.heap[b]? =w1.heap[b]? :=fun b hb hne=>(h3.block b (by omega) (fun h=> hne h.symm)).trans (hE2.heap b hb)
 refine⟨⟨_,L++M,by simpa using h2,OwnL.snoc (hM.mono fun b hb=> keep b (hFM.2 b hb).2 fun he=> ?_) [] hx (hL.mono fun b hb=>(keep b (by have:=(hF.2 b hb).2;omega) fun he=> ?_).trans (hE1.heap b (hF.2 b hb).2)), ?_,fun g hg hm=> ?_⟩, ?_⟩
 · have:=(hv b he).2.1
   have:=(hFM.2 b hb).1;omega
 · exact(hv b he).1 hb
 · have h5:=hF.append (d:=w1) hFM (Nat.le_refl _) hW hE1.size
   exact h5.mono (Nat.le_refl _) (by have:=h3.size;omega)
 · rcases h4 g hg with h|h
   · rcases List.mem_append.1 hm with hm|hm
     · exact(hv g h).1 hm
     · have:=(hv g h).2.1
       have:=(hFM.2 g hm).1;omega
   · rcases List.mem_append.1 hm with hm|hm
     · have:=(hF.2 g hm).2
       omega
     · have:=(hFM.2 g hm).2
       omega
 · refine⟨h3.os.trans (hE2.os.trans hE1.os),h3.tape.trans (hE2.tape.trans hE1.tape),h3.output.trans (hE2.output.trans hE1.output),by have:=h3.size;omega,fun b hb=> ?_⟩
   exact(keep b (by omega) (fun he=> by have:=(hv b he).2.2;omega)).trans (hE1.heap b (by omega))
theorem y64{P:Program}(w:World){o:Oper}{a:Act}{K:Act->World->Prop}{Q:Exit->Act->World->Prop}(s x:Operand)(t:TypeId)
 (ho:o.op= .call {callee:= .builtin .append,args:=#[s,x],argTypes:=#[t,t]})
 (e:TypeId) (i:TypeInfo) (z:Value) (ht:P.underlying t=some (.slice e)) (hi:P.info? e=some i) (hz:i.zero=some z) (hsize:i.size=3) (hby:i.bytes=40) (hzs:z.cells.size=3)
 {W wr w1:World} {v:Value} {ks:List Tr} {tr:Tr} {v0 v1 v2:Value} {gx:Nat} (hs:a.eval s=v) (hG:Grow W wr e v ks) (hW:W.heap.size<=wr.heap.size) (hE1:Ext wr w1) (hM:Made wr w1 e tr (.agg #[v0,v1,v2])) (hE2:Ext w1 w)
 (hx:a.eval x= .slice (some ⟨gx,0,none⟩) 1 1) (hgx:w.heap[gx]? =some (.cells #[v0,v1,v2] e (0,0))) (hn:ks.length < 1099511627776)
 (h: ∀v' w',Grow W w' e v' (ks++ [tr])->Below W.heap.size wr w'->K (a.put o.dst v') w'):o.wp P a w K Q:=by
 obtain⟨xs,L,h1,h2,h3,h4⟩:=hG;have s1:=hE1.size;have s2:=hE2.size;have hown:w.ownsRow W.heap.size e 3 v ks.length xs:=j28 h1 (fun g hg=>(hE1.trans hE2).heap g (h1.lt g hg).2);obtain⟨v',w',hr,r1,r2,r3⟩:=q16 (P:=P) w W.heap.size t o.type e i z 3 40 ht hi hz hsize hby hzs (by decide) v ks.length xs hown ⟨gx,0,none⟩ 1 1 [v0,v1,v2] rfl (j59 hgx) (q87 hM) (by unfold maxLen;omega) (by omega) (by omega);obtain⟨g1,g2⟩:=Grow.step h2 h3 (fun g hg=>⟨h4 g hg,(h1.lt g hg).2,(h1.lt g hg).1⟩) h1.1 hW hE1 hM hE2 r1 r2 r3;unfold Oper.wp execOp;simp only[ho,resolve,invoke,builtin,Sem.run_bind,Sem.run_pure,Result.andThen_ok,List.map_toArray,List.map_cons,List.map_nil,hs,hx,hr];exact h v' w' g1 g2
theorem y69{P:Program}(w:World){ops:Array Oper}{rest:List Oper}{o:Oper}{a:Act}{Q:Exit->Act->World->Prop}(hgd:o.guard=none)(s x:Operand)(t:TypeId)
 (ho:o.op= .call {callee:= .builtin .append,args:=#[s,x],argTypes:=#[t,t]})
 (e:TypeId) (i:TypeInfo) (z:Value) (ht:P.underlying t=some (.slice e)) (hi:P.info? e=some i) (hz:i.zero=some z) (hsize:i.size=3) (hby:i.bytes=40) (hzs:z.cells.size=3)
 {W wr w1:World} {v:Value} {ks:List Tr} {tr:Tr} {v0 v1 v2:Value} {gx:Nat} (hs:a.eval s=v) (hG:Grow W wr e v ks) (hW:W.heap.size<=wr.heap.size) (hE1:Ext wr w1) (hM:Made wr w1 e tr (.agg #[v0,v1,v2])) (hE2:Ext w1 w)
 (hx:a.eval x= .slice (some ⟨gx,0,none⟩) 1 1) (hgx:w.heap[gx]? =some (.cells #[v0,v1,v2] e (0,0))) (hn:ks.length < 1099511627776)
 (h: ∀v' w',Grow W w' e v' (ks++ [tr])->Below W.heap.size wr w'->wpList P ops Q rest (a.put o.dst v') w'):wpList P ops Q (o::rest) a w:=
 wpList_plain hgd fun K hK=> y64 w s x t ho e i z ht hi hz hsize hby hzs hs hG hW hE1 hM hE2 hx hgx hn fun v' w' h1 h2=> hK _ _ (h v' w' h1 h2)
theorem y24{P:Program}(w:World){ops:Array Oper}{o:Oper}{a:Act}{K:Act->World->Prop}{Q:Exit->Act->World->Prop}{E:Prop}(hgd:o.guard=none)(s x:Operand)(t:TypeId)
 (ho:o.op= .call {callee:= .builtin .append,args:=#[s,x],argTypes:=#[t,t]})
 (e:TypeId) (i:TypeInfo) (z:Value) (ht:P.underlying t=some (.slice e)) (hi:P.info? e=some i) (hz:i.zero=some z) (hsize:i.size=3) (hby:i.bytes=40) (hzs:z.cells.size=3)
 {W wr w1:World} {v:Value} {ks:List Tr} {tr:Tr} {v0 v1 v2:Value} {gx:Nat} (hs:a.eval s=v) (hG:Grow W wr e v ks) (hW:W.heap.size<=wr.heap.size) (hE1:Ext wr w1) (hM:Made wr w1 e tr (.agg #[v0,v1,v2])) (hE2:Ext w1 w)
 (hx:a.eval x= .slice (some ⟨gx,0,none⟩) 1 1) (hgx:w.heap[gx]? =some (.cells #[v0,v1,v2] e (0,0))) (hn:ks.length < 1099511627776)
 (h: ∀v' w',Grow W w' e v' (ks++ [tr])->Below W.heap.size wr w'->K (a.put o.dst v') w'):
 if Region.wanted o (yielded ops a.tmps)=true then Oper.wp P o a w K Q else E:=by
 have hw:Region.wanted o (yielded ops a.tmps)=true:=by simp[Region.wanted,hgd]
 rw[if_pos hw];exact y64 w s x t ho e i z ht hi hz hsize hby hzs hs hG hW hE1 hM hE2 hx hgx hn h
theorem InL.copy{w:World}{S:Nat->Prop}{b:Nat}: ∀{o:Nat} {ks:List Tr},InL w S b o ks-> ∃news:List Value,news.length=ks.length*3/\(∀j u,news[j]? =some u->w.cell? ⟨b,o+j,none⟩=some u)/\(∀u∈news,u.oneCell'=true)/\
 ∀(w':World) (S':Nat->Prop) (b' o':Nat),(∀x,S x->S' x/\w'.heap[x]? =w.heap[x]?)->(∀j u,news[j]? =some u->w'.cell? ⟨b',o'+j,none⟩=some u)->InL w' S' b' o' ks
 |o, [],_=>⟨[],rfl,(fun j u h=> by simp at h),(fun u h=> by simp at h),(fun _ _ _ _ _ _=> by unfold InL;trivial)⟩
 |o,t::ts,h=> by
  unfold InL at h;obtain⟨⟨v0,v1,v2,c0,c1,c2,ht⟩,hts⟩:=h;obtain⟨news,n1,n2,n3,n4⟩:=InL.copy hts;refine⟨v0::v1::v2::news,by simp[n1];omega,fun j u hu=> ?_,fun u hu=> ?_,fun w' S' b' o' hS hc=> ?_⟩
  · match j,hu with
    |0,hu=> simpa using(by simpa using hu:v0=u)▸c0
    |1,hu=> simpa using(by simpa using hu:v1=u)▸c1
    |2,hu=> simpa using(by simpa using hu:v2=u)▸c2
    |j+3,hu=>
     have:=n2 j u (by simpa using hu)
     rwa [show o+3+j=o+(j+3) by omega] at this
  · obtain⟨k,n,kids⟩:=t
    obtain⟨A,cap,hv,_⟩:=InT.mk_iff.1 ht;simp only[Value.agg.injEq,Array.mk.injEq,List.cons.injEq,and_true] at hv;obtain⟨rfl,rfl,rfl⟩:=hv;simp only[List.mem_cons] at hu;rcases hu with rfl|rfl|rfl|hu
    · rfl
    · rfl
    · rfl
    · exact n3 u hu
  · unfold InL
    refine⟨⟨v0,v1,v2,by simpa using hc 0 v0 rfl,hc 1 v1 rfl,hc 2 v2 rfl,ht.mono (fun x hx=>(hS x hx).1) (fun x hx=>(hS x hx).2)⟩,n4 w' S' b' (o'+3) hS fun j u hu=> ?_⟩;have:=hc (j+3) u (by simpa using hu)
    rwa [show o'+(j+3)=o'+3+j by omega] at this
theorem y81{P:Program}(w:World){ops:Array Oper}{rest:List Oper}{o:Oper}{a:Act}{Q:Exit->Act->World->Prop}(hgd:o.guard=none)(s x:Operand)(t:TypeId)
 (ho:o.op= .call {callee:= .builtin .append,args:=#[s,x],argTypes:=#[t,t]})
 (e:TypeId) (i:TypeInfo) (z:Value) (ht:P.underlying t=some (.slice e)) (hi:P.info? e=some i) (hz:i.zero=some z) (hsize:i.size=3) (hby:i.bytes=40) (hzs:z.cells.size=3)
 {W:World} {v:Value} {A:Option Addr} {cap:Nat} {ks:List Tr} (hs:a.eval s=v) (hown:w.ownsRow W.heap.size e 3 v 0 []) (hE:Ext W w) (hx:a.eval x= .slice A ks.length cap) (hcap:A=none->cap=0) {S:Nat->Prop} (hS: ∀b,S b->b < W.heap.size) (hK:InK W S A ks) (hn:ks.length<=1099511627776)
 (h: ∀B c' w',InK w' (fun b=> S b\/W.heap.size<=b/\b < w'.heap.size) B ks->ks.length<=c'->c'<=maxLen->Ext W w'->(B=none->c'=0)->wpList P ops Q rest (a.put o.dst (.slice B ks.length c')) w'):wpList P ops Q (o::rest) a w:=by
 refine wpList_plain hgd fun K hK'=> ?_
 have key: ∃v' w',(Builtin.append_ #[t,t] o.type #[v,.slice A ks.length cap]).run P w= .ok v' w'/\ ∃B c',v'= .slice B ks.length c'/\InK w' (fun b=> S b\/W.heap.size<=b/\b < w'.heap.size) B ks/\ks.length<=c'/\c'<=maxLen/\Ext W w'/\(B=none->c'=0):=by
  cases A with
  |none=>
   obtain rfl:=hcap rfl;have hnil:ks= []:=by
    rcases hK with h|⟨b,o,h,_⟩
    · exact h
    · cases h
   subst hnil;have hr:=run_append_owned_none (P:=P) w W.heap.size t o.type e i 3 ht hi v 0 [] hown;refine⟨v,w,hr, ?_⟩;rcases hown.2 with⟨rfl,_⟩ |⟨g,c,cur,rfl,_,_,h1,h2,_⟩
   · exact⟨none,0,rfl,.inl rfl,Nat.le_refl _,Nat.zero_le _,hE,fun _=> rfl⟩
   · exact⟨_,c,rfl,.inl rfl,h1,h2,hE,fun h=> by cases h⟩
  |some ad=>
   have hE': ∀w',w.grownBy w' v.ownBlock->Ext W w':=fun w' hg=> hE.grown hg (fun k hk=>(hown.lt k hk).1)
   have hb: ∀(news:List Value),news.length=ks.length*3->(∀j u,news[j]? =some u->w.cell? (ad.add j)=some u)->(∀u∈news,u.oneCell'=true)->
    ∃v' w',(Builtin.append_ #[t,t] o.type #[v,.slice (some ad) ks.length cap]).run P w= .ok v' w'/\Ext W w'/\ ∃B c',v'= .slice B ks.length c'/\ks.length<=c'/\c'<=maxLen/\(B=none->c'=0)/\
     (ks≠ []-> ∃g,B=some ⟨g,0,none⟩/\W.heap.size<=g/\g < w'.heap.size/\ ∀j u,news[j]? =some u->w'.cell? ⟨g,0+j,none⟩=some u):=by
    intro news n1 n2 n3;obtain⟨v',w',hr,r1,r2,r3⟩:=q16 (P:=P) w W.heap.size t o.type e i z 3 40 ht hi hz hsize hby hzs (by decide) v 0 [] hown ad ks.length cap news n1 n2 n3 (by unfold maxLen;omega) (by omega) hE.size;refine⟨v',w',hr,hE' w' r2, ?_⟩;have hc:=fun g hg=> r1.cells (g:=g) hg
    have hlt:=r1.lt;rcases r1.2 with⟨rfl,h0⟩ |⟨g,c,cur,rfl,h5,h6,h1,h2,_⟩
    · exact⟨none,0,by rw[show ks.length=0 by omega],by omega,Nat.zero_le _,fun _=> rfl,fun hne=> absurd (List.eq_nil_of_length_eq_zero (by omega)) hne⟩
    · refine⟨_,c,by rw[Nat.zero_add],by omega,h2,fun h=> by(cases h),fun _=>⟨g,rfl,h5,q10 h6,fun j u hu=> ?_⟩⟩
      have:=hc g rfl j u (by simpa using hu)
      rwa [Addr.add_lit] at this
   rcases hK with rfl|⟨b,o,hab,hb',hl⟩
   · obtain⟨v',w',hr,hx,B,c',q1,q2,q3,q4,_⟩:=hb [] rfl (fun _ _ h=> by cases h) (fun _ h=> by cases h)
     exact⟨v',w',hr,B,c',q1,.inl rfl,q2,q3,hx,q4⟩
   · obtain rfl:=Option.some.inj hab
     obtain⟨news,n1,n2,n3,n4⟩:=hl.copy;obtain⟨v',w',hr,hx,B,c',q1,q2,q3,q4,q5⟩:=hb news n1 (fun j u hu=> by rw[Addr.add_lit];exact hE.cell (n2 j u hu)) n3;refine⟨v',w',hr,B,c',q1, ?_,q2,q3,hx,q4⟩;by_cases hne:ks= []
     · exact .inl hne
     · obtain⟨g,rfl,hg0,hg,hcell⟩:=q5 hne
       exact .inr ⟨g,0,rfl,.inr ⟨hg0,hg⟩,n4 w' _ g 0 (fun x hxx=>⟨.inl hxx,hx.heap x (hS x hxx)⟩) hcell⟩
 obtain⟨v',w',hr,B,c',rfl,r1,r2,r3,r4,r5⟩:=key;unfold Oper.wp execOp;simp only[ho,resolve,invoke,builtin,Sem.run_bind,Sem.run_pure,Result.andThen_ok,List.map_toArray,List.map_cons,List.map_nil,hs,hx,hr];exact hK' _ _ (h B c' w' r1 r2 r3 r4 r5)
def q124(t:Tr):Prop:= ∀(w:World) (t':Tr) (v v':Value),Lies w t v->Lies w t' v'->
 Calls Tryz.prog 17 #[v,v'] w fun e w'=> e= .returned (.bool (eqTr t t'))/\Ext w w'
theorem j178(ks ks':List Tr)(hk: ∀t∈ks,q124 t)(w:World)(A A':Option Addr)(cap cap':Nat)(h:y16 w A ks)(hl:ks.length<=cap)(hc:cap<=maxLen)(h':y16 w A' ks')(hl':ks'.length<=cap')(hc':cap'<=maxLen):
 Calls Tryz.prog 66 #[.slice A ks.length cap,.slice A' ks'.length cap',.func (.func 17) #[] #[]] w fun e w'=> e= .returned (.bool (eqTs ks ks'))/\Ext w w':=by
 unfold maxLen at hc hc';by_cases h0:ks.length=ks'.length
 · have hd:((ks.length:Int) !=(ks'.length:Int))=false:=by rw[h0];simp
   have H0:=hdq h0;clear h0;go_enter Tryz.func66,Tryz.ntmps66;go_wp2_with fail
   go_loopw [17] (fun i wr=> ∃j:Nat,j<=ks.length/\i= .int .i64 j/\eqTs ks ks'=eqTs (ks.drop j) (ks'.drop j)/\Ext w wr) (fun i _=> ks.length -(intOf i).toNat)
   case atStart=> exact⟨0,Nat.zero_le _,rfl,rfl,xr _⟩
   case round=>
    obtain⟨j,hj,rfl,hsz,hb⟩:=hrel;have HS:=hdq hsz;clear hsz;by_cases hlt:j < ks.length
    · have hlt':j < ks'.length:=by rw[<-H0.out];exact hlt
      obtain⟨b,o,k,n,B,c,kids,rfl,HK,c0,c1,c2,hkl,hkc,hK,hin,hmem⟩:=h.get hb hlt;obtain⟨b',o',k',n',B',c',kids',rfl,HK',c0',c1',c2',hkl',hkc',hK',hin',hmem'⟩:=h'.get hb hlt';have hlb:=World.block_lt_of_cell? _ _ c0';have hstep:eqTs (ks.drop j) (ks'.drop j)=(eqTr (.mk k n kids) (.mk k' n' kids')&& eqTs (ks.drop (j+1)) (ks'.drop (j+1))):=by
       rw[List.drop_eq_getElem_cons hlt,List.drop_eq_getElem_cons hlt',HK.out,HK'.out]
       conv=> lhs;unfold eqTs
      have HST:=hdq hstep;clear hstep;go_wp2_with fail;refine(hk _ hmem _ (.mk k' n' kids') _ _ (hin.ext (((xr wr).alloc _).alloc _)) (hin'.ext (((xr wr).alloc _).alloc _))).mono ?_;rintro e w1 ⟨rfl,hb1⟩;have hb2:=hb.trans hb1.pre.pre;generalize eqTr (.mk k n kids) (.mk k' n' kids')=q at HST;cases q with
      |false=>
       go_wp2_with fail;go_ret;exact⟨by rw[HS.out,HST.out];rfl,hb2⟩
      |true=>
       go_wp2_with fail
       go_roundw
       case rel=> exact⟨j+1,by omega,by go_num,by rw[HS.out,HST.out];rfl,hb2⟩
       case measure=> simp[intOf];omega
    · go_wp2_with fail
      go_ret;exact⟨by rw[HS.out,List.drop_of_length_le (by omega),List.drop_of_length_le (by rw[<-H0.out];omega)];rfl,hb⟩
 · have hd:((ks.length:Int) !=(ks'.length:Int))=true:=by rw[bne_iff_ne];omega
   have e:eqTs ks ks'=false:=by
    rw[Bool.eq_false_iff];intro he;exact h0 (j149 he)
   have E:=hdq e;clear e;go_enter Tryz.func66,Tryz.ntmps66;go_wp2_with fail;go_ret;exact⟨by rw[E.out];rfl,xr _⟩
theorem j54: ∀t:Tr,q124 t:=Tr.ind fun k n ks hk=> by
 intro w t' v v' h h';obtain⟨A,cap,rfl,hl,hc,hK⟩:=Lies.mk_iff.1 h;obtain⟨k',n',ks'⟩:=t';obtain⟨A',cap',rfl,hl',hc',hK'⟩:=Lies.mk_iff.1 h';clear h h';have HW:=fun W (hW:Ext w W)=> j178 ks ks' hk W A A' cap cap' (hK.ext hW) hl hc (hK'.ext hW) hl' hc'
 have HS:=hdq HW;clear HW;by_cases h1:k=k'
 · by_cases h2:n=n'
   · have e:eqTr (.mk k n ks) (.mk k' n' ks')=eqTs ks ks':=by simp[eqTr,h1,h2]
     have E:=hdq e;have d1:(k==k')=true:=by simp[h1]
     have d2:(n==n')=true:=by simp[h2]
     clear e h1 h2;go_enter Tryz.func17,Tryz.ntmps17;go_wp2_with fail;refine(HS.out _ (((xr w).alloc _).alloc _)).mono ?_;rintro e w1 ⟨rfl,hE⟩;go_wp2_with fail;go_ret;exact⟨by rw[E.out];rfl,hE.pre.pre⟩
   · have e:eqTr (.mk k n ks) (.mk k' n' ks')=false:=by simp[eqTr,h2]
     have E:=hdq e;have d1:(k==k')=true:=by simp[h1]
     have d2:(n==n')=false:=by simpa using h2
     clear e h1 h2;go_enter Tryz.func17,Tryz.ntmps17;go_wp2_with fail;go_ret;exact⟨by rw[E.out];rfl,((xr w).alloc _).alloc _⟩
 · have e:eqTr (.mk k n ks) (.mk k' n' ks')=false:=by simp[eqTr,h1]
   have E:=hdq e;have d1:(k==k')=false:=by simpa using h1
   clear e h1;go_enter Tryz.func17,Tryz.ntmps17;go_wp2_with fail;go_ret;exact⟨by rw[E.out];rfl,((xr w).alloc _).alloc _⟩
end Go.Proofs.YtdkamgafpphdjaaGreat
namespace Go.Proofs.YtdkamgafpphdjaaGreat.OrdX
open Go Go.Proofs.YtdkamgafpphdjaaGreat.Ord Go.Proofs.YtdkamgafpphdjaaGreat.OrdG
set_option linter.unusedVariables false
def okX(ops:Array Oper)(l:Array Bool)(m N x:Nat):Bool:=
 ((List.range m).all fun i=> isOn l i||match dstOf ops i with
  |some d=> decide (d < N)&&(List.range i).all fun j=> isOn l j||dstOf ops j !=some d
  |none=> false)&&
 (List.range (ops.size - m)).all (fun i=> isOn l (m+i) ||(List.range m).all fun j=> j==x||isOn l j||q100 ops ops.size (m+i) j)&&
 (List.range ops.size).all (fun i=>(j37 ops i).all fun k=> decide (k < i)&&(!isOn l i||isOn l k))&& decide (m<=ops.size)&& decide (l.size=ops.size)
def okD(ops:Array Oper)(l:Array Bool)(m N:Nat):Bool:=
 (List.range m).all fun i=> isOn l i||match dstOf ops i with
  |some d=> decide (d < N)&&(List.range i).all fun j=> isOn l j||dstOf ops j !=some d
  |none=> false
section
variable {Γ : Type} {P : Program} {ops : Array Oper} {Q : Exit → Act → World → Prop} {l0 : Array Bool} {m : Nat} {E : World × Γ → World × Γ → Prop} {G : Nat → Value → World × Γ → Prop} {a0 : Act} {w0 : World × Γ}
theorem y93{N:Nat}(h:okD ops l0 m N=true){i:Nat}(hi:i < m)(hl:isOn l0 i=false): ∃d,dstOf ops i=some d/\d < N/\ ∀j,j < i->isOn l0 j=false->dstOf ops j≠some d:=by
 unfold okD at h;simp only[List.all_eq_true,List.mem_range] at h;have:=h i hi;rw[hl,Bool.false_or] at this
 split at this
 · rename_i d hd
   simp only[Bool.and_eq_true,decide_eq_true_eq,List.all_eq_true,List.mem_range,bne_iff_ne,Bool.or_eq_true] at this;refine⟨d,hd,this.1,fun j hj hjl=>(this.2 j hj).resolve_left (by rw[hjl];decide)⟩
 · cases this
theorem y173{N:Nat}(h:okD ops l0 m N=true){i j:Nat}(hi:i < m)(hj:j < m)(li:isOn l0 i=false)(lj:isOn l0 j=false)(hne:i≠j){d:Tmp}(hd:dstOf ops i=some d):dstOf ops j≠some d:=by
 rcases Nat.lt_or_gt_of_ne hne with hlt|hlt
 · intro e
   obtain⟨d',h1,-,h2⟩:=y93 h hj lj;rw[e] at h1;simp only[Option.some.injEq] at h1;subst h1;exact h2 i hlt li hd
 · obtain⟨d',h1,-,h2⟩:=y93 h hi li
   rw[hd] at h1;simp only[Option.some.injEq] at h1;subst h1;exact h2 j hlt lj
theorem q47{N:Nat}(h:okD ops l0 m N=true){v:Nat->Value}{s:Nat->Bool}(a:Act)(hsl: ∀j,s j=true->isOn l0 j=false){i:Nat}(hs:s i=false)(hi0:isOn l0 i=false)(u:Value): ∀{n:Nat},i < n->n<=m->
 putN ops (fun j=> if j=i then u else v j) (fun j=> if j=i then true else s j) a n=(putN ops v s a n).put (dstOf ops i) u
 |0,hi,_=> by omega
 |n+1,hi,hn=> by
  by_cases e:n=i
  · subst e
    have e1:(if n=n then true else s n)=true:=if_pos rfl;have e2: ¬s n=true:=by rw[hs];decide
    have e3:(if n=n then u else v n)=u:=if_pos rfl;unfold putN;rw[if_pos e1,if_neg e2,e3];rw[j24 a (v:=fun j=> if j=n then u else v j) (s:=fun j=> if j=n then true else s j) (v':=v) (s':=s) (fun j hj=>⟨by rw[if_neg (by omega)],fun _=> by rw[if_neg (by omega)]⟩)]
  · have ih:=q47 h (v:=v) a hsl hs hi0 u (n:=n) (by omega) (by omega)
    unfold putN;rw[if_neg e,if_neg e,ih]
    split
    · rename_i hsn
      rw[Act.put_comm];intro d hd;exact y173 h (by omega) (by omega) hi0 (hsl n hsn) (Ne.symm e) hd
    · rfl
theorem y47{N:Nat}(h:okD ops l0 m N=true)(v:Nat->Value)(s:Nat->Bool)(hsl: ∀j,s j=true->isOn l0 j=false)(a:Act)(hN:a.tmps.size=N){k:Nat}{d:Tmp}(hd:dstOf ops k=some d)(hk:s k=true): ∀{n:Nat},k < n->n<=m->(putN ops v s a n).eval (.tmp d)=v k
 |0,hi,_=> by omega
 |n+1,hi,hn=> by
  by_cases e:n=k
  · subst e
    unfold putN;rw[if_pos hk,hd,y78,if_pos rfl,if_pos];rw[q79,hN];obtain⟨d',h1,h2,-⟩:=y93 h (i:=n) (by omega) (hsl _ hk);rw[hd] at h1;simp only[Option.some.injEq] at h1;subst h1;exact h2
  · have ih:=y47 h v s hsl a hN hd hk (n:=n) (by omega) (by omega)
    unfold putN
    split
    · rename_i hsn
      cases hd':dstOf ops n with
      |none=> exact ih
      |some d'=>
       rw[y78,if_neg,ih];intro e';subst e';exact y173 h (by omega) (by omega) (hsl _ hk) (hsl _ hsn) (Ne.symm e) hd hd'
    · exact ih
theorem wpAnyH_orderX{S:World->Prop}{N fuel fT x:Nat}{lT lX:Array Bool}{ox:Oper}(hok1:okX ops l0 m N x=true)(hN:a0.tmps.size=N)(hf:fuel=opnO l0 ops.size)(hlT:doneO l0 m=lT)(hfT:opnO lT ops.size=fT)
 (hox:ops[x]? =some ox) (hxm:x < m) (hxl:isOn l0 x=false) (hlX:lT.setIfInBounds x false=lX) (hns:Region.noSelect ops=true) (hfr:Region.free .any ops lX x=true) (hrd:(Region.ready .any ops lX).contains x=true)
 (hQ: ∀v c a w,Q (.panic c) (a.put ox.dst v) w->Q (.panic c) a w)
 (hX: ∀a w z,E w0 (w,z)->(∀t,isDst ops l0 m t=false->a.eval (.tmp t)=a0.eval (.tmp t))->(∀j d,depO ops l0 x j d=true->G j (a.eval (.tmp d)) (w,z))-> ∃u,YieldsIf P ops S ox u a/\G x u (w,z))
 (hE0:E w0 w0) (hE: ∀u v w,E u v->E v w->E u w) (hG: ∀i v w w',G i v w->E w w'->G i v w') (hS: ∀w z,E w0 (w,z)->S w)
 (steps:StepsO P ops Q l0 m E G a0 w0 0 (ops.toList.take m))
 (fin: ∀(v:Nat->Value) w z,E w0 (w,z)->(∀j,j < m->isOn l0 j=false->G j (v j) (w,z))->wpAnyH P .any ops Q S fT lT (putN ops v (fun j=> !isOn l0 j) a0 m) w):
 wpAnyH P .any ops Q S fuel l0 a0 w0.1:=by
 subst hlX;subst hlT;subst hfT;have hok2:=hok1;unfold okX at hok2;simp only[Bool.and_eq_true,decide_eq_true_eq,List.all_eq_true,List.mem_range,Bool.or_eq_true,Bool.not_eq_true'] at hok2;obtain⟨⟨⟨⟨-,hupb⟩,hlowb⟩,hm⟩,hlsz⟩:=hok2;have hok:okD ops l0 m N=true:=by
  unfold okX at hok1;simp only[Bool.and_eq_true] at hok1;exact hok1.1.1.1.1
 have hlow: ∀i,i < ops.size-> ∀k∈j37 ops i,k < i:=fun i hi k hk=>(hlowb i hi k hk).1
 have hdn0: ∀i,isOn l0 i=true-> ∀k∈j37 ops i,isOn l0 k=true:=fun i hl k hk=> by
  by_cases hi:i < ops.size
  · exact(hlowb i hi k hk).2.resolve_left (by rw[hl];decide)
  · unfold j37 at hk
    rw[show ops[i]? =none from Array.getElem?_eq_none (by omega)] at hk;simp at hk
 have hup: ∀i,m<=i->i < ops.size->isOn l0 i=false-> ∀j,j < m->j≠x->isOn l0 j=false->q100 ops ops.size i j=true:=fun i h1 h2 hi j hj hjx hl=> by
  have:=hupb (i - m) (by omega);rw[show m+(i - m)=i by omega] at this;have:=this.resolve_left (by rw[hi];decide) j hj;exact this.resolve_left (fun h=> h.elim (fun h=> hjx (by simpa using h)) (fun h=> by rw[hl] at h;cases h))
 have hsl: ∀listed:Array Bool,∀j,(isOn listed j && !isOn l0 j)=true->isOn l0 j=false:=fun listed j h=> by
  simp only[Bool.and_eq_true,Bool.not_eq_true'] at h;exact h.2
 have main: ∀(fuel:Nat) (listed:Array Bool) (a:Act) (w:World) (z:Γ) (v:Nat->Value),listed.size=ops.size->(∀i,m<=i->isOn listed i=isOn l0 i)->(∀i,isOn l0 i=true->isOn listed i=true)->
  (∀i,isOn listed i=true-> ∀k∈j37 ops i,isOn listed k=true)->a=putN ops v (fun j=> isOn listed j && !isOn l0 j) a0 m->(∀j,j < m->isOn listed j=true->isOn l0 j=false->G j (v j) (w,z))->E w0 (w,z)->
  fuel=opnO listed ops.size->wpAnyH P .any ops Q S fuel listed a w:=by
  intro fuel;have done: ∀(fuel:Nat) (listed:Array Bool) (a:Act) (w:World) (z:Γ) (v:Nat->Value),listed.size=ops.size->(∀i,m<=i->isOn listed i=isOn l0 i)->a=putN ops v (fun j=> isOn listed j && !isOn l0 j) a0 m->(∀j,j < m->isOn listed j=true->isOn l0 j=false->G j (v j) (w,z))->E w0 (w,z)->
   fuel=opnO listed ops.size->(∀j,j < m->isOn listed j=true)->wpAnyH P .any ops Q S fuel listed a w:=by
   intro fuel listed a w z v hsz h1 ha hg he hf hall;have hl:listed=doneO l0 m:=by
    apply Array.ext
    · simp[doneO,hsz,hlsz]
    · intro i hi1 hi2
      have e1:isOn listed i=listed[i]:=by simp[isOn,Array.getD_eq_getD_getElem?,hi1]
      have e2:(doneO l0 m)[i]=(decide (i < m) ||isOn l0 i):=by simp[doneO]
      rw[<-e1,e2];by_cases hi:i < m
      · rw[hall i hi];simp[hi]
      · rw[h1 i (by omega)];simp[hi]
   subst hl;subst ha;subst hf;rw[j24 (v':=v) (s':=fun j=> !isOn l0 j) a0 (fun j hj=>⟨by rw[hall j hj,Bool.true_and],fun _=> rfl⟩)];exact fin v w z he (fun j hj hl=> hg j hj (hall j hj) hl)
  induction fuel with
  |zero=>
   intro listed a w z v hsz h1 hmo h2 ha hg he hf;refine done 0 listed a w z v hsz h1 ha hg he hf fun j hj=> ?_
   have: ∀n,opnO listed n=0-> ∀j,j < n->isOn listed j=true:=by
    intro n
    induction n with
    |zero=> intro _ j hj;omega
    |succ n ih=>
     intro h j hj;unfold opnO at h;by_cases e:j=n
     · subst e
       split at h
       · assumption
       · omega
     · exact ih (by omega) j (by omega)
   exact this ops.size hf.symm j (by omega)
  |succ fuel ih=>
   intro listed a w z v hsz h1 hmo h2 ha hg he hf;by_cases hall: ∀j,j < m->isOn listed j=true
   · exact done _ listed a w z v hsz h1 ha hg he hf hall
   by_cases hallx: ∀j,j < m->j≠x->isOn listed j=true
   · have hxo:isOn listed x=false:=by
      cases hp:isOn listed x with
      |false=> rfl
      |true=> exact absurd (fun j hj=> if e:j=x then e▸hp else hallx j hj e) hall
     have hl:listed=(doneO l0 m).setIfInBounds x false:=by
      apply Array.ext
      · simp[doneO,hsz,hlsz]
      · intro i hi1 hi2
        have e1:isOn listed i=listed[i]:=by simp[isOn,Array.getD_eq_getD_getElem?,hi1]
        have hi3:i <(doneO l0 m).size:=by simpa using hi2
        have e2:(doneO l0 m)[i]=(decide (i < m) ||isOn l0 i):=by simp[doneO]
        rw[<-e1];by_cases e:i=x
        · subst e
          rw[hxo];simp
        · rw[Array.getElem_setIfInBounds_ne hi3 (Ne.symm e),e2]
          by_cases hi:i < m
          · rw[hallx i hi e];simp[hi]
          · rw[h1 i (by omega)];simp[hi]
     have hset:listed.setIfInBounds x true=doneO l0 m:=by
      rw[hl]
      apply Array.ext
      · simp
      · intro i hi1 hi2
        have e2:(doneO l0 m)[i]=(decide (i < m) ||isOn l0 i):=by simp[doneO]
        by_cases e:i=x
        · subst e
          rw[e2];simp[hxm]
        · rw[Array.getElem_setIfInBounds_ne (by simpa using hi1) (Ne.symm e),Array.getElem_setIfInBounds_ne hi2 (Ne.symm e)]
     have hd:(dstOf ops x)=ox.dst:=by unfold dstOf;rw[hox];rfl
     have hsx:(isOn listed x && !isOn l0 x)=false:=by rw[hxo];rfl
     obtain⟨u,hy,hgx⟩:=hX a w z he (by
      intro t ht;rw[ha,q58];intro j hj hs e;unfold isDst at ht;rw[List.any_eq_false] at ht;refine ht j (List.mem_range.2 hj) ?_;rw[hsl listed j hs,e];simp) (by
      intro j d hjd;unfold depO at hjd;simp only[Bool.and_eq_true,beq_iff_eq,List.contains_iff_mem,Bool.not_eq_true'] at hjd;have hji:=hlow x (by omega) j hjd.1.1;have hjl:=hallx j (by omega) (by omega);rw[ha,y47 hok v _ (hsl listed) a0 hN hjd.1.2 (by rw[hjl,hjd.2];rfl) (by omega) (Nat.le_refl _)];exact hg j (by omega) hjl hjd.2)
     have hfu:fuel=opnO (doneO l0 m) ops.size:=by
      have:=j100 (l:=listed) (l':=listed.setIfInBounds x true) (i:=x) hxo (by
       unfold isOn;simp[Array.getD_eq_getD_getElem?,show x < listed.size by omega]) (fun j hj=> by
       unfold isOn;simp[Array.getD_eq_getD_getElem?,Array.getElem?_setIfInBounds_ne (Ne.symm hj)]) (n:=ops.size)
      rw[if_pos (by omega),hset] at this;omega
     refine wpAnyH_take (v:=u) hox hns (hl▸hfr) (hl▸hrd) (hQ u) hy (hS _ _ he) ?_;rw[hset,hfu,ha,<-hd,<-q47 hok (s:=fun j=> isOn listed j && !isOn l0 j) a0 (hsl listed) hsx hxl u hxm (Nat.le_refl _)];rw[j24 (v':=fun j=> if j=x then u else v j) (s':=fun j=> !isOn l0 j) a0 (fun j hj=>⟨by
      by_cases e:j=x
      · simp only[if_pos e];rw[e,hxl];rfl
      · simp only[if_neg e];rw[hallx j hj e,Bool.true_and],fun _=> rfl⟩)]
     refine fin _ w z he fun j hj hjl=> ?_
     by_cases e:j=x
     · simp only[if_pos e];rw[e];exact hgx
     · simp only[if_neg e];exact hg j hj (hallx j hj e) hjl
   · obtain⟨j1,hj11,hj12,hj13⟩:=q217 (p:=isOn listed) (n:=m) (by
      apply Classical.byContradiction
      intro h;exact hall fun j hj=> by
       cases hp:isOn listed j with
       |true=> rfl
       |false=> exact absurd ⟨j,hj,hp⟩ h)
     obtain⟨j0,hj0,hjx,hj1⟩: ∃j,j < m/\j≠x/\isOn listed j=false:=by
      apply Classical.byContradiction
      intro h;exact hallx fun j hj hjx=> by
       cases hp:isOn listed j with
       |true=> rfl
       |false=> exact absurd ⟨j,hj,hjx,hp⟩ h
     have gt: ∀i,i < ops.size->listed.getD i true=isOn listed i:=fun i hi=> by
      simp[isOn,Array.getD_eq_getD_getElem?,show i < listed.size by omega]
     refine⟨fun h0=> ?_,fun i hi=> ?_⟩
     · have hr:j1∈Region.ready .any ops listed:=q119 (by omega) (by rw[gt _ (by omega)];exact hj12) (fun k hk=> hj13 k (hlow j1 (by omega) k hk))
       rw[h0] at hr;cases hr
     · obtain⟨r1,⟨o,ho⟩,r3⟩:=q66 hi
       have hin:i < ops.size:=(Array.getElem?_eq_some_iff.1 ho).1;have hi0:isOn listed i=false:=by rw[<-gt i hin];exact r1
       have hil:isOn l0 i=false:=by
        cases hp:isOn l0 i with
        |false=> rfl
        |true=> rw[hmo i hp] at hi0;cases hi0
       have hj0l:isOn l0 j0=false:=by
        cases hp:isOn l0 j0 with
        |false=> rfl
        |true=> rw[hmo j0 hp] at hj1;cases hj1
       have him:i < m:=by
        apply Classical.byContradiction
        intro hge;have:=q40 (l:=isOn listed) h2 ops.size i j0 r3 (hup i (by omega) hin hil j0 hj0 hjx hj0l);rw[hj1] at this;cases this
       have hst:=StepsO.get (j:=i) steps (by rw[List.getElem?_take,if_pos him];simpa using ho);rw[Nat.zero_add] at hst;have hst:=hst.resolve_left (by rw[hil];decide);have hd:(dstOf ops i)=o.dst:=by unfold dstOf;rw[ho];rfl
       have hsi:(isOn listed i && !isOn l0 i)=false:=by rw[hi0];rfl
       refine wpOp_mono ?_ (hst a w z he ?_ ?_)
       · rintro a' w' ⟨u,z',rfl,he',hg'⟩
         have hset: ∀j,isOn (listed.setIfInBounds i true) j=if j=i then true else isOn listed j:=fun j=> by
          unfold isOn;by_cases e:j=i
          · subst e
            rw[if_pos rfl];simp[Array.getD_eq_getD_getElem?,show j < listed.size by omega]
          · rw[if_neg e]
            simp[Array.getD_eq_getD_getElem?,Array.getElem?_setIfInBounds_ne (Ne.symm e)]
         refine⟨hS _ _ (hE _ _ _ he he'),ih (listed.setIfInBounds i true) _ w' z' (fun j=> if j=i then u else v j) (by simpa using hsz) ?_ ?_ ?_ ?_ ?_ (hE _ _ _ he he') ?_⟩
         · intro j hj
           rw[hset,if_neg (by omega)];exact h1 j hj
         · intro j hj
           rw[hset]
           split
           · rfl
           · exact hmo j hj
         · intro j hj k hk
           rw[hset] at hj⊢;by_cases e:k=i
           · rw[if_pos e]
           · rw[if_neg e]
             by_cases e2:j=i
             · subst e2;exact r3 k hk
             · rw[if_neg e2] at hj
               exact h2 j hj k hk
         · rw[ha,<-hd,<-q47 hok (s:=fun j=> isOn listed j && !isOn l0 j) a0 (hsl listed) hsi hil u him (Nat.le_refl _)]
           refine j24 a0 (fun j hj=>⟨?_,fun _=> rfl⟩);simp only[hset];by_cases e:j=i
           · rw[if_pos e,if_pos e,e,hil];rfl
           · rw[if_neg e,if_neg e]
         · intro j hj hl hjl
           by_cases e:j=i
           · simp only[if_pos e];rw[e];exact hg'
           · simp only[if_neg e]
             rw[hset,if_neg e] at hl;exact hG _ _ _ _ (hg j hj hl hjl) he'
         · have:=j100 (l:=listed) (l':=listed.setIfInBounds i true) (i:=i) hi0 (by rw[hset,if_pos rfl]) (fun j hj=> by rw[hset,if_neg hj]) (n:=ops.size)
           rw[if_pos hin] at this;omega
       · intro t ht
         rw[ha,q58];intro j hj hs e;unfold isDst at ht;rw[List.any_eq_false] at ht;refine ht j (List.mem_range.2 hj) ?_;rw[hsl listed j hs,e];simp
       · intro j d hjd
         unfold depO at hjd;simp only[Bool.and_eq_true,beq_iff_eq,List.contains_iff_mem,Bool.not_eq_true'] at hjd;have hjl:=r3 j hjd.1.1;have hji:=hlow i hin j hjd.1.1;rw[ha,y47 hok v _ (hsl listed) a0 hN hjd.1.2 (by rw[hjl,hjd.2];rfl) (by omega) (Nat.le_refl _)];exact hg j (by omega) hjl hjd.2
 refine main fuel l0 a0 w0.1 w0.2 (fun _=> undef) hlsz (fun _ _=> rfl) (fun _ h=> h) hdn0 ?_ ?_ hE0 hf
 · have: ∀n,putN ops (fun _=> undef) (fun j=> isOn l0 j && !isOn l0 j) a0 n=a0:=fun n=> by
    induction n with
    |zero=> rfl
    |succ n ih=>
     unfold putN;rw[if_neg,ih];simp
   exact(this m).symm
 · intro j hj hl hl2
   rw[hl] at hl2;cases hl2
end
end Go.Proofs.YtdkamgafpphdjaaGreat.OrdX
