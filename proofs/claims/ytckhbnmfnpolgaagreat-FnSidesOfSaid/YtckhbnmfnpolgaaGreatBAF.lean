/-
  Lemmas towards the law, 6: Grow, Text, Later, Same, Fits, Bound, WalkValid, Node, Grow2.
-/
import Derived.Test.YtckhbnmfnpolgaaGreatBAE
import Derived.BigQuiet
import Derived.Deep.RegionHeld3
import Derived.Deep.RegionWith
import Derived.Laws.AppendOwn
import Derived.Outline
import Derived.OwnWalk
import Derived.StillTailTactics
import Derived.Test.YtckhbnmfnpolgaaGreatProg
open Go renaming Program->eP,World->aK,TypeId->aY,TypeInfo->iQ,Value->aS,maxLen->aU,Operand->jK,Calls->aV,bodyPost_ret->aO
open Nat renaming zero_add->eV,le_refl->aM,zero_le->bT
open List renaming eq_nil_of_length_eq_zero->aZ,map_toArray->fX,map_cons->gM,map_nil->iM,drop_eq_getElem_cons->bX,drop_of_length_le->cR
open Go.Sem renaming run_bind->iK,run_pure->iL
open Go.Result renaming andThen_ok->fR
open Go.Region renaming wanted->eL
open Go.World renaming block_lt_of_cell?->bR,size_setCell->eT
open Go.Proofs.Tryz
set_option linter.unusedVariables false
set_option maxHeartbeats 400000
set_option maxRecDepth 100000
namespace Go.Proofs.YtckhbnmfnpolgaaGreat
open Go.RowKit
theorem Mn{P:eP}(w:aK)(base:Nat)(t ty e:aY)(i:iQ)(z:aS)(size bytes:Nat)(ht:P.underlying t=some (.slice e))(hi:P.info? e=some i)(D:i.zero=some z)
 (b:i.size=size) (q:i.bytes=bytes) (H:z.cells.size=size) (I:0 < size)
 (v:aS) (n:Nat) (r:List aS) (k:w.ownsRow base e size v n r)
 (a:Addr) (m c:Nat) (news:List aS) (hl:news.length=m*size) (d: ∀j u,news[j]? =some u->w.cell? (a.add j)=some u) (J: ∀u∈news,u.oneCell'=true)
 (p:n+m<=aU) (f:(n+m)*bytes<=140737488355328) (o:base<=w.heap.size):
 ∃A B,(Builtin.append_ #[t,t] ty #[v,.slice (some a) m c]).run P w= .ok A B/\B.ownsRow base e size A (n+m) (r++news)/\w.grownBy B v.ownBlock/\
  (∀g,A.ownBlock=some g->v.ownBlock=some g\/w.heap.size<=g):=by
 obtain⟨A,B,hr,O,Q,M⟩:=run_append_own (P:=P) w base t ty e i z size bytes ht hi D b q H I v n r k a m c news hl d J p f o;refine⟨A,B,hr,O,Q,fun g x=> ?_⟩;rcases k.2 with⟨rfl,rfl⟩ |⟨C,cap,y,rfl,_,E,S,N,F,G⟩
 · by_cases hm:m=0
   · rw[M.2 ⟨rfl,hm⟩] at x
     cases x
   · have K:m<=9223372036854775807:=by simp only[aU] at p;omega
     have s:=run_append_nil (P:=P) w t ty e i z ht hi D a m c news (by rw[hl,b]) d (by omega) (by omega) (by rw[q];have R:=f;simp only[eV] at R;omega);rw[s] at hr;cases hr
     simp only[Value.ownBlock,Option.some.injEq] at x;exact .inr (by omega)
 · by_cases l:n+m<=cap
   · have L:n*i.size+news.length<=y.size:=by rw[hl,F,b,<-Nat.add_mul];exact Nat.mul_le_mul_right _ l
     have s:=run_append_room (P:=P) w t ty e i ht hi C n cap y E a m c news (by rw[hl,b]) d J l L;rw[s] at hr;cases hr
     exact .inl x
   · have K:n+m<=9223372036854775807:=by simp only[aU] at p;omega
     have holds: ∀j u,r[j]? =some u->w.cell? ((⟨C,0,none⟩:Addr).add j)=some u:=k.cells (g:=C) rfl;have s:=run_append_grow (P:=P) w t ty e i z ht hi D ⟨C,0,none⟩ n cap r (by rw[k.1,b]) holds a m c news (by rw[hl,b]) d (by omega) (by omega) (by rw[q];exact growslice_fits (by omega) f);rw[s] at hr;cases hr
     simp only[Value.ownBlock,Option.some.injEq] at x;exact .inr (by omega)
def N4(W w:aK)(e:aY)(v:aS)(b:List Tr):Prop:=
 ∃a L,w.ownsRow W.heap.size e 3 v b.length a/\B2 w e a b L/\Wc W w L/\ ∀g,v.ownBlock=some g-> ¬g∈L
theorem N4.nil(W w:aK)(e:aY):N4 W w e (.slice none 0 0) []:=
 ⟨[], [],World.ownsRow_nil _ _ _ _,B2.nil,Wc.nil _ _,fun _ _ h=> by cases h⟩
theorem Yv{w c:aK}{base:Nat}{e:aY}{v:aS}{n:Nat}{b:List aS}(h:w.ownsRow base e 3 v n b)(f: ∀g,v.ownBlock=some g->c.heap[g]? =w.heap[g]?):c.ownsRow base e 3 v n b:=by
 refine⟨h.1, ?_⟩;rcases h.2 with h|⟨g,cap,a,rfl,d,i,r⟩
 · exact .inl h
 · exact .inr ⟨g,cap,a,rfl,d,(f g rfl).trans i,r⟩
theorem N4.same{W w d:aK}{e:aY}{v:aS}{j:List Tr}(h:N4 W w e v j)(hs:w.heap.size<=d.heap.size)(i: ∀b,W.heap.size<=b->b < w.heap.size->d.heap[b]? =w.heap[b]?):N4 W d e v j:=by
 obtain⟨k,L,a,m,c,l⟩:=h;exact⟨k,L,Yv a (fun g f=> i g (a.lt g f).1 (a.lt g f).2),m.mono (fun b hm=> i b (c.2 b hm).1 (c.2 b hm).2),c.mono (aM _) hs,l⟩
theorem N4.ext{W w a:aK}{e:aY}{v:aS}{ks:List Tr}(h:N4 W w e v ks)(c:Ext w a):N4 W a e v ks:=h.same c.size (fun b _ d=> c.heap b d)
theorem N4.after{W w c:aK}{e:aY}{v:aS}{d:List Tr}(h:N4 W w e v d)(a:pa W.heap.size w c):N4 W c e v d:=h.same a.2 (fun b f _=> a.1 b f)
theorem N4.made{W w:aK}{e:aY}{v:aS}{a:List Tr}(h:N4 W w e v a): ∃A cap,v= .slice A a.length cap/\a.length<=cap/\cap<=aU/\Xc W w e A a:=by
 obtain⟨q,L,k,o,i,m⟩:=h;rcases k.2 with⟨rfl,j⟩ |⟨g,cap,c,rfl,p,f,l,d,n,ht⟩
 · have:a= []:=aZ j
   subst this;exact⟨none,0,rfl,aM _,bT _,Xc.nil _ _ _ _⟩
 · refine⟨_,cap,rfl,l,d,g::L,.inr ⟨g,c,L,rfl,f,rfl, ?_⟩,List.nodup_cons.2 ⟨m g rfl,i.1⟩,fun b hm=> ?_⟩
   · have:=B2.tail (c.toList.drop (a.length*3)) o
     rw[<-ht,List.take_append_drop] at this;exact this
   · rcases List.mem_cons.1 hm with rfl|hm
     · exact⟨p,O1 f⟩
     · exact i.2 b hm
theorem lJ{w b:aK}{e:aY}{t:Tr}{v0 v1 v2:aS}(h:P0 w b e t (.agg #[v0,v1,v2])): ∀u∈ [v0,v1,v2],u.oneCell'=true:=by
 obtain⟨k,n,c⟩:=t;obtain⟨A,cap,hv,_⟩:=P0.mk_iff.1 h;simp only[Value.agg.injEq,Array.mk.injEq,List.cons.injEq,and_true] at hv;obtain⟨rfl,rfl,rfl⟩:=hv;intro u a;simp only[List.mem_cons,List.not_mem_nil,or_false] at a;rcases a with rfl|rfl|rfl <;> rfl
theorem wD{w:aK}{g:Nat}{v0 v1 v2:aS}{e:aY}(h:w.heap[g]? =some (.cells #[v0,v1,v2] e (0,0))): ∀j u, [v0,v1,v2][j]? =some u->w.cell? ((⟨g,0,none⟩:Addr).add j)=some u:=by
 intro j u a;rw[Addr.add_lit,eV,i1 h]
 simpa using a
theorem N4.step{W wr f w m:aK}{e:aY}{v q:aS}{n:List Tr}{t:Tr}{v0 v1 v2:aS}{o:List aS}{L:List Nat}
 (A:B2 wr e o n L) (hF:Wc W wr L) (hv: ∀g,v.ownBlock=some g-> ¬g∈L/\g < wr.heap.size/\W.heap.size<=g) (hx:o.length=n.length*3) (y:W.heap.size<=wr.heap.size) (c:Ext wr f) (p:P0 wr f e t (.agg #[v0,v1,v2])) (k:Ext f w)
 (z:m.ownsRow W.heap.size e 3 q (n.length+1) (o++ [v0,v1,v2])) (i:w.grownBy m v.ownBlock) (u: ∀g,q.ownBlock=some g->v.ownBlock=some g\/w.heap.size<=g):N4 W m e q (n++ [t])/\Below W.heap.size wr m:=by
 obtain⟨M,p,l⟩:=p;have B:=c.size;have C:=k.size;have keep: ∀b,b < f.heap.size->(v.ownBlock≠some b)->m.heap[b]? =f.heap[b]? :=fun b a r=>(i.block b (by omega) (fun h=> r h.symm)).trans (k.heap b a)
 refine⟨⟨_,L++M,by simpa using z,B2.snoc (p.mono fun b a=> keep b (l.2 b a).2 fun j=> ?_) [] hx (A.mono fun b a=>(keep b (by have:=(hF.2 b a).2;omega) fun j=> ?_).trans (c.heap b (hF.2 b a).2)), ?_,fun g x hm=> ?_⟩, ?_⟩
 · have:=(hv b j).2.1
   have:=(l.2 b a).1;omega
 · exact(hv b j).1 a
 · have s:=hF.append (d:=f) l (aM _) y c.size
   exact s.mono (aM _) (by have:=i.size;omega)
 · rcases u g x with h|h
   · rcases List.mem_append.1 hm with hm|hm
     · exact(hv g h).1 hm
     · have:=(hv g h).2.1
       have:=(l.2 g hm).1;omega
   · rcases List.mem_append.1 hm with hm|hm
     · have:=(hF.2 g hm).2
       omega
     · have:=(l.2 g hm).2
       omega
 · refine⟨i.os.trans (k.os.trans c.os),i.tape.trans (k.tape.trans c.tape),i.output.trans (k.output.trans c.output),by have:=i.size;omega,fun b a=> ?_⟩
   exact(keep b (by omega) (fun j=> by have:=(hv b j).2.2;omega)).trans (c.heap b (by omega))
theorem fF{P:eP}(w:aK){o:Oper}{a:Act}{K:Act->aK->Prop}{Q:Exit->Act->aK->Prop}(s x:jK)(t:aY)
 (F:o.op= .call {callee:= .builtin .append,args:=#[s,x],argTypes:=#[t,t]})
 (e:aY) (i:iQ) (z:aS) (ht:P.underlying t=some (.slice e)) (hi:P.info? e=some i) (C:i.zero=some z) (b:i.size=3) (r:i.bytes=40) (n:z.cells.size=3)
 {W wr q:aK} {v:aS} {k:List Tr} {tr:Tr} {v0 v1 v2:aS} {u:Nat} (hs:a.eval s=v) (hG:N4 W wr e v k) (H:W.heap.size<=wr.heap.size) (m:Ext wr q) (A:P0 wr q e tr (.agg #[v0,v1,v2])) (p:Ext q w)
 (hx:a.eval x= .slice (some ⟨u,0,none⟩) 1 1) (y:w.heap[u]? =some (.cells #[v0,v1,v2] e (0,0))) (hn:k.length < 1099511627776)
 (h: ∀l j,N4 W j e l (k++ [tr])->Below W.heap.size wr j->K (a.put o.dst l) j):o.wp P a w K Q:=by
 obtain⟨B,L,c,I,J,E⟩:=hG;have R:=m.size;have S:=p.size;have f:w.ownsRow W.heap.size e 3 v k.length B:=Yv c (fun g d=>(m.trans p).heap g (c.lt g d).2);obtain⟨l,j,hr,D,N,O⟩:=Mn (P:=P) w W.heap.size t o.type e i z 3 40 ht hi C b r n (by decide) v k.length B f ⟨u,0,none⟩ 1 1 [v0,v1,v2] rfl (wD y) (lJ A) (by unfold aU;omega) (by omega) (by omega);obtain⟨M,G⟩:=N4.step I J (fun g d=>⟨E g d,(c.lt g d).2,(c.lt g d).1⟩) c.1 H m A p D N O;unfold Oper.wp execOp;simp only[F,resolve,invoke,builtin,iK,iL,fR,fX,gM,iM,hs,hx,hr];exact h l j M G
theorem Rx{P:eP}(w:aK){ops:Array Oper}{o:Oper}{a:Act}{K:Act->aK->Prop}{Q:Exit->Act->aK->Prop}{E:Prop}(c:o.guard=none)(s x:jK)(t:aY)
 (r:o.op= .call {callee:= .builtin .append,args:=#[s,x],argTypes:=#[t,t]})
 (e:aY) (i:iQ) (z:aS) (ht:P.underlying t=some (.slice e)) (hi:P.info? e=some i) (p:i.zero=some z) (b:i.size=3) (g:i.bytes=40) (d:z.cells.size=3)
 {W wr f:aK} {v:aS} {l:List Tr} {tr:Tr} {v0 v1 v2:aS} {n:Nat} (hs:a.eval s=v) (hG:N4 W wr e v l) (y:W.heap.size<=wr.heap.size) (u:Ext wr f) (q:P0 wr f e tr (.agg #[v0,v1,v2])) (A:Ext f w)
 (hx:a.eval x= .slice (some ⟨n,0,none⟩) 1 1) (j:w.heap[n]? =some (.cells #[v0,v1,v2] e (0,0))) (hn:l.length < 1099511627776)
 (h: ∀m k,N4 W k e m (l++ [tr])->Below W.heap.size wr k->K (a.put o.dst m) k):
 if eL o (yielded ops a.tmps)=true then Oper.wp P o a w K Q else E:=by
 have B:eL o (yielded ops a.tmps)=true:=by simp[eL,c]
 rw[if_pos B];exact fF w s x t r e i z ht hi p b g d hs hG y u q A hx j hn h
theorem O4.copy{w:aK}{S:Nat->Prop}{b:Nat}: ∀{o:Nat} {g:List Tr},O4 w S b o g-> ∃news:List aS,news.length=g.length*3/\(∀j u,news[j]? =some u->w.cell? ⟨b,o+j,none⟩=some u)/\(∀u∈news,u.oneCell'=true)/\
 ∀(d:aK) (f:Nat->Prop) (e c:Nat),(∀x,S x->f x/\d.heap[x]? =w.heap[x]?)->(∀j u,news[j]? =some u->d.cell? ⟨e,c+j,none⟩=some u)->O4 d f e c g
 |o, [],_=>⟨[],rfl,(fun j u h=> by simp at h),(fun u h=> by simp at h),(fun _ _ _ _ _ _=> by unfold O4;trivial)⟩
 |o,t::ts,h=> by
  unfold O4 at h;obtain⟨⟨v0,v1,v2,p,i,v,ht⟩,r⟩:=h;obtain⟨news,l,m,s,q⟩:=O4.copy r;refine⟨v0::v1::v2::news,by simp[l];omega,fun j u a=> ?_,fun u a=> ?_,fun d f e c hS hc=> ?_⟩
  · match j,a with
    |0,a=> simpa using(by simpa using a:v0=u)▸p
    |1,a=> simpa using(by simpa using a:v1=u)▸i
    |2,a=> simpa using(by simpa using a:v2=u)▸v
    |j+3,a=>
     have:=m j u (by simpa using a)
     rwa [show o+3+j=o+(j+3) by omega] at this
  · obtain⟨k,n,kids⟩:=t
    obtain⟨A,cap,hv,_⟩:=InT.mk_iff.1 ht;simp only[Value.agg.injEq,Array.mk.injEq,List.cons.injEq,and_true] at hv;obtain⟨rfl,rfl,rfl⟩:=hv;simp only[List.mem_cons] at a;rcases a with rfl|rfl|rfl|a
    · rfl
    · rfl
    · rfl
    · exact s u a
  · unfold O4
    refine⟨⟨v0,v1,v2,by simpa using hc 0 v0 rfl,hc 1 v1 rfl,hc 2 v2 rfl,ht.mono (fun x hx=>(hS x hx).1) (fun x hx=>(hS x hx).2)⟩,q d f e (c+3) hS fun j u a=> ?_⟩;have:=hc (j+3) u (by simpa using a)
    rwa [show c+(j+3)=c+3+j by omega] at this
theorem qJ{P:eP}(w:aK){ops:Array Oper}{rest:List Oper}{o:Oper}{a:Act}{Q:Exit->Act->aK->Prop}(T:o.guard=none)(s x:jK)(t:aY)
 (ho:o.op= .call {callee:= .builtin .append,args:=#[s,x],argTypes:=#[t,t]})
 (e:aY) (i:iQ) (z:aS) (ht:P.underlying t=some (.slice e)) (hi:P.info? e=some i) (hz:i.zero=some z) (p:i.size=3) (L:i.bytes=40) (J:z.cells.size=3)
 {W:aK} {v:aS} {A:Option Addr} {cap:Nat} {ks:List Tr} (hs:a.eval s=v) (l:w.ownsRow W.heap.size e 3 v 0 []) (D:Ext W w) (hx:a.eval x= .slice A ks.length cap) (lq:A=none->cap=0) {S:Nat->Prop} (hS: ∀b,S b->b < W.heap.size) (hK:InK W S A ks) (hn:ks.length<=1099511627776)
 (h: ∀B f d,InK d (fun b=> S b\/W.heap.size<=b/\b < d.heap.size) B ks->ks.length<=f->f<=aU->Ext W d->(B=none->f=0)->wpList P ops Q rest (a.put o.dst (.slice B ks.length f)) d):wpList P ops Q (o::rest) a w:=by
 refine wpList_plain T fun K N=> ?_
 have key: ∃m d,(Builtin.append_ #[t,t] o.type #[v,.slice A ks.length cap]).run P w= .ok m d/\ ∃B f,m= .slice B ks.length f/\InK d (fun b=> S b\/W.heap.size<=b/\b < d.heap.size) B ks/\ks.length<=f/\f<=aU/\Ext W d/\(B=none->f=0):=by
  cases A with
  |none=>
   obtain rfl:=lq rfl;have y:ks= []:=by
    rcases hK with h|⟨b,o,h,_⟩
    · exact h
    · cases h
   subst y;have hr:=run_append_owned_none (P:=P) w W.heap.size t o.type e i 3 ht hi v 0 [] l;refine⟨v,w,hr, ?_⟩;rcases l.2 with⟨rfl,_⟩ |⟨g,c,R,rfl,_,_,h1,M,_⟩
   · exact⟨none,0,rfl,.inl rfl,aM _,bT _,D,fun _=> rfl⟩
   · exact⟨_,c,rfl,.inl rfl,h1,M,D,fun h=> by cases h⟩
  |some O=>
   have hE': ∀d,w.grownBy d v.ownBlock->Ext W d:=fun d C=> D.grown C (fun k hk=>(l.lt k hk).1)
   have hb: ∀(news:List aS),news.length=ks.length*3->(∀j u,news[j]? =some u->w.cell? (O.add j)=some u)->(∀u∈news,u.oneCell'=true)->
    ∃m d,(Builtin.append_ #[t,t] o.type #[v,.slice (some O) ks.length cap]).run P w= .ok m d/\Ext W d/\ ∃B f,m= .slice B ks.length f/\ks.length<=f/\f<=aU/\(B=none->f=0)/\
     (ks≠ []-> ∃g,B=some ⟨g,0,none⟩/\W.heap.size<=g/\g < d.heap.size/\ ∀j u,news[j]? =some u->d.cell? ⟨g,0+j,none⟩=some u):=by
    intro news n1 G Z;obtain⟨m,d,hr,E,r2,r3⟩:=Mn (P:=P) w W.heap.size t o.type e i z 3 40 ht hi hz p L J (by decide) v 0 [] l O ks.length cap news n1 G Z (by unfold aU;omega) (by omega) D.size;refine⟨m,d,hr,hE' d r2, ?_⟩;have hc:=fun g C=> E.cells (g:=g) C
    have hlt:=E.lt;rcases E.2 with⟨rfl,h0⟩ |⟨g,c,R,rfl,h5,h6,h1,M,_⟩
    · exact⟨none,0,by rw[show ks.length=0 by omega],by omega,bT _,fun _=> rfl,fun n=> absurd (aZ (by omega)) n⟩
    · refine⟨_,c,by rw[eV],by omega,M,fun h=> by(cases h),fun _=>⟨g,rfl,h5,O1 h6,fun j u U=> ?_⟩⟩
      have:=hc g rfl j u (by simpa using U)
      rwa [Addr.add_lit] at this
   rcases hK with rfl|⟨b,o,H,hb',hl⟩
   · obtain⟨m,d,hr,hx,B,f,Y,X,F,I,_⟩:=hb [] rfl (fun _ _ h=> by cases h) (fun _ h=> by cases h)
     exact⟨m,d,hr,B,f,Y,.inl rfl,X,F,hx,I⟩
   · obtain rfl:=Option.some.inj H
     obtain⟨news,n1,G,Z,n4⟩:=hl.copy;obtain⟨m,d,hr,hx,B,f,Y,X,F,I,q5⟩:=hb news n1 (fun j u U=> by rw[Addr.add_lit];exact D.cell (G j u U)) Z;refine⟨m,d,hr,B,f,Y, ?_,X,F,hx,I⟩;by_cases n:ks= []
     · exact .inl n
     · obtain⟨g,rfl,V,C,q⟩:=q5 n
       exact .inr ⟨g,0,rfl,.inr ⟨V,C⟩,n4 d _ g 0 (fun x r=>⟨.inl r,hx.heap x (hS x r)⟩) q⟩
 obtain⟨m,d,hr,B,f,rfl,E,r2,r3,r4,r5⟩:=key;unfold Oper.wp execOp;simp only[ho,resolve,invoke,builtin,iK,iL,fR,fX,gM,iM,hs,hx,hr];exact N _ _ (h B f d E r2 r3 r4 r5)
end Go.Proofs.YtckhbnmfnpolgaaGreat
namespace Go.Proofs.YtckhbnmfnpolgaaGreat
def S5(l:List UInt8):ByteArray:=⟨l.toArray⟩
theorem gc(a b:List UInt8):S5 a++S5 b=S5 (a++b):=by
 apply ByteArray.ext
 simp[S5]
theorem Ws(l:List UInt8):(S5 l).size=l.length:=by simp[S5,ByteArray.size]
theorem cA(l:List UInt8):(S5 l).data.toList=l:=by simp[S5]
def ec(n:Int):List UInt8:=if n<=9 then [UInt8.ofNat (48+n.toNat)] else [UInt8.ofNat (48+n.toNat / 10),UInt8.ofNat (48+n.toNat % 10)]
def Me(k:Int):List UInt8:=
 if k=3 then [40] else if k=4 then [91] else if k=5 then [40] else if k=6 then [78] else if k=7 then [48] else if k=8 then [43] else if k=9 then [60] else if k=10 then [123] else if k=11 then [33] else if k=12 then [64,60] else if k=13 then [40] else if k=14 then [124] else if k=15 then [94] else if k=16 then [95] else []
def Zg(k:Int):List UInt8:=
 if k=3 then [62] else if k=4 then [93] else if k=5 then [32] else if k=13 then [42] else [44]
def qe(k:Int):List UInt8:=
 if k=3 then [41] else if k=5 then [41] else if k=9 then [62] else if k=10 then [125] else if k=12 then [62] else if k=13 then [41] else if k=14 then [124] else []
mutual
def N2:Tr->List UInt8
 | .mk k n a=> if k=1 then 35::ec n else if k=2 then 42::ec n else Me k++K6 (Zg k) a true++qe k
def K6:List UInt8->List Tr->Bool->List UInt8
 |_, [],_=> []
 |s,t::ts,f=>(if f=true then [] else s)++N2 t++K6 s ts false
end
theorem Vv(n:Int):(ec n).length<=2:=by unfold ec;split <;> simp
theorem On(k:Int):(Me k).length<=2:=by
 unfold Me;by_cases o:k=3
 · rw[if_pos o];decide
 rw[if_neg o];by_cases c:k=4
 · rw[if_pos c];decide
 rw[if_neg c];by_cases f:k=5
 · rw[if_pos f];decide
 rw[if_neg f];by_cases d:k=6
 · rw[if_pos d];decide
 rw[if_neg d];by_cases e:k=7
 · rw[if_pos e];decide
 rw[if_neg e];by_cases i:k=8
 · rw[if_pos i];decide
 rw[if_neg i];by_cases m:k=9
 · rw[if_pos m];decide
 rw[if_neg m];by_cases a:k=10
 · rw[if_pos a];decide
 rw[if_neg a];by_cases b:k=11
 · rw[if_pos b];decide
 rw[if_neg b];by_cases p:k=12
 · rw[if_pos p];decide
 rw[if_neg p];by_cases l:k=13
 · rw[if_pos l];decide
 rw[if_neg l];by_cases j:k=14
 · rw[if_pos j];decide
 rw[if_neg j];by_cases n:k=15
 · rw[if_pos n];decide
 rw[if_neg n];by_cases g:k=16
 · rw[if_pos g];decide
 rw[if_neg g]
 decide
theorem yl(k:Int):(Zg k).length=1:=by
 unfold Zg;by_cases d:k=3
 · rw[if_pos d];decide
 rw[if_neg d];by_cases a:k=4
 · rw[if_pos a];decide
 rw[if_neg a];by_cases b:k=5
 · rw[if_pos b];decide
 rw[if_neg b];by_cases c:k=13
 · rw[if_pos c];decide
 rw[if_neg c]
 decide
theorem Yn(k:Int):(qe k).length<=1:=by
 unfold qe;by_cases f:k=3
 · rw[if_pos f];decide
 rw[if_neg f];by_cases b:k=5
 · rw[if_pos b];decide
 rw[if_neg b];by_cases e:k=9
 · rw[if_pos e];decide
 rw[if_neg e];by_cases a:k=10
 · rw[if_pos a];decide
 rw[if_neg a];by_cases g:k=12
 · rw[if_pos g];decide
 rw[if_neg g];by_cases d:k=13
 · rw[if_pos d];decide
 rw[if_neg d];by_cases c:k=14
 · rw[if_pos c];decide
 rw[if_neg c]
 decide
mutual
theorem Of: ∀t:Tr,(N2 t).length+1<=5*cnt t
 | .mk k n a=> by
  have c:=Vv n;have d:=On k;have e:=Yn k;have b:=aw (Zg k) (by rw[yl k];omega) a true;unfold N2;simp only[cnt]
  split
  · simp;omega
  · split
    · simp;omega
    · simp;omega
theorem aw(s:List UInt8)(hs:s.length<=1): ∀(ts:List Tr) (f:Bool),(K6 s ts f).length<=5*W1 ts
 | [],_=> by simp[K6]
 |t::ts,f=> by
  have a:=Of t;have b:=aw s hs ts false;unfold K6;simp only[W1];cases f <;> simp <;> omega
end
def vf(t:Tr):List UInt8:=if j0 m0 t=true then N2 t else []
def qf(c:UInt8):Bool:=decide (48<=c)&& decide (c<=57)
def i8(l:List UInt8)(a:Nat)(two:Bool):Option (Int×Nat):=
 match l[a]?with
 |none=> none
 |some c=> if qf c=true then
  (if two=true then
   match l[a+1]?with
   |none=> some ((c.toNat:Int) - 48,a+1)
   |some d=> if qf d=true then(if c=48 then none else some (((c.toNat:Int) - 48)*10+((d.toNat:Int) - 48),a+2)) else some ((c.toNat:Int) - 48,a+1)
  else some ((c.toNat:Int) - 48,a+1))
  else none
def Pe(p:Nat->Option (Tr×Nat))(l:List UInt8)(last:UInt8):Nat->Nat->Option (List Tr×Nat)
 |0,a=> some ([],a)
 |m+1,a=> match p a with
  |none=> none
  |some (t,b)=> if l[b]? =some (if m=0 then last else 44) then(Pe p l last m (b+1)).map (fun x=>(t::x.1,x.2)) else none
def one(k:Int)(x:Option (Tr×Nat)):Option (Tr×Nat):=x.map fun y=>(.mk k 0 [y.1],y.2)
def tf(c:Option UInt8):Int:=if c=some 62 then 3 else if c=some 42 then 13 else if c=some 32 then 5 else 0
def Xw(p:Nat->Option (Tr×Nat))(l:List UInt8)(a:Nat):Option (Tr×Nat):=
 match p a with
 |none=> none
 |some (x,b)=> if tf l[b]? =0 then none else
  match p (b+1) with
  |none=> none
  |some (y,c)=> if l[c]? =some 41 then some (.mk (tf l[b]?) 0 [x,y],c+1) else none
def vx(p:Nat->Option (Tr×Nat))(l:List UInt8)(a:Nat):Option (Tr×Nat):=
 match p a with
 |none=> none
 |some (x,b)=> if l[b]? =some 93 then(match p (b+1) with|none=> none|some (y,c)=> some (.mk 4 0 [x,y],c)) else none
def Sk(c:UInt8):Int:=if c=60 then 9 else if c=123 then 10 else if c=124 then 14 else if c=64 then 12 else 0
def uE(c:UInt8):UInt8:=if c=123 then 125 else if c=124 then 124 else 62
def blk(p:Nat->Option (Tr×Nat))(l:List UInt8)(a:Nat)(c:UInt8):Option (Tr×Nat):=
 if Sk c=0 then none
 else if c=64 then(if l[a+1]? =some 60 then(Pe p l 62 3 (a+2)).map (fun x=>(.mk 12 0 x.1,x.2)) else none)
 else(Pe p l (uE c) (if c=60 then 4 else 3) (a+1)).map (fun x=>(.mk (Sk c) 0 x.1,x.2))
def Z5:Nat->List UInt8->Nat->Option (Tr×Nat)
 |0,_,_=> none
 |d+1,l,a=>
  match l[a]?with
  |none=> none
  |some c=>
   if c=35 then(i8 l (a+1) true).map (fun x=>(.mk 1 x.1 [],x.2))
   else if c=42 then(i8 l (a+1) false).map (fun x=>(.mk 2 x.1 [],x.2))
   else if c=78 then some (.mk 6 0 [],a+1)
   else if c=48 then some (.mk 7 0 [],a+1)
   else if c=43 then one 8 (Z5 d l (a+1))
   else if c=33 then one 11 (Z5 d l (a+1))
   else if c=94 then one 15 (Z5 d l (a+1))
   else if c=95 then one 16 (Z5 d l (a+1))
   else if c=40 then Xw (Z5 d l) l (a+1)
   else if c=91 then vx (Z5 d l) l (a+1)
   else blk (Z5 d l) l a c
def kc(l:List UInt8):Option Tr:=
 match Z5 30 l 0 with
 |none=> none
 |some (t,b)=> if l≠ []/\b=l.length/\vf t=l then some t else none
theorem DE{l:List UInt8}{t:Tr}(h:kc l=some t):j0 m0 t=true/\N2 t=l:=by
 unfold kc at h
 split at h
 · cases h
 · rename_i e b _
   split at h
   · rename_i d
     cases h
     obtain⟨c,f,a⟩:=d;unfold vf at a
     split at a
     · rename_i hv
       exact⟨hv,a⟩
     · exact absurd a.symm c
   · cases h
end Go.Proofs.YtckhbnmfnpolgaaGreat
namespace Go.Proofs.YtckhbnmfnpolgaaGreat
open Go.RowKit
def At(w:aK)(p:aK->Prop):Prop:= ∀a,Ext w a->p a
theorem At.and{w:aK}{p q:aK->Prop}(h:At w p)(k:At w q):At w (fun a=> p a/\q a):=fun x hx=>⟨h x hx,k x hx⟩
structure q32 (W:aK) where
 world:aK
 ext:Ext W world
instance (W:aK):Nonempty (q32 W):=⟨⟨W,xr W⟩⟩
theorem ll{P:eP}{id:Nat}{Q:Exit->Act->aK->Prop}{a:Act}{W:aK}{l:List Oper}(hm:P.follows .mixedOrders=true)(d:Region.lexB .any l.toArray=true)
 (h:wpQuiet P l.toArray (fun b=> ∃x:q32 W,b=x.world) (fun c=> ∀b,(∃x:q32 W,b=x.world)->Q .normal c b) l a):(Code.region id l.toArray true).wp P Q a W:=
 wp_region_quiet (C:=fun b=> ∃x:q32 W,b=x.world) hm d ⟨⟨_,(xr W).drew⟩,rfl⟩ (by simpa using h)
theorem Px{P:eP}{f:FuncId}{args:Array aS}{W:aK}{x:q32 W}{v:aS}(h:aV P f args x.world fun e a=> e= .returned v/\Ext x.world a):
 aV P f args x.world fun e b=> e= .returned v/\ ∃y:q32 W,b=y.world:=
 h.mono fun e a ⟨d,c⟩=>⟨d,⟨a,x.ext.trans c⟩,rfl⟩
theorem zd{P:eP}{f:FuncId}{args:Array aS}{W:aK}{x:q32 W}{v:aS}(h:aV P f args x.world fun e b=> e= .returned v/\x.world=b):
 aV P f args x.world fun e a=> e= .returned v/\ ∃y:q32 W,a=y.world:=
 h.mono fun e b ⟨d,c⟩=>⟨d,x,c.symm⟩
theorem q32.own3{W:aK}{g:Nat}{d b c:aS}{e:aY}(a:W.heap[g]? =some (.cells #[d,b,c] e (0,0))):
 (∀y:q32 W,y.world.cell? ⟨g,0,none⟩=some d)/\(∀y:q32 W,y.world.cell? ⟨g,1,none⟩=some b)/\(∀y:q32 W,y.world.cell? ⟨g,2,none⟩=some c):=
 ⟨fun y=> y.ext.cell (i1 a 0),fun y=> y.ext.cell (i1 a 1),fun y=> y.ext.cell (i1 a 2)⟩
theorem q32.cell{W:aK}{b o:Nat}{v:aS}(h:W.cell? ⟨b,o,none⟩=some v)(y:q32 W):y.world.cell? ⟨b,o,none⟩=some v:=y.ext.cell h
def sz(t:Tr):Prop:= ∀(w:aK) (b:Tr) (v a:aS),Lies w t v->Lies w b a->
 aV prog 15 #[v,a] w fun e c=> e= .returned (.bool (L7 t b))/\Ext w c
theorem TH(d a:List Tr)(hk: ∀t∈d,sz t)(w:aK)(A G:Option Addr)(cap f:Nat)(h:q24 w A d)(hl:d.length<=cap)(hc:cap<=aU)(S:q24 w G a)(U:a.length<=f)(x:f<=aU):
 aV prog 47 #[.slice A d.length cap,.slice G a.length f,.func (.func 15) #[] #[]] w fun e T=> e= .returned (.bool (m8 d a))/\Ext w T:=by
 unfold aU at hc x;by_cases s:d.length=a.length
 · have hd:((d.length:Int) !=(a.length:Int))=false:=by rw[s];simp
   have F:=hdq s;clear s;go_enter func47,ntmps47;go_wp2_with fail
   go_loopw [17] (fun i wr=> ∃j:Nat,j<=d.length/\i= .int .i64 j/\m8 d a=m8 (d.drop j) (a.drop j)/\Ext w wr) (fun i _=> d.length -(intOf i).toNat)
   case atStart=> exact⟨0,bT _,rfl,rfl,xr _⟩
   case round=>
    obtain⟨j,V,rfl,p,u⟩:=hrel;have y:=hdq p;clear p;by_cases m:j < d.length
    · have H:j < a.length:=by rw[<-F.out];exact m
      obtain⟨b,o,k,n,B,c,kids,rfl,J,c0,X,c2,W,G0,hK,P,L⟩:=h.get u m;obtain⟨b',o',C,v,Z,Y,D,rfl,O,R,M,Jk,Gb,Ht,Q,I,Bi⟩:=S.get u H;have N:=bR _ _ R;have g:m8 (d.drop j) (a.drop j)=(L7 (.mk k n kids) (.mk C v D)&& m8 (d.drop (j+1)) (a.drop (j+1))):=by
       rw[bX m,bX H,J.out,O.out]
       conv=> lhs;unfold m8
      have l:=hdq g;clear g;go_wp2_with fail;refine(hk _ L _ (.mk C v D) _ _ (P.ext (((xr wr).alloc _).alloc _)) (I.ext (((xr wr).alloc _).alloc _))).mono ?_;rintro e w1 ⟨rfl,z⟩;have r:=u.trans z.pre.pre;generalize L7 (.mk k n kids) (.mk C v D)=q at l;cases q with
      |false=>
       go_wp2_with fail;go_ret;exact⟨by rw[y.out,l.out];rfl,r⟩
      |true=>
       go_wp2_with fail
       go_roundw
       case rel=> exact⟨j+1,by omega,by go_num,by rw[y.out,l.out];rfl,r⟩
       case measure=> simp[intOf];omega
    · go_wp2_with fail
      go_ret;exact⟨by rw[y.out,cR (by omega),cR (by rw[<-F.out];omega)];rfl,u⟩
 · have hd:((d.length:Int) !=(a.length:Int))=true:=by rw[bne_iff_ne];omega
   have e:m8 d a=false:=by
    rw[Bool.eq_false_iff];intro K;exact s (my K)
   have E:=hdq e;clear e;go_enter func47,ntmps47;go_wp2_with fail;go_ret;exact⟨by rw[E.out];rfl,xr _⟩
theorem ZF: ∀t:Tr,sz t:=Tr.ind fun k n i hk=> by
 intro w s v B h q;obtain⟨A,cap,rfl,hl,hc,hK⟩:=Lies.mk_iff.1 h;obtain⟨c,d,a⟩:=s;obtain⟨z,g,rfl,m,j,l⟩:=Lies.mk_iff.1 q;clear h q;have r:=fun W (o:Ext w W)=> TH i a hk W A z cap g (hK.ext o) hl hc (l.ext o) m j
 have y:=hdq r;clear r;by_cases b:k=c
 · by_cases f:n=d
   · have e:L7 (.mk k n i) (.mk c d a)=m8 i a:=by simp[L7,b,f]
     have E:=hdq e;have p:(k==c)=true:=by simp[b]
     have u:(n==d)=true:=by simp[f]
     clear e b f;go_enter func15,ntmps15;go_wp2_with fail;refine(y.out _ (((xr w).alloc _).alloc _)).mono ?_;rintro e C ⟨rfl,x⟩;go_wp2_with fail;go_ret;exact⟨by rw[E.out];rfl,x.pre.pre⟩
   · have e:L7 (.mk k n i) (.mk c d a)=false:=by simp[L7,f]
     have E:=hdq e;have p:(k==c)=true:=by simp[b]
     have u:(n==d)=false:=by simpa using f
     clear e b f;go_enter func15,ntmps15;go_wp2_with fail;go_ret;exact⟨by rw[E.out];rfl,((xr w).alloc _).alloc _⟩
 · have e:L7 (.mk k n i) (.mk c d a)=false:=by simp[L7,b]
   have E:=hdq e;have p:(k==c)=false:=by simpa using b
   clear e b;go_enter func15,ntmps15;go_wp2_with fail;go_ret;exact⟨by rw[E.out];rfl,((xr w).alloc _).alloc _⟩
def qG(t:Tr):Prop:= ∀(w:aK) (b:Tr) (v a:aS),Lies w t v->Lies w b a->
 aV prog 159 #[v,a] w fun e c=> e= .returned (.bool (L7 t b))/\Ext w c
theorem dJ: ∀t:Tr,qG t:=Tr.ind fun k n f hk=> by
 intro w t' v v' R D;obtain⟨A,cap,rfl,hl,hc,h⟩:=Lies.mk_iff.1 R;obtain⟨l,m,a⟩:=t';obtain⟨S,s,rfl,hl',L,h'⟩:=Lies.mk_iff.1 D;clear R D;unfold aU at hc L;by_cases p:k=l
 · by_cases r:n=m
   · by_cases F:f.length=a.length
     · have e:L7 (.mk k n f) (.mk l m a)=m8 f a:=by simp[L7,p,r]
       have E:=hdq e;have J:(k !=l)=false:=by simp[p]
       have V:(n !=m)=false:=by simp[r]
       have hd:((f.length:Int) !=(a.length:Int))=false:=by rw[F];simp
       have X:=hdq F;clear e p r F;go_enter func159,ntmps159;go_wp2_with fail;have g:Ext w ((w.alloc (.cells #[.int .i64 k,.int .i64 n,.slice A f.length cap] 25)).alloc (.cells #[.int .i64 l,.int .i64 m,.slice S a.length s] 25)):=((xr w).alloc _).alloc _;have U:=W3 (xr ((w.alloc (.cells #[.int .i64 k,.int .i64 n,.slice A f.length cap] 25)).alloc (.cells #[.int .i64 l,.int .i64 m,.slice S a.length s] 25)));generalize (w.alloc _).alloc _=w2 at g U;obtain⟨Z,b2,hs2⟩:=U;have Y9:=hdq Z;have pw:=hdq b2;clear Z b2
       go_loopw [5] (fun i wr=> ∃j:Nat,j<=f.length/\i= .int .i64 j/\m8 f a=m8 (f.drop j) (a.drop j)/\Ext w2 wr) (fun i _=> f.length -(intOf i).toNat)
       case atStart=> exact⟨0,bT _,rfl,rfl,xr _⟩
       case round=>
        obtain⟨j,hj,rfl,z,x⟩:=hrel;obtain⟨-,-,x2,-,-,-⟩:=own3 (x.blk Y9.out);obtain⟨-,-,y2,-,-,-⟩:=own3 (x.blk pw.out);have O:=hdq z;clear z;by_cases u:j < f.length
        · have Y:j < a.length:=by rw[<-X.out];exact u
          obtain⟨b,o,T,W,B,c,kids,rfl,HK,c0,c1,c2,G7,G0,hK,H,d6⟩:=h.get (g.trans x) u;obtain⟨b',o',K,Q,B',c',M,rfl,Gh,Iw,I,Jk,Gb,Ht,hK',G,Bi⟩:=h'.get (g.trans x) Y;have d:m8 (f.drop j) (a.drop j)=(L7 (.mk T W kids) (.mk K Q M)&& m8 (f.drop (j+1)) (a.drop (j+1))):=by
           rw[bX u,bX Y,HK.out,Gh.out]
           conv=> lhs;unfold m8
          go_wp2_with fail
          go_still_tail 10,(by kernel_rfl)
          change wpList _ _ _ _ _ wr.drew
          replace H:=H.ext (xr _).drew;replace G:=G.ext (xr _).drew;have y:=x.drew;generalize wr.drew=w3 at H G y;clear c0 c1 c2 Iw I Jk x2 y2;go_wp2_with fail;refine(hk _ d6 w3 (.mk K Q M) _ _ H G).mono ?_;rintro e w1 ⟨rfl,P⟩;have C:=y.trans P;generalize L7 (.mk T W kids) (.mk K Q M)=q at d;cases q with
          |false=>
           have N:=hdq d;clear d;go_wp2_with fail;go_ret;exact⟨by rw[E.out,O.out,N.out];rfl,g.trans C⟩
          |true=>
           have N:=hdq d;clear d;go_wp2_with fail
           go_roundw
           case rel=> exact⟨j+1,by omega,by go_num,by rw[O.out,N.out];rfl,C⟩
           case measure=> simp[intOf];omega
        · go_wp2_with fail
          go_ret;exact⟨by rw[E.out,O.out,cR (by omega),cR (by rw[<-X.out];omega)];rfl,g.trans x⟩
     · have e:L7 (.mk k n f) (.mk l m a)=false:=by
        rw[Bool.eq_false_iff];intro he;have:=Us he
        injection this with _ _ h4
        exact F (by rw[h4])
       have E:=hdq e;have J:(k !=l)=false:=by simp[p]
       have V:(n !=m)=false:=by simp[r]
       have hd:((f.length:Int) !=(a.length:Int))=true:=by rw[bne_iff_ne];omega
       clear e p r F;go_enter func159,ntmps159;go_wp2_with fail;go_ret;exact⟨by rw[E.out];rfl,((xr w).alloc _).alloc _⟩
   · have e:L7 (.mk k n f) (.mk l m a)=false:=by simp[L7,r]
     have E:=hdq e;have J:(k !=l)=false:=by simp[p]
     have V:(n !=m)=true:=by rw[bne_iff_ne];exact r
     clear e p r;go_enter func159,ntmps159;go_wp2_with fail;go_ret;exact⟨by rw[E.out];rfl,((xr w).alloc _).alloc _⟩
 · have e:L7 (.mk k n f) (.mk l m a)=false:=by simp[L7,p]
   have E:=hdq e;have J:(k !=l)=true:=by rw[bne_iff_ne];exact p
   clear e p;go_enter func159,ntmps159;go_wp2_with fail;go_ret;exact⟨by rw[E.out];rfl,((xr w).alloc _).alloc _⟩
def Xb(a:List Tr):Bool:=decide (a.length<=8)&& !a.any (fun t=> !j0 m0 t)
theorem mv{a:List Tr}(h:Xb a=true):a.length<=8/\ ∀t∈a,j0 m0 t=true:=by
 unfold Xb at h;rw[Bool.and_eq_true,decide_eq_true_eq] at h;refine⟨h.1,fun t ht=> ?_⟩;have b:=h.2;simp only[Bool.not_eq_true',List.any_eq_false] at b
 simpa using b t ht
mutual
theorem InT.bound{w:aK}{S:Nat->Prop}: ∀{t:Tr} {v:aS},InT w S t v->InT w (fun b=> S b/\b < w.heap.size) t v
 | .mk k n g,v,h=> by
  obtain⟨A,cap,rfl,d,e,a⟩:=InT.mk_iff.1 h;refine InT.mk_iff.2 ⟨A,cap,rfl,d,e, ?_⟩;cases g with
  |nil=> exact .inl rfl
  |cons t ts=>
   rcases a with a|⟨b,o,rfl,f,hl⟩
   · cases a
   · refine .inr ⟨b,o,rfl,⟨f, ?_⟩,O4.bound hl⟩
     unfold O4 at hl;obtain⟨⟨v0,v1,v2,c,-⟩,-⟩:=hl;exact bR _ _ c
theorem O4.bound{w:aK}{S:Nat->Prop}{b:Nat}: ∀{o:Nat} {a:List Tr},O4 w S b o a->O4 w (fun b=> S b/\b < w.heap.size) b o a
 |_, [],_=> by unfold O4;trivial
 |o,t::ts,h=> by
  unfold O4 at h⊢;obtain⟨⟨v0,v1,v2,c,e,f,ht⟩,d⟩:=h;exact⟨⟨v0,v1,v2,c,e,f,InT.bound ht⟩,O4.bound d⟩
end
theorem InT.later{w c:aK}{S:Nat->Prop}{t:Tr}{v:aS}(h:InT w S t v)(d:Ext w c):InT c S t v:=
 InT.mono (fun _ a=> a.1) (fun b a=> d.heap b a.2) h.bound
theorem yD{w:aK}{o:Obj}{n:Nat}(h:n=w.heap.size):(w.alloc o).heap[n]? =some o:=h▸heap_alloc_new w o
theorem ri(n a hi:Int)(w:aK):aV prog 51 #[.int .i64 n,.int .i64 a,.int .i64 hi] w fun e g=> e= .returned (.bool (kb n a hi))/\w=g:=by
 by_cases b:a<=n
 · by_cases c:n<=hi
   · have e:kb n a hi=true:=Yf.2 ⟨b,c⟩
     have E:=hdq e;have d:decide (a<=n)=true:=by simpa using b
     have f:decide (n<=hi)=true:=by simpa using c
     clear e;go_enter func51,ntmps51;go_wp2_with fail;go_ret;exact⟨by rw[E.out];rfl,rfl⟩
   · have e:kb n a hi=false:=Qx.2 (.inr (by omega))
     have E:=hdq e;have d:decide (a<=n)=true:=by simpa using b
     have f:decide (n<=hi)=false:=by simpa using c
     clear e;go_enter func51,ntmps51;go_wp2_with fail;go_ret;exact⟨by rw[E.out];rfl,rfl⟩
 · have e:kb n a hi=false:=Qx.2 (.inl (by omega))
   have E:=hdq e;have d:decide (a<=n)=false:=by simpa using b
   clear e;go_enter func51,ntmps51;go_wp2_with fail;go_ret;exact⟨by rw[E.out];rfl,rfl⟩
theorem eC(k:Int)(w:aK):aV prog 108 #[.int .i64 k] w fun e d=> e= .returned (.int .i64 (O0 k))/\Ext w d:=by
 by_cases a:kb k 1 16=true
 · have f:=hdq a
   have b:=Yf.1 a;clear a;have c: ∀j:Nat,j < 16->k=(j:Int)+1->aV prog 108 #[.int .i64 k] w fun e d=> e= .returned (.int .i64 (O0 k))/\Ext w d:=by
    intro j m hk;subst hk;have g:=f;go_enter func108,ntmps108;go_wp2_with (go_at_call 51;refine(ri _ _ _ _).mono ?_;rw[g.out];rintro e l ⟨rfl,rfl⟩)
    go_ret;refine⟨?_,(xr _).alloc _⟩;rcases(by omega:j=0\/j=1\/j=2\/j=3\/j=4\/j=5\/j=6\/j=7\/j=8\/j=9\/j=10\/j=11\/j=12\/j=13\/j=14\/j=15) with rfl|rfl|rfl|rfl|rfl|rfl|rfl|rfl|rfl|rfl|rfl|rfl|rfl|rfl|rfl|rfl <;> rfl
   exact c (k - 1).toNat (by omega) (by omega)
 · have b:kb k 1 16=false:=by simpa using a
   have i:=hdq b;have n:=Qx.1 b;have e:O0 k= -1:=by
    unfold O0
    repeat rw[if_neg (by omega)]
   have E:=hdq e;clear a b e;go_enter func108,ntmps108;go_wp2_with (go_at_call 51;refine(ri _ _ _ _).mono ?_;rw[i.out];rintro e l ⟨rfl,rfl⟩)
   go_ret;exact⟨by rw[E.out];rfl,xr _⟩
theorem bC(k:Int)(w:aK):aV prog 109 #[.int .i64 k] w fun e f=> e= .returned (.int .i64 (Ja k))/\w=f:=by
 by_cases a:k=1
 · have e:Ja k=20:=by simp[Ja,a]
   have E:=hdq e;have d:(k==1)=true:=by simpa using a
   clear e a;go_enter func109,ntmps109;go_wp2_with fail;go_ret;exact⟨by rw[E.out];rfl,rfl⟩
 · have d:(k==1)=false:=by simpa using a
   by_cases b:k=2
   · have e:Ja k=3:=by simp[Ja,b]
     have E:=hdq e;have c:(k==2)=true:=by simpa using b
     clear e a b;go_enter func109,ntmps109;go_wp2_with fail;go_ret;exact⟨by rw[E.out];rfl,rfl⟩
   · have e:Ja k=0:=by simp[Ja,a,b]
     have E:=hdq e;have c:(k==2)=false:=by simpa using b
     clear e a b;go_enter func109,ntmps109;go_wp2_with fail;go_ret;exact⟨by rw[E.out];rfl,rfl⟩
def OC(S:Nat->Prop)(w a:aK)(b:Nat):Prop:=S b\/w.heap.size<=b/\b < a.heap.size
def New(w a:aK)(t:Tr)(v:aS):Prop:=InT a (fun b=> w.heap.size<=b/\b < a.heap.size) t v
theorem New.since{a w d:aK}{t:Tr}{v:aS}(h:New w d t v)(e:a.heap.size<=w.heap.size):New a d t v:=h.mono (fun b c=>⟨Nat.le_trans e c.1,c.2⟩) (fun _ _=> rfl)
theorem InK.one{w:aK}{S:Nat->Prop}{e:aY}{t:Tr}{v0 v1 v2:aS}{g:Nat}(h:InT w S t (.agg #[v0,v1,v2]))(a:w.heap[g]? =some (.cells #[v0,v1,v2] e (0,0)))(hS:S g):InK w S (some ⟨g,0,none⟩) [t]:=by
 refine .inr ⟨g,0,rfl,hS, ?_⟩;unfold O4;refine⟨⟨v0,v1,v2,i1 a 0,i1 a 1,i1 a 2,h⟩, ?_⟩;unfold O4
 trivial
theorem Oe(w:aK)(k:Int)(A:Option Addr)(len cap:Nat):aV prog 56 #[.int .i64 k,.slice A len cap] w fun e a=> e= .returned (.agg #[.int .i64 k,.int .i64 0,.slice A len cap])/\Ext w a:=by
 go_enter func56,ntmps56;go_wp2_with fail;exact aO (v:= .agg #[.int .i64 k,.int .i64 0,.slice A len cap]) (by simp[results,results56,go_sem]) rfl ⟨rfl,(xr w).alloc _⟩
theorem y15(w:aK)(k n:Int):aV prog 62 #[.int .i64 k,.int .i64 n] w fun e a=> e= .returned (.agg #[.int .i64 k,.int .i64 n,.slice none 0 0])/\Ext w a:=by
 go_enter func62,ntmps62;go_wp2_with fail;exact aO (v:= .agg #[.int .i64 k,.int .i64 n,.slice none 0 0]) (by simp[results,results62,go_sem]) rfl ⟨rfl,(xr w).alloc _⟩
theorem BH:(prog.info? 25).map (fun i=>(i.zero,i.size,i.bytes))=some (some (.agg #[.int .i64 0,.int .i64 0,.slice none 0 0]),3,40):=by kernel_rfl
theorem xD(w:aK)(k:Int)(A:Option Addr)(cap:Nat)(c:List Tr)(hA:A=none->cap=0)(S:Nat->Prop)(hS: ∀b,S b->b < w.heap.size)(hK:InK w S A c)(hn:c.length<=1099511627776):
 aV prog 60 #[.int .i64 k,.slice A c.length cap] w fun e o=> ∃u,e= .returned u/\InT o (OC S w o) (.mk k 0 c) u/\Ext w o:=by
 obtain⟨x,hi,j,f,g⟩:=info_parts BH;have i:InK (w.alloc (.cells #[.int .i64 0,.int .i64 0,.slice none 0 0] 25)) S A c:=InK.mono (fun _ h=> h) (fun b a=> Below.heap_alloc w _ b (hS b a)) hK;go_enter func60,ntmps60;go_wp2_with (at_builtin;refine qJ _ rfl (.tmp 6) (.tmp 7) 23 rfl 25 x _ underlying23 hi j f g rfl (W:=w.alloc (.cells #[.int .i64 0,.int .i64 0,.slice none 0 0] 25)) (v:= .slice (some ⟨w.heap.size+1,0,none⟩) 0 0) (A:=A) (cap:=cap) (ks:=c) rfl ?ow ((xr _).alloc _) rfl hA ?hS i hn ?_)
 case ow=> simpa using World.ownsRow_lit (base:=w.heap.size+1) (e:=25) (size:=3) (w.alloc (.cells #[.int .i64 0,.int .i64 0,.slice none 0 0] 25)) #[] 0 (by simp) (bT _) rfl
 case hS=> intro b a;have:=hS b a;simp;omega
 intro B q D t m n p _;have a:=Td p;obtain⟨z,r,y,F,E,C⟩:=own3 a.1;have l:=p.pre;have s:=a.2;clear hi j f g i a;go_wp2_with fail;refine aO (v:= .agg #[.int .i64 k,.int .i64 0,.slice B c.length q]) (by simp[results,results60,go_sem,z,r,y]) rfl ⟨_,rfl,InT.mk_iff.2 ⟨_,_,rfl,m,n,t.mono ?_ ?_⟩, ?_⟩
 · intro b a
   unfold OC;rw[eT,eT,eT];rcases a with a|a
   · exact .inl a
   · have:=a.1
     exact .inr ⟨by omega,a.2⟩
 · intro b a
   have d:b≠w.heap.size:=by
    rcases a with a|a
    · have:=hS b a
      omega
    · have:=a.1
      omega
   rw[Below.heap_setCell _ _ _ _ d,Below.heap_setCell _ _ _ _ d,Below.heap_setCell _ _ _ _ d]
 · exact((l.setCell (aM _) _).setCell (aM _) _).setCell (aM _) _
theorem P0.three{w a:aK}{e:aY}{t:Tr}{u:aS}(h:P0 w a e t u): ∃k n A l c,u= .agg #[.int .i64 k,.int .i64 n,.slice A l c]:=by
 obtain⟨k,n,b⟩:=t;obtain⟨A,cap,rfl,_⟩:=P0.mk_iff.1 h;exact⟨k,n,A,_,cap,rfl⟩
theorem Lies.three{w:aK}{t:Tr}{u:aS}(h:Lies w t u): ∃k n A l c,u= .agg #[.int .i64 k,.int .i64 n,.slice A l c]:=by
 obtain⟨k,n,a⟩:=t;obtain⟨A,cap,rfl,_⟩:=Lies.mk_iff.1 h;exact⟨k,n,A,_,cap,rfl⟩
theorem N4.only{W w c:aK}{e:aY}{v:aS}{f:List Tr}{L:List Nat}(h:N4 W w e v f)(d:X0 L w c)(g: ∀b,b∈L->b < W.heap.size):N4 W c e v f:=
 h.same d.size (fun b i a=> d.block b a (fun hm=> by have:=g b hm;omega))
theorem X0.below{L:List Nat}{a w c:aK}{B:Nat}(h:X0 L a w)(b:Below B w c)(d:a.heap.size<=B):X0 L a c:=
 ⟨b.os.trans h.os,b.tape.trans h.tape,b.output.trans h.output,Nat.le_trans h.size b.size,fun i hi hn=>(b.block i (by omega)).trans (h.block i hi hn)⟩
theorem N4.step2{W wr a w j:aK}{e:aY}{v q:aS}{n:List Tr}{t:Tr}{v0 v1 v2:aS}{o:List aS}{L:List Nat}
 (C:B2 wr e o n L) (hF:Wc W wr L) (hv: ∀g,v.ownBlock=some g-> ¬g∈L/\g < wr.heap.size/\W.heap.size<=g) (hx:o.length=n.length*3) (z:W.heap.size<=wr.heap.size) (k:wr.heap.size<=a.heap.size) (A: ∀b,W.heap.size<=b->b < wr.heap.size->a.heap[b]? =wr.heap[b]?) (p:P0 wr a e t (.agg #[v0,v1,v2])) (l:Ext a w)
 (B:j.ownsRow W.heap.size e 3 q (n.length+1) (o++ [v0,v1,v2])) (i:w.grownBy j v.ownBlock) (x: ∀g,q.ownBlock=some g->v.ownBlock=some g\/w.heap.size<=g):N4 W j e q (n++ [t])/\Below W.heap.size a j/\(∀b,wr.heap.size<=b->b < a.heap.size->j.heap[b]? =a.heap[b]?):=by
 obtain⟨M,p,m⟩:=p;have E:=k;have F:=l.size;have keep: ∀b,b < a.heap.size->(v.ownBlock≠some b)->j.heap[b]? =a.heap[b]? :=fun b c r=>(i.block b (by omega) (fun h=> r h.symm)).trans (l.heap b c)
 refine⟨⟨_,L++M,by simpa using B,B2.snoc (p.mono fun b c=> keep b (m.2 b c).2 fun f=> ?_) [] hx (C.mono fun b c=>(keep b (by have:=(hF.2 b c).2;omega) fun f=> ?_).trans (A b (hF.2 b c).1 (hF.2 b c).2)), ?_,fun g y hm=> ?_⟩, ?_⟩
 · have:=(hv b f).2.1
   have:=(m.2 b c).1;omega
 · exact(hv b f).1 c
 · have u:=hF.append (d:=a) m (aM _) z k
   exact u.mono (aM _) (by have:=i.size;omega)
 · rcases x g y with h|h
   · rcases List.mem_append.1 hm with hm|hm
     · exact(hv g h).1 hm
     · have:=(hv g h).2.1
       have:=(m.2 g hm).1;omega
   · rcases List.mem_append.1 hm with hm|hm
     · have:=(hF.2 g hm).2
       omega
     · have:=(m.2 g hm).2
       omega
 · refine⟨⟨i.os.trans l.os,i.tape.trans l.tape,i.output.trans l.output,by have:=i.size;omega,fun b c=> ?_⟩,fun b D s=> keep b s (fun f=> by have:=(hv b f).2.1;omega)⟩
   exact keep b (by omega) (fun f=> by have:=(hv b f).2.2;omega)
theorem XD{P:eP}(w:aK){o:Oper}{a:Act}{K:Act->aK->Prop}{Q:Exit->Act->aK->Prop}(s x:jK)(t:aY)
 (H:o.op= .call {callee:= .builtin .append,args:=#[s,x],argTypes:=#[t,t]})
 (e:aY) (i:iQ) (z:aS) (ht:P.underlying t=some (.slice e)) (hi:P.info? e=some i) (E:i.zero=some z) (f:i.size=3) (u:i.bytes=40) (q:z.cells.size=3)
 {W wr j:aK} {v:aS} {n:List Tr} {tr:Tr} {v0 v1 v2:aS} {y:Nat} (hs:a.eval s=v) (hG:N4 W wr e v n) (J:W.heap.size<=wr.heap.size) (l:wr.heap.size<=j.heap.size) (D: ∀b,W.heap.size<=b->b < wr.heap.size->j.heap[b]? =wr.heap[b]?) (B:P0 wr j e tr (.agg #[v0,v1,v2])) (r:Ext j w)
 (hx:a.eval x= .slice (some ⟨y,0,none⟩) 1 1) (A:w.heap[y]? =some (.cells #[v0,v1,v2] e (0,0))) (hn:n.length < 1099511627776)
 (h: ∀p k,N4 W k e p (n++ [tr])->Below W.heap.size j k->(∀b,wr.heap.size<=b->b < j.heap.size->k.heap[b]? =j.heap[b]?)->K (a.put o.dst p) k):o.wp P a w K Q:=by
 obtain⟨C,L,c,M,N,G⟩:=hG;have U:=l;have V:=r.size;have m:w.ownsRow W.heap.size e 3 v n.length C:=Yv c (fun g d=>(r.heap g (by have:=(c.lt g d).2;omega)).trans (D g (c.lt g d).1 (c.lt g d).2));obtain⟨p,k,hr,F,S,T⟩:=Mn (P:=P) w W.heap.size t o.type e i z 3 40 ht hi E f u q (by decide) v n.length C m ⟨y,0,none⟩ 1 1 [v0,v1,v2] rfl (wD A) (lJ B) (by unfold aU;omega) (by omega) (by omega);obtain⟨R,I,O⟩:=N4.step2 M N (fun g d=>⟨G g d,(c.lt g d).2,(c.lt g d).1⟩) c.1 J l D B r F S T;unfold Oper.wp execOp;simp only[H,resolve,invoke,builtin,iK,iL,fR,fX,gM,iM,hs,hx,hr];exact h p k R I O
theorem iJ{P:eP}(w:aK){ops:Array Oper}{o:Oper}{a:Act}{K:Act->aK->Prop}{Q:Exit->Act->aK->Prop}{E:Prop}(g:o.guard=none)(s x:jK)(t:aY)
 (y:o.op= .call {callee:= .builtin .append,args:=#[s,x],argTypes:=#[t,t]})
 (e:aY) (i:iQ) (z:aS) (ht:P.underlying t=some (.slice e)) (hi:P.info? e=some i) (r:i.zero=some z) (c:i.size=3) (l:i.bytes=40) (k:z.cells.size=3)
 {W wr d:aK} {v:aS} {n:List Tr} {tr:Tr} {v0 v1 v2:aS} {q:Nat} (hs:a.eval s=v) (hG:N4 W wr e v n) (A:W.heap.size<=wr.heap.size) (j:wr.heap.size<=d.heap.size) (C: ∀b,W.heap.size<=b->b < wr.heap.size->d.heap[b]? =wr.heap[b]?) (u:P0 wr d e tr (.agg #[v0,v1,v2])) (B:Ext d w)
 (hx:a.eval x= .slice (some ⟨q,0,none⟩) 1 1) (m:w.heap[q]? =some (.cells #[v0,v1,v2] e (0,0))) (hn:n.length < 1099511627776)
 (h: ∀p f,N4 W f e p (n++ [tr])->Below W.heap.size d f->(∀b,wr.heap.size<=b->b < d.heap.size->f.heap[b]? =d.heap[b]?)->K (a.put o.dst p) f):
 if eL o (yielded ops a.tmps)=true then Oper.wp P o a w K Q else E:=by
 have D:eL o (yielded ops a.tmps)=true:=by simp[eL,g]
 rw[if_pos D];exact XD w s x t y e i z ht hi r c l k hs hG A j C u B hx m hn h
