/- Lemmas towards the law. -/
import Derived.Test.YtckhbnmfnpolgaaGreatTAE
import Derived.BigQuiet
import Derived.Deep.RegionHeld3
import Derived.Deep.RegionWith
import Derived.Laws.AppendOwn
import Derived.Outline
import Derived.OwnWalk
import Derived.StillTailTactics
import Derived.Test.YtckhbnmfnpolgaaGreatProg
open Go renaming Program->fM,World->aN,TypeId->bU,TypeInfo->jU,Value->aU,maxLen->aW,Operand->kO,Calls->aY,bodyPost_ret->aQ
open Nat renaming zero_add->fV,le_refl->aP,zero_le->cO
open List renaming eq_nil_of_length_eq_zero->bW,map_toArray->gW,map_cons->iP,map_nil->jN,drop_eq_getElem_cons->cP,drop_of_length_le->dM
open Go.Sem renaming run_bind->iZ,run_pure->jM
open Go.Result renaming andThen_ok->gO
open Go.Region renaming wanted->eX
open Go.World renaming block_lt_of_cell?->bY,size_setCell->fO
open Go.Proofs.Tryz
set_option linter.all false
set_option maxHeartbeats 400000
set_option maxRecDepth 100000
namespace Go.Proofs.YtckhbnmfnpolgaaGreat
open Go.RowKit
theorem Oo{P:fM}(w:aN)(base:Nat)(t ty e:bU)(i:jU)(z:aU)(size bytes:Nat)(ht:P.underlying t=some (.slice e))(hi:P.info? e=some i)(D:i.zero=some z)
 (b:i.size=size) (q:i.bytes=bytes) (I:z.cells.size=size) (E:0 < size)
 (v:aU) (n:Nat) (y:List aU) (k:w.ownsRow base e size v n y)
 (a:Addr) (m c:Nat) (news:List aU) (hl:news.length=m*size) (f: ∀j u,news[j]? =some u->w.cell? (a.add j)=some u) (J: ∀u∈news,u.oneCell'=true)
 (p:n+m<=aW) (d:(n+m)*bytes<=140737488355328) (o:base<=w.heap.size):
 ∃B x,(Builtin.append_ #[t,t] ty #[v,.slice (some a) m c]).run P w= .ok B x/\x.ownsRow base e size B (n+m) (y++news)/\w.grownBy x v.ownBlock/\
  (∀g,B.ownBlock=some g->v.ownBlock=some g\/w.heap.size<=g):=by
 obtain⟨B,x,hr,O,K,L⟩:=run_append_own (P:=P) w base t ty e i z size bytes ht hi D b q I E v n y k a m c news hl f J p d o;refine⟨B,x,hr,O,K,fun g A=> ?_⟩;rcases k.2 with⟨rfl,rfl⟩ |⟨C,cap,s,rfl,_,G,S,R,H,F⟩
 · by_cases hm:m=0
   · rw[L.2 ⟨rfl,hm⟩] at A
     cases A
   · have M:m<=9223372036854775807:=by simp only[aW] at p;omega
     have r:=run_append_nil (P:=P) w t ty e i z ht hi D a m c news (by rw[hl,b]) f (by omega) (by omega) (by rw[q];have N:=d;simp only[fV] at N;omega);rw[r] at hr;cases hr
     simp only[Value.ownBlock,Option.some.injEq] at A;exact .inr (by omega)
 · by_cases l:n+m<=cap
   · have Q:n*i.size+news.length<=s.size:=by rw[hl,H,b,<-Nat.add_mul];exact Nat.mul_le_mul_right _ l
     have r:=run_append_room (P:=P) w t ty e i ht hi C n cap s G a m c news (by rw[hl,b]) f J l Q;rw[r] at hr;cases hr
     exact .inl A
   · have M:n+m<=9223372036854775807:=by simp only[aW] at p;omega
     have holds: ∀j u,y[j]? =some u->w.cell? ((⟨C,0,none⟩:Addr).add j)=some u:=k.cells (g:=C) rfl;have r:=run_append_grow (P:=P) w t ty e i z ht hi D ⟨C,0,none⟩ n cap y (by rw[k.1,b]) holds a m c news (by rw[hl,b]) f (by omega) (by omega) (by rw[q];exact growslice_fits (by omega) d);rw[r] at hr;cases hr
     simp only[Value.ownBlock,Option.some.injEq] at A;exact .inr (by omega)
def Y5(W w:aN)(e:bU)(v:aU)(b:List Tr):Prop:=
 ∃a L,w.ownsRow W.heap.size e 3 v b.length a/\O4 w e a b L/\Ye W w L/\ ∀g,v.ownBlock=some g-> ¬g∈L
theorem Y5.nil(W w:aN)(e:bU):Y5 W w e (.slice none 0 0) []:=
 ⟨[], [],World.ownsRow_nil _ _ _ _,O4.nil,Ye.nil _ _,fun _ _ h=> by cases h⟩
theorem xA{w c:aN}{base:Nat}{e:bU}{v:aU}{n:Nat}{b:List aU}(h:w.ownsRow base e 3 v n b)(f: ∀g,v.ownBlock=some g->c.heap[g]? =w.heap[g]?):c.ownsRow base e 3 v n b:=by
 refine⟨h.1, ?_⟩;rcases h.2 with h|⟨g,cap,a,rfl,i,d,r⟩
 · exact .inl h
 · exact .inr ⟨g,cap,a,rfl,i,(f g rfl).trans d,r⟩
theorem Y5.same{W w c:aN}{e:bU}{v:aU}{j:List Tr}(h:Y5 W w e v j)(hs:w.heap.size<=c.heap.size)(f: ∀b,W.heap.size<=b->b < w.heap.size->c.heap[b]? =w.heap[b]?):Y5 W c e v j:=by
 obtain⟨l,L,d,m,a,k⟩:=h;exact⟨l,L,xA d (fun g i=> f g (d.lt g i).1 (d.lt g i).2),m.mono (fun b hm=> f b (a.2 b hm).1 (a.2 b hm).2),a.mono (aP _) hs,k⟩
theorem Y5.ext{W w a:aN}{e:bU}{v:aU}{ks:List Tr}(h:Y5 W w e v ks)(c:Ext w a):Y5 W a e v ks:=h.same c.size (fun b _ d=> c.heap b d)
theorem Y5.after{W w c:aN}{e:bU}{v:aU}{d:List Tr}(h:Y5 W w e v d)(a:Ua W.heap.size w c):Y5 W c e v d:=h.same a.2 (fun b f _=> a.1 b f)
theorem Y5.made{W w:aN}{e:bU}{v:aU}{a:List Tr}(h:Y5 W w e v a): ∃A cap,v= .slice A a.length cap/\a.length<=cap/\cap<=aW/\Vi W w e A a:=by
 obtain⟨q,L,p,m,f,j⟩:=h;rcases p.2 with⟨rfl,o⟩ |⟨g,cap,c,rfl,k,i,l,d,n,ht⟩
 · have:a= []:=bW o
   subst this;exact⟨none,0,rfl,aP _,cO _,Vi.nil _ _ _ _⟩
 · refine⟨_,cap,rfl,l,d,g::L,.inr ⟨g,c,L,rfl,i,rfl, ?_⟩,List.nodup_cons.2 ⟨j g rfl,f.1⟩,fun b hm=> ?_⟩
   · have:=O4.tail (c.toList.drop (a.length*3)) m
     rw[<-ht,List.take_append_drop] at this;exact this
   · rcases List.mem_cons.1 hm with rfl|hm
     · exact⟨k,D1 i⟩
     · exact f.2 b hm
theorem dL{w b:aN}{e:bU}{t:Tr}{v0 v1 v2:aU}(h:W0 w b e t (.agg #[v0,v1,v2])): ∀u∈ [v0,v1,v2],u.oneCell'=true:=by
 obtain⟨k,n,c⟩:=t;obtain⟨A,cap,hv,_⟩:=W0.mk_iff.1 h;simp only[Value.agg.injEq,Array.mk.injEq,List.cons.injEq,and_true] at hv;obtain⟨rfl,rfl,rfl⟩:=hv;intro u a;simp only[List.mem_cons,List.not_mem_nil,or_false] at a;rcases a with rfl|rfl|rfl <;> rfl
theorem SF{w:aN}{g:Nat}{v0 v1 v2:aU}{e:bU}(h:w.heap[g]? =some (.cells #[v0,v1,v2] e (0,0))): ∀j u, [v0,v1,v2][j]? =some u->w.cell? ((⟨g,0,none⟩:Addr).add j)=some u:=by
 intro j u a;rw[Addr.add_lit,fV,E1 h]
 simpa using a
theorem Y5.step{W wr i w k:aN}{e:bU}{v r:aU}{n:List Tr}{t:Tr}{v0 v1 v2:aU}{q:List aU}{L:List Nat}
 (A:O4 wr e q n L) (hF:Ye W wr L) (hv: ∀g,v.ownBlock=some g-> ¬g∈L/\g < wr.heap.size/\W.heap.size<=g) (hx:q.length=n.length*3) (y:W.heap.size<=wr.heap.size) (c:Ext wr i) (p:W0 wr i e t (.agg #[v0,v1,v2])) (m:Ext i w)
 (x:k.ownsRow W.heap.size e 3 r (n.length+1) (q++ [v0,v1,v2])) (f:w.grownBy k v.ownBlock) (s: ∀g,r.ownBlock=some g->v.ownBlock=some g\/w.heap.size<=g):Y5 W k e r (n++ [t])/\Below W.heap.size wr k:=by
 obtain⟨M,p,j⟩:=p;have C:=c.size;have B:=m.size;have keep: ∀b,b < i.heap.size->(v.ownBlock≠some b)->k.heap[b]? =i.heap[b]? :=fun b a o=>(f.block b (by omega) (fun h=> o h.symm)).trans (m.heap b a)
 refine⟨⟨_,L++M,by simpa using x,O4.snoc (p.mono fun b a=> keep b (j.2 b a).2 fun l=> ?_) [] hx (A.mono fun b a=>(keep b (by have:=(hF.2 b a).2;omega) fun l=> ?_).trans (c.heap b (hF.2 b a).2)), ?_,fun g z hm=> ?_⟩, ?_⟩
 · have:=(hv b l).2.1
   have:=(j.2 b a).1;omega
 · exact(hv b l).1 a
 · have u:=hF.append (d:=i) j (aP _) y c.size
   exact u.mono (aP _) (by have:=f.size;omega)
 · rcases s g z with h|h
   · rcases List.mem_append.1 hm with hm|hm
     · exact(hv g h).1 hm
     · have:=(hv g h).2.1
       have:=(j.2 g hm).1;omega
   · rcases List.mem_append.1 hm with hm|hm
     · have:=(hF.2 g hm).2
       omega
     · have:=(j.2 g hm).2
       omega
 · refine⟨f.os.trans (m.os.trans c.os),f.tape.trans (m.tape.trans c.tape),f.output.trans (m.output.trans c.output),by have:=f.size;omega,fun b a=> ?_⟩
   exact(keep b (by omega) (fun l=> by have:=(hv b l).2.2;omega)).trans (c.heap b (by omega))
theorem SI{P:fM}(w:aN){o:Oper}{a:Act}{K:Act->aN->Prop}{Q:Exit->Act->aN->Prop}(s x:kO)(t:bU)
 (H:o.op= .call {callee:= .builtin .append,args:=#[s,x],argTypes:=#[t,t]})
 (e:bU) (i:jU) (z:aU) (ht:P.underlying t=some (.slice e)) (hi:P.info? e=some i) (D:i.zero=some z) (b:i.size=3) (y:i.bytes=40) (r:z.cells.size=3)
 {W wr m:aN} {v:aU} {j:List Tr} {tr:Tr} {v0 v1 v2:aU} {p:Nat} (hs:a.eval s=v) (hG:Y5 W wr e v j) (N:W.heap.size<=wr.heap.size) (q:Ext wr m) (A:W0 wr m e tr (.agg #[v0,v1,v2])) (u:Ext m w)
 (hx:a.eval x= .slice (some ⟨p,0,none⟩) 1 1) (n:w.heap[p]? =some (.cells #[v0,v1,v2] e (0,0))) (hn:j.length < 1099511627776)
 (h: ∀l d,Y5 W d e l (j++ [tr])->Below W.heap.size wr d->K (a.put o.dst l) d):o.wp P a w K Q:=by
 obtain⟨B,L,k,M,C,G⟩:=hG;have S:=q.size;have R:=u.size;have c:w.ownsRow W.heap.size e 3 v j.length B:=xA k (fun g f=>(q.trans u).heap g (k.lt g f).2);obtain⟨l,d,hr,I,J,O⟩:=Oo (P:=P) w W.heap.size t o.type e i z 3 40 ht hi D b y r (by decide) v j.length B c ⟨p,0,none⟩ 1 1 [v0,v1,v2] rfl (SF n) (dL A) (by unfold aW;omega) (by omega) (by omega);obtain⟨F,E⟩:=Y5.step M C (fun g f=>⟨G g f,(k.lt g f).2,(k.lt g f).1⟩) k.1 N q A u I J O;unfold Oper.wp execOp;simp only[H,resolve,invoke,builtin,iZ,jM,gO,gW,iP,jN,hs,hx,hr];exact h l d F E
theorem ED{P:fM}(w:aN){ops:Array Oper}{o:Oper}{a:Act}{K:Act->aN->Prop}{Q:Exit->Act->aN->Prop}{E:Prop}(k:o.guard=none)(s x:kO)(t:bU)
 (r:o.op= .call {callee:= .builtin .append,args:=#[s,x],argTypes:=#[t,t]})
 (e:bU) (i:jU) (z:aU) (ht:P.underlying t=some (.slice e)) (hi:P.info? e=some i) (p:i.zero=some z) (b:i.size=3) (l:i.bytes=40) (j:z.cells.size=3)
 {W wr c:aN} {v:aU} {g:List Tr} {tr:Tr} {v0 v1 v2:aU} {m:Nat} (hs:a.eval s=v) (hG:Y5 W wr e v g) (y:W.heap.size<=wr.heap.size) (A:Ext wr c) (u:W0 wr c e tr (.agg #[v0,v1,v2])) (B:Ext c w)
 (hx:a.eval x= .slice (some ⟨m,0,none⟩) 1 1) (d:w.heap[m]? =some (.cells #[v0,v1,v2] e (0,0))) (hn:g.length < 1099511627776)
 (h: ∀n f,Y5 W f e n (g++ [tr])->Below W.heap.size wr f->K (a.put o.dst n) f):
 if eX o (yielded ops a.tmps)=true then Oper.wp P o a w K Q else E:=by
 have q:eX o (yielded ops a.tmps)=true:=by simp[eX,k]
 rw[if_pos q];exact SI w s x t r e i z ht hi p b l j hs hG y A u B hx d hn h
theorem d5.copy{w:aN}{S:Nat->Prop}{b:Nat}: ∀{o:Nat} {g:List Tr},d5 w S b o g-> ∃news:List aU,news.length=g.length*3/\(∀j u,news[j]? =some u->w.cell? ⟨b,o+j,none⟩=some u)/\(∀u∈news,u.oneCell'=true)/\
 ∀(d:aN) (f:Nat->Prop) (e c:Nat),(∀x,S x->f x/\d.heap[x]? =w.heap[x]?)->(∀j u,news[j]? =some u->d.cell? ⟨e,c+j,none⟩=some u)->d5 d f e c g
 |o, [],_=>⟨[],rfl,(fun j u h=> by simp at h),(fun u h=> by simp at h),(fun _ _ _ _ _ _=> by unfold d5;trivial)⟩
 |o,t::ts,h=> by
  unfold d5 at h;obtain⟨⟨v0,v1,v2,q,i,v,ht⟩,p⟩:=h;obtain⟨news,m,l,s,r⟩:=d5.copy p;refine⟨v0::v1::v2::news,by simp[m];omega,fun j u a=> ?_,fun u a=> ?_,fun d f e c hS hc=> ?_⟩
  · match j,a with
    |0,a=> simpa using(by simpa using a:v0=u)▸q
    |1,a=> simpa using(by simpa using a:v1=u)▸i
    |2,a=> simpa using(by simpa using a:v2=u)▸v
    |j+3,a=>
     have:=l j u (by simpa using a)
     rwa [show o+3+j=o+(j+3) by omega] at this
  · obtain⟨k,n,kids⟩:=t
    obtain⟨A,cap,hv,_⟩:=InT.mk_iff.1 ht;simp only[Value.agg.injEq,Array.mk.injEq,List.cons.injEq,and_true] at hv;obtain⟨rfl,rfl,rfl⟩:=hv;simp only[List.mem_cons] at a;rcases a with rfl|rfl|rfl|a
    · rfl
    · rfl
    · rfl
    · exact s u a
  · unfold d5
    refine⟨⟨v0,v1,v2,by simpa using hc 0 v0 rfl,hc 1 v1 rfl,hc 2 v2 rfl,ht.mono (fun x hx=>(hS x hx).1) (fun x hx=>(hS x hx).2)⟩,r d f e (c+3) hS fun j u a=> ?_⟩;have:=hc (j+3) u (by simpa using a)
    rwa [show c+(j+3)=c+3+j by omega] at this
theorem PL{P:fM}(w:aN){ops:Array Oper}{rest:List Oper}{o:Oper}{a:Act}{Q:Exit->Act->aN->Prop}(U:o.guard=none)(s x:kO)(t:bU)
 (ho:o.op= .call {callee:= .builtin .append,args:=#[s,x],argTypes:=#[t,t]})
 (e:bU) (i:jU) (z:aU) (ht:P.underlying t=some (.slice e)) (hi:P.info? e=some i) (hz:i.zero=some z) (q:i.size=3) (L:i.bytes=40) (T:z.cells.size=3)
 {W:aN} {v:aU} {A:Option Addr} {cap:Nat} {ks:List Tr} (hs:a.eval s=v) (l:w.ownsRow W.heap.size e 3 v 0 []) (hE:Ext W w) (hx:a.eval x= .slice A ks.length cap) (oa:A=none->cap=0) {S:Nat->Prop} (hS: ∀b,S b->b < W.heap.size) (hK:InK W S A ks) (hn:ks.length<=1099511627776)
 (h: ∀B f d,InK d (fun b=> S b\/W.heap.size<=b/\b < d.heap.size) B ks->ks.length<=f->f<=aW->Ext W d->(B=none->f=0)->wpList P ops Q rest (a.put o.dst (.slice B ks.length f)) d):wpList P ops Q (o::rest) a w:=by
 refine wpList_plain U fun K F=> ?_
 have key: ∃m d,(Builtin.append_ #[t,t] o.type #[v,.slice A ks.length cap]).run P w= .ok m d/\ ∃B f,m= .slice B ks.length f/\InK d (fun b=> S b\/W.heap.size<=b/\b < d.heap.size) B ks/\ks.length<=f/\f<=aW/\Ext W d/\(B=none->f=0):=by
  cases A with
  |none=>
   obtain rfl:=oa rfl;have C:ks= []:=by
    rcases hK with h|⟨b,o,h,_⟩
    · exact h
    · cases h
   subst C;have hr:=run_append_owned_none (P:=P) w W.heap.size t o.type e i 3 ht hi v 0 [] l;refine⟨v,w,hr, ?_⟩;rcases l.2 with⟨rfl,_⟩ |⟨g,c,G,rfl,_,_,h1,h2,_⟩
   · exact⟨none,0,rfl,.inl rfl,aP _,cO _,hE,fun _=> rfl⟩
   · exact⟨_,c,rfl,.inl rfl,h1,h2,hE,fun h=> by cases h⟩
  |some H=>
   have hE': ∀d,w.grownBy d v.ownBlock->Ext W d:=fun d y=> hE.grown y (fun k hk=>(l.lt k hk).1)
   have hb: ∀(news:List aU),news.length=ks.length*3->(∀j u,news[j]? =some u->w.cell? (H.add j)=some u)->(∀u∈news,u.oneCell'=true)->
    ∃m d,(Builtin.append_ #[t,t] o.type #[v,.slice (some H) ks.length cap]).run P w= .ok m d/\Ext W d/\ ∃B f,m= .slice B ks.length f/\ks.length<=f/\f<=aW/\(B=none->f=0)/\
     (ks≠ []-> ∃g,B=some ⟨g,0,none⟩/\W.heap.size<=g/\g < d.heap.size/\ ∀j u,news[j]? =some u->d.cell? ⟨g,0+j,none⟩=some u):=by
    intro news E X I;obtain⟨m,d,hr,r,R,r3⟩:=Oo (P:=P) w W.heap.size t o.type e i z 3 40 ht hi hz q L T (by decide) v 0 [] l H ks.length cap news E X I (by unfold aW;omega) (by omega) hE.size;refine⟨m,d,hr,hE' d R, ?_⟩;have hc:=fun g y=> r.cells (g:=g) y
    have hlt:=r.lt;rcases r.2 with⟨rfl,h0⟩ |⟨g,c,G,rfl,h5,h6,h1,h2,_⟩
    · exact⟨none,0,by rw[show ks.length=0 by omega],by omega,cO _,fun _=> rfl,fun n=> absurd (bW (by omega)) n⟩
    · refine⟨_,c,by rw[fV],by omega,h2,fun h=> by(cases h),fun _=>⟨g,rfl,h5,D1 h6,fun j u Y=> ?_⟩⟩
      have:=hc g rfl j u (by simpa using Y)
      rwa [Addr.add_lit] at this
   rcases hK with rfl|⟨b,o,V,hb',hl⟩
   · obtain⟨m,d,hr,hx,B,f,M,O,N,J,_⟩:=hb [] rfl (fun _ _ h=> by cases h) (fun _ h=> by cases h)
     exact⟨m,d,hr,B,f,M,.inl rfl,O,N,hx,J⟩
   · obtain rfl:=Option.some.inj V
     obtain⟨news,E,X,I,n4⟩:=hl.copy;obtain⟨m,d,hr,hx,B,f,M,O,N,J,q5⟩:=hb news E (fun j u Y=> by rw[Addr.add_lit];exact hE.cell (X j u Y)) I;refine⟨m,d,hr,B,f,M, ?_,O,N,hx,J⟩;by_cases n:ks= []
     · exact .inl n
     · obtain⟨g,rfl,Z,y,p⟩:=q5 n
       exact .inr ⟨g,0,rfl,.inr ⟨Z,y⟩,n4 d _ g 0 (fun x D=>⟨.inl D,hx.heap x (hS x D)⟩) p⟩
 obtain⟨m,d,hr,B,f,rfl,r,R,r3,r4,r5⟩:=key;unfold Oper.wp execOp;simp only[ho,resolve,invoke,builtin,iZ,jM,gO,gW,iP,jN,hs,hx,hr];exact F _ _ (h B f d r R r3 r4 r5)
end Go.Proofs.YtckhbnmfnpolgaaGreat
namespace Go.Proofs.YtckhbnmfnpolgaaGreat
def N6(l:List UInt8):ByteArray:=⟨l.toArray⟩
theorem fd(a b:List UInt8):N6 a++N6 b=N6 (a++b):=by
 apply ByteArray.ext
 simp[N6]
theorem zv(l:List UInt8):(N6 l).size=l.length:=by simp[N6,ByteArray.size]
theorem bD(l:List UInt8):(N6 l).data.toList=l:=by simp[N6]
def Yc(n:Int):List UInt8:=if n<=9 then [UInt8.ofNat (48+n.toNat)] else [UInt8.ofNat (48+n.toNat / 10),UInt8.ofNat (48+n.toNat % 10)]
def ff(k:Int):List UInt8:=
 if k=3 then [40] else if k=4 then [91] else if k=5 then [40] else if k=6 then [78] else if k=7 then [48] else if k=8 then [43] else if k=9 then [60] else if k=10 then [123] else if k=11 then [33] else if k=12 then [64,60] else if k=13 then [40] else if k=14 then [124] else if k=15 then [94] else if k=16 then [95] else []
def oj(k:Int):List UInt8:=
 if k=3 then [62] else if k=4 then [93] else if k=5 then [32] else if k=13 then [42] else [44]
def pf(k:Int):List UInt8:=
 if k=3 then [41] else if k=5 then [41] else if k=9 then [62] else if k=10 then [125] else if k=12 then [62] else if k=13 then [41] else if k=14 then [124] else []
mutual
def N3:Tr->List UInt8
 | .mk k n a=> if k=1 then 35::Yc n else if k=2 then 42::Yc n else ff k++D7 (oj k) a true++pf k
def D7:List UInt8->List Tr->Bool->List UInt8
 |_, [],_=> []
 |s,t::ts,f=>(if f=true then [] else s)++N3 t++D7 s ts false
end
theorem Zy(n:Int):(Yc n).length<=2:=by unfold Yc;split <;> simp
theorem ir(k:Int):(ff k).length<=2:=by
 unfold ff;by_cases e:k=3
 · rw[if_pos e];decide
 rw[if_neg e];by_cases m:k=4
 · rw[if_pos m];decide
 rw[if_neg m];by_cases i:k=5
 · rw[if_pos i];decide
 rw[if_neg i];by_cases j:k=6
 · rw[if_pos j];decide
 rw[if_neg j];by_cases l:k=7
 · rw[if_pos l];decide
 rw[if_neg l];by_cases h8:k=8
 · rw[if_pos h8];decide
 rw[if_neg h8];by_cases n:k=9
 · rw[if_pos n];decide
 rw[if_neg n];by_cases a:k=10
 · rw[if_pos a];decide
 rw[if_neg a];by_cases b:k=11
 · rw[if_pos b];decide
 rw[if_neg b];by_cases g:k=12
 · rw[if_pos g];decide
 rw[if_neg g];by_cases o:k=13
 · rw[if_pos o];decide
 rw[if_neg o];by_cases d:k=14
 · rw[if_pos d];decide
 rw[if_neg d];by_cases f:k=15
 · rw[if_pos f];decide
 rw[if_neg f];by_cases c:k=16
 · rw[if_pos c];decide
 rw[if_neg c]
 decide
theorem Vo(k:Int):(oj k).length=1:=by
 unfold oj;by_cases a:k=3
 · rw[if_pos a];decide
 rw[if_neg a];by_cases b:k=4
 · rw[if_pos b];decide
 rw[if_neg b];by_cases c:k=5
 · rw[if_pos c];decide
 rw[if_neg c];by_cases d:k=13
 · rw[if_pos d];decide
 rw[if_neg d]
 decide
theorem en(k:Int):(pf k).length<=1:=by
 unfold pf;by_cases c:k=3
 · rw[if_pos c];decide
 rw[if_neg c];by_cases e:k=5
 · rw[if_pos e];decide
 rw[if_neg e];by_cases f:k=9
 · rw[if_pos f];decide
 rw[if_neg f];by_cases a:k=10
 · rw[if_pos a];decide
 rw[if_neg a];by_cases d:k=12
 · rw[if_pos d];decide
 rw[if_neg d];by_cases g:k=13
 · rw[if_pos g];decide
 rw[if_neg g];by_cases b:k=14
 · rw[if_pos b];decide
 rw[if_neg b]
 decide
mutual
theorem Yg: ∀t:Tr,(N3 t).length+1<=5*cnt t
 | .mk k n a=> by
  have e:=Zy n;have b:=ir k;have c:=en k;have d:=gA (oj k) (by rw[Vo k];omega) a true;unfold N3;simp only[cnt]
  split
  · simp;omega
  · split
    · simp;omega
    · simp;omega
theorem gA(s:List UInt8)(hs:s.length<=1): ∀(ts:List Tr) (f:Bool),(D7 s ts f).length<=5*O1 ts
 | [],_=> by simp[D7]
 |t::ts,f=> by
  have b:=Yg t;have a:=gA s hs ts false;unfold D7;simp only[O1];cases f <;> simp <;> omega
end
def Rg(t:Tr):List UInt8:=if valid sigT t=true then N3 t else []
def eg(c:UInt8):Bool:=decide (48<=c)&& decide (c<=57)
def Y8(l:List UInt8)(a:Nat)(two:Bool):Option (Int×Nat):=
 match l[a]?with
 |none=> none
 |some c=> if eg c=true then
  (if two=true then
   match l[a+1]?with
   |none=> some ((c.toNat:Int) - 48,a+1)
   |some d=> if eg d=true then(if c=48 then none else some (((c.toNat:Int) - 48)*10+((d.toNat:Int) - 48),a+2)) else some ((c.toNat:Int) - 48,a+1)
  else some ((c.toNat:Int) - 48,a+1))
  else none
def Xe(p:Nat->Option (Tr×Nat))(l:List UInt8)(last:UInt8):Nat->Nat->Option (List Tr×Nat)
 |0,a=> some ([],a)
 |m+1,a=> match p a with
  |none=> none
  |some (t,b)=> if l[b]? =some (if m=0 then last else 44) then(Xe p l last m (b+1)).map (fun x=>(t::x.1,x.2)) else none
def one(k:Int)(x:Option (Tr×Nat)):Option (Tr×Nat):=x.map fun y=>(.mk k 0 [y.1],y.2)
def Zf(c:Option UInt8):Int:=if c=some 62 then 3 else if c=some 42 then 13 else if c=some 32 then 5 else 0
def Yz(p:Nat->Option (Tr×Nat))(l:List UInt8)(a:Nat):Option (Tr×Nat):=
 match p a with
 |none=> none
 |some (x,b)=> if Zf l[b]? =0 then none else
  match p (b+1) with
  |none=> none
  |some (y,c)=> if l[c]? =some 41 then some (.mk (Zf l[b]?) 0 [x,y],c+1) else none
def yD(p:Nat->Option (Tr×Nat))(l:List UInt8)(a:Nat):Option (Tr×Nat):=
 match p a with
 |none=> none
 |some (x,b)=> if l[b]? =some 93 then(match p (b+1) with|none=> none|some (y,c)=> some (.mk 4 0 [x,y],c)) else none
def Kk(c:UInt8):Int:=if c=60 then 9 else if c=123 then 10 else if c=124 then 14 else if c=64 then 12 else 0
def iI(c:UInt8):UInt8:=if c=123 then 125 else if c=124 then 124 else 62
def blk(p:Nat->Option (Tr×Nat))(l:List UInt8)(a:Nat)(c:UInt8):Option (Tr×Nat):=
 if Kk c=0 then none
 else if c=64 then(if l[a+1]? =some 60 then(Xe p l 62 3 (a+2)).map (fun x=>(.mk 12 0 x.1,x.2)) else none)
 else(Xe p l (iI c) (if c=60 then 4 else 3) (a+1)).map (fun x=>(.mk (Kk c) 0 x.1,x.2))
def b7:Nat->List UInt8->Nat->Option (Tr×Nat)
 |0,_,_=> none
 |d+1,l,a=>
  match l[a]?with
  |none=> none
  |some c=>
   if c=35 then(Y8 l (a+1) true).map (fun x=>(.mk 1 x.1 [],x.2))
   else if c=42 then(Y8 l (a+1) false).map (fun x=>(.mk 2 x.1 [],x.2))
   else if c=78 then some (.mk 6 0 [],a+1)
   else if c=48 then some (.mk 7 0 [],a+1)
   else if c=43 then one 8 (b7 d l (a+1))
   else if c=33 then one 11 (b7 d l (a+1))
   else if c=94 then one 15 (b7 d l (a+1))
   else if c=95 then one 16 (b7 d l (a+1))
   else if c=40 then Yz (b7 d l) l (a+1)
   else if c=91 then yD (b7 d l) l (a+1)
   else blk (b7 d l) l a c
def bd(l:List UInt8):Option Tr:=
 match b7 30 l 0 with
 |none=> none
 |some (t,b)=> if l≠ []/\b=l.length/\Rg t=l then some t else none
theorem GJ{l:List UInt8}{t:Tr}(h:bd l=some t):valid sigT t=true/\N3 t=l:=by
 unfold bd at h
 split at h
 · cases h
 · rename_i f b _
   split at h
   · rename_i c
     cases h
     obtain⟨d,e,a⟩:=c;unfold Rg at a
     split at a
     · rename_i hv
       exact⟨hv,a⟩
     · exact absurd a.symm d
   · cases h
end Go.Proofs.YtckhbnmfnpolgaaGreat
namespace Go.Proofs.YtckhbnmfnpolgaaGreat
open Go.RowKit
def At(w:aN)(p:aN->Prop):Prop:= ∀a,Ext w a->p a
structure q33 (W:aN) where
 world:aN
 ext:Ext W world
instance (W:aN):Nonempty (q33 W):=⟨⟨W,xr W⟩⟩
theorem Hm{P:fM}{id:Nat}{Q:Exit->Act->aN->Prop}{a:Act}{W:aN}{l:List Oper}(hm:P.follows .mixedOrders=true)(d:Region.lexB .any l.toArray=true)
 (h:wpQuiet P l.toArray (fun b=> ∃x:q33 W,b=x.world) (fun c=> ∀b,(∃x:q33 W,b=x.world)->Q .normal c b) l a):(Code.region id l.toArray true).wp P Q a W:=
 wp_region_quiet (C:=fun b=> ∃x:q33 W,b=x.world) hm d ⟨⟨_,(xr W).drew⟩,rfl⟩ (by simpa using h)
theorem TE{P:fM}{f:FuncId}{args:Array aU}{W:aN}{x:q33 W}{v:aU}(h:aY P f args x.world fun e b=> e= .returned v/\Ext x.world b):
 aY P f args x.world fun e a=> e= .returned v/\ ∃y:q33 W,a=y.world:=
 h.mono fun e b ⟨d,c⟩=>⟨d,⟨b,x.ext.trans c⟩,rfl⟩
theorem Be{P:fM}{f:FuncId}{args:Array aU}{W:aN}{x:q33 W}{v:aU}(h:aY P f args x.world fun e b=> e= .returned v/\x.world=b):
 aY P f args x.world fun e a=> e= .returned v/\ ∃y:q33 W,a=y.world:=
 h.mono fun e b ⟨d,c⟩=>⟨d,x,c.symm⟩
theorem q33.own3{W:aN}{g:Nat}{d c b:aU}{e:bU}(a:W.heap[g]? =some (.cells #[d,c,b] e (0,0))):
 (∀y:q33 W,y.world.cell? ⟨g,0,none⟩=some d)/\(∀y:q33 W,y.world.cell? ⟨g,1,none⟩=some c)/\(∀y:q33 W,y.world.cell? ⟨g,2,none⟩=some b):=
 ⟨fun y=> y.ext.cell (E1 a 0),fun y=> y.ext.cell (E1 a 1),fun y=> y.ext.cell (E1 a 2)⟩
theorem q33.cell{W:aN}{b o:Nat}{v:aU}(h:W.cell? ⟨b,o,none⟩=some v)(y:q33 W):y.world.cell? ⟨b,o,none⟩=some v:=y.ext.cell h
def EC(t:Tr):Prop:= ∀(w:aN) (a:Tr) (v b:aU),Lies w t v->Lies w a b->
 aY prog 15 #[v,b] w fun e c=> e= .returned (.bool (n8 t a))/\Ext w c
theorem vG(d a:List Tr)(hk: ∀t∈d,EC t)(w:aN)(A G:Option Addr)(cap g:Nat)(h:V8 w A d)(hl:d.length<=cap)(hc:cap<=aW)(R:V8 w G a)(I:a.length<=g)(v:g<=aW):
 aY prog 47 #[.slice A d.length cap,.slice G a.length g,.func (.func 15) #[] #[]] w fun e M=> e= .returned (.bool (a9 d a))/\Ext w M:=by
 unfold aW at hc v;by_cases u:d.length=a.length
 · have hd:((d.length:Int) !=(a.length:Int))=false:=by rw[u];simp
   have H:=hdq u;clear u;go_enter func47,ntmps47;go_wp2_with fail
   go_loopw [17] (fun i wr=> ∃j:Nat,j<=d.length/\i= j0 j/\a9 d a=a9 (d.drop j) (a.drop j)/\Ext w wr) (fun i _=> d.length -(intOf i).toNat)
   case atStart=> exact⟨0,cO _,rfl,rfl,xr _⟩
   case round=>
    obtain⟨j,W,rfl,p,s⟩:=hrel;have y:=hdq p;clear p;by_cases l:j < d.length
    · have F:j < a.length:=by rw[<-H.out];exact l
      obtain⟨b,o,k,n,B,c,kids,rfl,Q,Y,V,c2,I7,I6,hK,U,T⟩:=h.get s l;obtain⟨b',Z,z,C,B',c',D,rfl,S,N,P,Jk,Ic,Iz,J,K,Bf⟩:=R.get s F;have L:=bY _ _ N;have f:a9 (d.drop j) (a.drop j)=(n8 (.mk k n kids) (.mk z C D)&& a9 (d.drop (j+1)) (a.drop (j+1))):=by
       rw[cP l,cP F,Q.out,S.out]
       conv=> lhs;unfold a9
      have m:=hdq f;clear f;go_wp2_with fail;refine(hk _ T _ (.mk z C D) _ _ (U.ext (((xr wr).alloc _).alloc _)) (K.ext (((xr wr).alloc _).alloc _))).mono ?_;rintro e X ⟨rfl,x⟩;have r:=s.trans x.pre.pre;generalize n8 (.mk k n kids) (.mk z C D)=q at m;cases q with
      |false=>
       go_wp2_with fail;go_ret;exact⟨by rw[y.out,m.out];rfl,r⟩
      |true=>
       go_wp2_with fail
       go_roundw
       case rel=> exact⟨j+1,by omega,by go_num,by rw[y.out,m.out];rfl,r⟩
       case measure=> simp[intOf];omega
    · go_wp2_with fail
      go_ret;exact⟨by rw[y.out,dM (by omega),dM (by rw[<-H.out];omega)];rfl,s⟩
 · have hd:((d.length:Int) !=(a.length:Int))=true:=by rw[bne_iff_ne];omega
   have e:a9 d a=false:=by
    rw[Bool.eq_false_iff];intro O;exact u (KE O)
   have E:=hdq e;clear e;go_enter func47,ntmps47;go_wp2_with fail;go_ret;exact⟨by rw[E.out];rfl,xr _⟩
theorem kG: ∀t:Tr,EC t:=Tr.ind fun k n i hk=> by
 intro w x v B h o;obtain⟨A,cap,rfl,hl,hc,hK⟩:=Lies.mk_iff.1 h;obtain⟨c,f,a⟩:=x;obtain⟨u,g,rfl,l,j,m⟩:=Lies.mk_iff.1 o;clear h o;have q:=fun W (p:Ext w W)=> vG i a hk W A u cap g (hK.ext p) hl hc (m.ext p) l j
 have y:=hdq q;clear q;by_cases b:k=c
 · by_cases d:n=f
   · have e:n8 (.mk k n i) (.mk c f a)=a9 i a:=by simp[n8,b,d]
     have E:=hdq e;have r:(k==c)=true:=by simp[b]
     have s:(n==f)=true:=by simp[d]
     clear e b d;go_enter func15,ntmps15;go_wp2_with fail;refine(y.out _ (((xr w).alloc _).alloc _)).mono ?_;rintro e z ⟨rfl,hE⟩;go_wp2_with fail;go_ret;exact⟨by rw[E.out];rfl,hE.pre.pre⟩
   · have e:n8 (.mk k n i) (.mk c f a)=false:=by simp[n8,d]
     have E:=hdq e;have r:(k==c)=true:=by simp[b]
     have s:(n==f)=false:=by simpa using d
     clear e b d;go_enter func15,ntmps15;go_wp2_with fail;go_ret;exact⟨by rw[E.out];rfl,((xr w).alloc _).alloc _⟩
 · have e:n8 (.mk k n i) (.mk c f a)=false:=by simp[n8,b]
   have E:=hdq e;have r:(k==c)=false:=by simpa using b
   clear e b;go_enter func15,ntmps15;go_wp2_with fail;go_ret;exact⟨by rw[E.out];rfl,((xr w).alloc _).alloc _⟩
def sJ(t:Tr):Prop:= ∀(w:aN) (a:Tr) (v b:aU),Lies w t v->Lies w a b->
 aY prog 159 #[v,b] w fun e c=> e= .returned (.bool (n8 t a))/\Ext w c
theorem aL: ∀t:Tr,sJ t:=Tr.ind fun k n f hk=> by
 intro w t' v v' R F;obtain⟨A,cap,rfl,hl,hc,h⟩:=Lies.mk_iff.1 R;obtain⟨l,m,a⟩:=t';obtain⟨W,r,rfl,hl',N,h'⟩:=Lies.mk_iff.1 F;clear R F;unfold aW at hc N;by_cases p:k=l
 · by_cases s:n=m
   · by_cases y:f.length=a.length
     · have e:n8 (.mk k n f) (.mk l m a)=a9 f a:=by simp[n8,p,s]
       have E:=hdq e;have P:(k !=l)=false:=by simp[p]
       have d2:(n !=m)=false:=by simp[s]
       have hd:((f.length:Int) !=(a.length:Int))=false:=by rw[y];simp
       have V:=hdq y;clear e p s y;go_enter func159,ntmps159;go_wp2_with fail;have g:Ext w ((w.alloc (D0 k n A f.length cap)).alloc (D0 l m W a.length r)):=((xr w).alloc _).alloc _;have U:=blk2 (xr ((w.alloc (D0 k n A f.length cap)).alloc (D0 l m W a.length r)));generalize (w.alloc _).alloc _=w2 at g U;obtain⟨Y,T,hs2⟩:=U;have bi:=hdq Y;have ui:=hdq T;clear Y T
       go_loopw [5] (fun i wr=> ∃j:Nat,j<=f.length/\i= j0 j/\a9 f a=a9 (f.drop j) (a.drop j)/\Ext w2 wr) (fun i _=> f.length -(intOf i).toNat)
       case atStart=> exact⟨0,cO _,rfl,rfl,xr _⟩
       case round=>
        obtain⟨j,hj,rfl,z,x⟩:=hrel;obtain⟨-,-,x2,-,-,-⟩:=own3 (x.blk bi.out);obtain⟨-,-,y2,-,-,-⟩:=own3 (x.blk ui.out);have M:=hdq z;clear z;by_cases u:j < f.length
        · have Z:j < a.length:=by rw[<-V.out];exact u
          obtain⟨b,o,X,S,B,c,kids,rfl,HK,c0,c1,c2,I7,I6,hK,H,i7⟩:=h.get (g.trans x) u;obtain⟨b',o',Q,L,B',c',I,rfl,Mh,Ht,K,Jk,Ic,Iz,hK',G,Bf⟩:=h'.get (g.trans x) Z;have d:a9 (f.drop j) (a.drop j)=(n8 (.mk X S kids) (.mk Q L I)&& a9 (f.drop (j+1)) (a.drop (j+1))):=by
           rw[cP u,cP Z,HK.out,Mh.out]
           conv=> lhs;unfold a9
          go_wp2_with fail
          go_still_tail 10,(by kernel_rfl)
          change wpList _ _ _ _ _ wr.drew
          replace H:=H.ext (xr _).drew;replace G:=G.ext (xr _).drew;have D:=x.drew;generalize wr.drew=w3 at H G D;clear c0 c1 c2 Ht K Jk x2 y2;go_wp2_with fail;refine(hk _ i7 w3 (.mk Q L I) _ _ H G).mono ?_;rintro e w1 ⟨rfl,J⟩;have C:=D.trans J;generalize n8 (.mk X S kids) (.mk Q L I)=q at d;cases q with
          |false=>
           have O:=hdq d;clear d;go_wp2_with fail;go_ret;exact⟨by rw[E.out,M.out,O.out];rfl,g.trans C⟩
          |true=>
           have O:=hdq d;clear d;go_wp2_with fail
           go_roundw
           case rel=> exact⟨j+1,by omega,by go_num,by rw[M.out,O.out];rfl,C⟩
           case measure=> simp[intOf];omega
        · go_wp2_with fail
          go_ret;exact⟨by rw[E.out,M.out,dM (by omega),dM (by rw[<-V.out];omega)];rfl,g.trans x⟩
     · have e:n8 (.mk k n f) (.mk l m a)=false:=by
        rw[Bool.eq_false_iff];intro he;have:=Zw he
        injection this with _ _ h4
        exact y (by rw[h4])
       have E:=hdq e;have P:(k !=l)=false:=by simp[p]
       have d2:(n !=m)=false:=by simp[s]
       have hd:((f.length:Int) !=(a.length:Int))=true:=by rw[bne_iff_ne];omega
       clear e p s y;go_enter func159,ntmps159;go_wp2_with fail;go_ret;exact⟨by rw[E.out];rfl,((xr w).alloc _).alloc _⟩
   · have e:n8 (.mk k n f) (.mk l m a)=false:=by simp[n8,s]
     have E:=hdq e;have P:(k !=l)=false:=by simp[p]
     have d2:(n !=m)=true:=by rw[bne_iff_ne];exact s
     clear e p s;go_enter func159,ntmps159;go_wp2_with fail;go_ret;exact⟨by rw[E.out];rfl,((xr w).alloc _).alloc _⟩
 · have e:n8 (.mk k n f) (.mk l m a)=false:=by simp[n8,p]
   have E:=hdq e;have P:(k !=l)=true:=by rw[bne_iff_ne];exact p
   clear e p;go_enter func159,ntmps159;go_wp2_with fail;go_ret;exact⟨by rw[E.out];rfl,((xr w).alloc _).alloc _⟩
def Qc(a:List Tr):Bool:=decide (a.length<=8)&& !a.any (fun t=> !valid sigT t)
theorem et{a:List Tr}(h:Qc a=true):a.length<=8/\ ∀t∈a,valid sigT t=true:=by
 unfold Qc at h;rw[Bool.and_eq_true,decide_eq_true_eq] at h;refine⟨h.1,fun t ht=> ?_⟩;have b:=h.2;simp only[Bool.not_eq_true',List.any_eq_false] at b
 simpa using b t ht
mutual
theorem InT.bound{w:aN}{S:Nat->Prop}: ∀{t:Tr} {v:aU},InT w S t v->InT w (fun b=> S b/\b < w.heap.size) t v
 | .mk k n f,v,h=> by
  obtain⟨A,cap,rfl,g,d,a⟩:=InT.mk_iff.1 h;refine InT.mk_iff.2 ⟨A,cap,rfl,g,d, ?_⟩;cases f with
  |nil=> exact .inl rfl
  |cons t ts=>
   rcases a with a|⟨b,o,rfl,c,hl⟩
   · cases a
   · refine .inr ⟨b,o,rfl,⟨c, ?_⟩,d5.bound hl⟩
     unfold d5 at hl;obtain⟨⟨v0,v1,v2,e,-⟩,-⟩:=hl;exact bY _ _ e
theorem d5.bound{w:aN}{S:Nat->Prop}{b:Nat}: ∀{o:Nat} {a:List Tr},d5 w S b o a->d5 w (fun b=> S b/\b < w.heap.size) b o a
 |_, [],_=> by unfold d5;trivial
 |o,t::ts,h=> by
  unfold d5 at h⊢;obtain⟨⟨v0,v1,v2,e,d,c,ht⟩,f⟩:=h;exact⟨⟨v0,v1,v2,e,d,c,InT.bound ht⟩,d5.bound f⟩
end
theorem InT.later{w c:aN}{S:Nat->Prop}{t:Tr}{v:aU}(h:InT w S t v)(d:Ext w c):InT c S t v:=
 InT.mono (fun _ a=> a.1) (fun b a=> d.heap b a.2) h.bound
theorem TF{w:aN}{o:Obj}{n:Nat}(h:n=w.heap.size):(w.alloc o).heap[n]? =some o:=h▸heap_alloc_new w o
theorem dj(n a hi:Int)(w:aN):aY prog 51 #[j0 n,j0 a,j0 hi] w fun e f=> e= .returned (.bool (ac n a hi))/\w=f:=by
 by_cases b:a<=n
 · by_cases c:n<=hi
   · have e:ac n a hi=true:=ti.2 ⟨b,c⟩
     have E:=hdq e;have d:decide (a<=n)=true:=by simpa using b
     have g:decide (n<=hi)=true:=by simpa using c
     clear e;go_enter func51,ntmps51;go_wp2_with fail;go_ret;exact⟨by rw[E.out];rfl,rfl⟩
   · have e:ac n a hi=false:=aB.2 (.inr (by omega))
     have E:=hdq e;have d:decide (a<=n)=true:=by simpa using b
     have g:decide (n<=hi)=false:=by simpa using c
     clear e;go_enter func51,ntmps51;go_wp2_with fail;go_ret;exact⟨by rw[E.out];rfl,rfl⟩
 · have e:ac n a hi=false:=aB.2 (.inl (by omega))
   have E:=hdq e;have d:decide (a<=n)=false:=by simpa using b
   clear e;go_enter func51,ntmps51;go_wp2_with fail;go_ret;exact⟨by rw[E.out];rfl,rfl⟩
theorem fB(k:Int)(w:aN):aY prog 108 #[j0 k] w fun e c=> e= .returned (j0 (S0 k))/\Ext w c:=by
 by_cases a:ac k 1 16=true
 · have l:=hdq a
   have b:=ti.1 a;clear a;have d: ∀j:Nat,j < 16->k=(j:Int)+1->aY prog 108 #[j0 k] w fun e c=> e= .returned (j0 (S0 k))/\Ext w c:=by
    intro j n hk;subst hk;have i:=l;go_enter func108,ntmps108;go_wp2_with (go_at_call 51;refine(dj _ _ _ _).mono ?_;rw[i.out];rintro e f ⟨rfl,rfl⟩)
    go_ret;refine⟨?_,(xr _).alloc _⟩;rcases(by omega:j=0\/j=1\/j=2\/j=3\/j=4\/j=5\/j=6\/j=7\/j=8\/j=9\/j=10\/j=11\/j=12\/j=13\/j=14\/j=15) with rfl|rfl|rfl|rfl|rfl|rfl|rfl|rfl|rfl|rfl|rfl|rfl|rfl|rfl|rfl|rfl <;> rfl
   exact d (k - 1).toNat (by omega) (by omega)
 · have b:ac k 1 16=false:=by simpa using a
   have g:=hdq b;have m:=aB.1 b;have e:S0 k= -1:=by
    unfold S0
    repeat rw[if_neg (by omega)]
   have E:=hdq e;clear a b e;go_enter func108,ntmps108;go_wp2_with (go_at_call 51;refine(dj _ _ _ _).mono ?_;rw[g.out];rintro e f ⟨rfl,rfl⟩)
   go_ret;exact⟨by rw[E.out];rfl,xr _⟩
theorem ND(k:Int)(w:aN):aY prog 109 #[j0 k] w fun e d=> e= .returned (j0 (Za k))/\w=d:=by
 by_cases a:k=1
 · have e:Za k=20:=by simp[Za,a]
   have E:=hdq e;have c:(k==1)=true:=by simpa using a
   clear e a;go_enter func109,ntmps109;go_wp2_with fail;go_ret;exact⟨by rw[E.out];rfl,rfl⟩
 · have c:(k==1)=false:=by simpa using a
   by_cases b:k=2
   · have e:Za k=3:=by simp[Za,b]
     have E:=hdq e;have f:(k==2)=true:=by simpa using b
     clear e a b;go_enter func109,ntmps109;go_wp2_with fail;go_ret;exact⟨by rw[E.out];rfl,rfl⟩
   · have e:Za k=0:=by simp[Za,a,b]
     have E:=hdq e;have f:(k==2)=false:=by simpa using b
     clear e a b;go_enter func109,ntmps109;go_wp2_with fail;go_ret;exact⟨by rw[E.out];rfl,rfl⟩
def nB(S:Nat->Prop)(w a:aN)(b:Nat):Prop:=S b\/w.heap.size<=b/\b < a.heap.size
def New(w a:aN)(t:Tr)(v:aU):Prop:=InT a (fun b=> w.heap.size<=b/\b < a.heap.size) t v
theorem InK.one{w:aN}{S:Nat->Prop}{e:bU}{t:Tr}{v0 v1 v2:aU}{g:Nat}(h:InT w S t (.agg #[v0,v1,v2]))(a:w.heap[g]? =some (.cells #[v0,v1,v2] e (0,0)))(hS:S g):InK w S (some ⟨g,0,none⟩) [t]:=by
 refine .inr ⟨g,0,rfl,hS, ?_⟩;unfold d5;refine⟨⟨v0,v1,v2,E1 a 0,E1 a 1,E1 a 2,h⟩, ?_⟩;unfold d5
 trivial
theorem Qe(w:aN)(k:Int)(A:Option Addr)(len cap:Nat):aY prog 56 #[j0 k,.slice A len cap] w fun e a=> e= .returned (m0 k 0 A len cap)/\Ext w a:=by
 go_enter func56,ntmps56;go_wp2_with fail;exact aQ (v:= m0 k 0 A len cap) (by simp[results,results56,go_sem]) rfl ⟨rfl,(xr w).alloc _⟩
theorem y15(w:aN)(k n:Int):aY prog 62 #[j0 k,j0 n] w fun e a=> e= .returned (m0 k n none 0 0)/\Ext w a:=by
 go_enter func62,ntmps62;go_wp2_with fail;exact aQ (v:= m0 k n none 0 0) (by simp[results,results62,go_sem]) rfl ⟨rfl,(xr w).alloc _⟩
theorem eK:(prog.info? 25).map (fun i=>(i.zero,i.size,i.bytes))=some (some (m0 0 0 none 0 0),3,40):=by kernel_rfl
theorem RF(w:aN)(k:Int)(A:Option Addr)(cap:Nat)(c:List Tr)(hA:A=none->cap=0)(S:Nat->Prop)(hS: ∀b,S b->b < w.heap.size)(hK:InK w S A c)(hn:c.length<=1099511627776):
 aY prog 60 #[.int .i64 k,.slice A c.length cap] w fun e m=> ∃u,e= .returned u/\InT m (nB S w m) (.mk k 0 c) u/\Ext w m:=by
 obtain⟨t,hi,f,i,j⟩:=info_parts eK;have g:InK (w.alloc (.cells #[.int .i64 0,.int .i64 0,.slice none 0 0] 25)) S A c:=InK.mono (fun _ h=> h) (fun b a=> Below.heap_alloc w _ b (hS b a)) hK;go_enter func60,ntmps60;go_wp2_with (at_builtin;refine PL _ rfl (.tmp 6) (.tmp 7) 23 rfl 25 t _ underlying23 hi f i j rfl (W:=w.alloc (.cells #[.int .i64 0,.int .i64 0,.slice none 0 0] 25)) (v:= .slice (some ⟨w.heap.size+1,0,none⟩) 0 0) (A:=A) (cap:=cap) (ks:=c) rfl ?ow ((xr _).alloc _) rfl hA ?hS g hn ?_)
 case ow=> simpa using World.ownsRow_lit (base:=w.heap.size+1) (e:=25) (size:=3) (w.alloc (.cells #[.int .i64 0,.int .i64 0,.slice none 0 0] 25)) #[] 0 (by simp) (cO _) rfl
 case hS=> intro b a;have:=hS b a;simp;omega
 intro B x E y l o hE _;have a:=Ke hE;obtain⟨q,r,s,C,z,D⟩:=own3 a.1;have n:=hE.pre;have p:=a.2;clear hi f i j g a;go_wp2_with fail;refine aQ (v:= .agg #[.int .i64 k,.int .i64 0,.slice B c.length x]) (by simp[results,results60,go_sem,q,r,s]) rfl ⟨_,rfl,InT.mk_iff.2 ⟨_,_,rfl,l,o,y.mono ?_ ?_⟩, ?_⟩
 · intro b a
   unfold nB;rw[fO,fO,fO];rcases a with a|a
   · exact .inl a
   · have:=a.1
     exact .inr ⟨by omega,a.2⟩
 · intro b a
   have d:b≠w.heap.size:=by
    rcases a with a|a
    · have:=hS b a
      omega
    · have:=a.1
      omega
   rw[Below.heap_setCell _ _ _ _ d,Below.heap_setCell _ _ _ _ d,Below.heap_setCell _ _ _ _ d]
 · exact((n.setCell (aP _) _).setCell (aP _) _).setCell (aP _) _
theorem W0.three{w a:aN}{e:bU}{t:Tr}{u:aU}(h:W0 w a e t u): ∃k n A l c,u= m0 k n A l c:=by
 obtain⟨k,n,b⟩:=t;obtain⟨A,cap,rfl,_⟩:=W0.mk_iff.1 h;exact⟨k,n,A,_,cap,rfl⟩
theorem Lies.three{w:aN}{t:Tr}{u:aU}(h:Lies w t u): ∃k n A l c,u= m0 k n A l c:=by
 obtain⟨k,n,a⟩:=t;obtain⟨A,cap,rfl,_⟩:=Lies.mk_iff.1 h;exact⟨k,n,A,_,cap,rfl⟩
theorem i1.below{L:List Nat}{a w c:aN}{B:Nat}(h:i1 L a w)(b:Below B w c)(d:a.heap.size<=B):i1 L a c:=
 ⟨b.os.trans h.os,b.tape.trans h.tape,b.output.trans h.output,Nat.le_trans h.size b.size,fun i hi hn=>(b.block i (by omega)).trans (h.block i hi hn)⟩
theorem Y5.step2{W wr a w j:aN}{e:bU}{v r:aU}{n:List Tr}{t:Tr}{v0 v1 v2:aU}{q:List aU}{L:List Nat}
 (B:O4 wr e q n L) (hF:Ye W wr L) (hv: ∀g,v.ownBlock=some g-> ¬g∈L/\g < wr.heap.size/\W.heap.size<=g) (hx:q.length=n.length*3) (y:W.heap.size<=wr.heap.size) (l:wr.heap.size<=a.heap.size) (A: ∀b,W.heap.size<=b->b < wr.heap.size->a.heap[b]? =wr.heap[b]?) (p:W0 wr a e t (.agg #[v0,v1,v2])) (m:Ext a w)
 (x:j.ownsRow W.heap.size e 3 r (n.length+1) (q++ [v0,v1,v2])) (i:w.grownBy j v.ownBlock) (s: ∀g,r.ownBlock=some g->v.ownBlock=some g\/w.heap.size<=g):Y5 W j e r (n++ [t])/\Below W.heap.size a j/\(∀b,wr.heap.size<=b->b < a.heap.size->j.heap[b]? =a.heap[b]?):=by
 obtain⟨M,p,k⟩:=p;have E:=l;have D:=m.size;have keep: ∀b,b < a.heap.size->(v.ownBlock≠some b)->j.heap[b]? =a.heap[b]? :=fun b c o=>(i.block b (by omega) (fun h=> o h.symm)).trans (m.heap b c)
 refine⟨⟨_,L++M,by simpa using x,O4.snoc (p.mono fun b c=> keep b (k.2 b c).2 fun f=> ?_) [] hx (B.mono fun b c=>(keep b (by have:=(hF.2 b c).2;omega) fun f=> ?_).trans (A b (hF.2 b c).1 (hF.2 b c).2)), ?_,fun g z hm=> ?_⟩, ?_⟩
 · have:=(hv b f).2.1
   have:=(k.2 b c).1;omega
 · exact(hv b f).1 c
 · have u:=hF.append (d:=a) k (aP _) y l
   exact u.mono (aP _) (by have:=i.size;omega)
 · rcases s g z with h|h
   · rcases List.mem_append.1 hm with hm|hm
     · exact(hv g h).1 hm
     · have:=(hv g h).2.1
       have:=(k.2 g hm).1;omega
   · rcases List.mem_append.1 hm with hm|hm
     · have:=(hF.2 g hm).2
       omega
     · have:=(k.2 g hm).2
       omega
 · refine⟨⟨i.os.trans m.os,i.tape.trans m.tape,i.output.trans m.output,by have:=i.size;omega,fun b c=> ?_⟩,fun b F C=> keep b C (fun f=> by have:=(hv b f).2.1;omega)⟩
   exact keep b (by omega) (fun f=> by have:=(hv b f).2.2;omega)
theorem iK{P:fM}(w:aN){o:Oper}{a:Act}{K:Act->aN->Prop}{Q:Exit->Act->aN->Prop}(s x:kO)(t:bU)
 (J:o.op= .call {callee:= .builtin .append,args:=#[s,x],argTypes:=#[t,t]})
 (e:bU) (i:jU) (z:aU) (ht:P.underlying t=some (.slice e)) (hi:P.info? e=some i) (F:i.zero=some z) (d:i.size=3) (A:i.bytes=40) (u:z.cells.size=3)
 {W wr c:aN} {v:aU} {n:List Tr} {tr:Tr} {v0 v1 v2:aU} {r:Nat} (hs:a.eval s=v) (hG:Y5 W wr e v n) (R:W.heap.size<=wr.heap.size) (m:wr.heap.size<=c.heap.size) (D: ∀b,W.heap.size<=b->b < wr.heap.size->c.heap[b]? =wr.heap[b]?) (B:W0 wr c e tr (.agg #[v0,v1,v2])) (y:Ext c w)
 (hx:a.eval x= .slice (some ⟨r,0,none⟩) 1 1) (q:w.heap[r]? =some (.cells #[v0,v1,v2] e (0,0))) (hn:n.length < 1099511627776)
 (h: ∀p k,Y5 W k e p (n++ [tr])->Below W.heap.size c k->(∀b,wr.heap.size<=b->b < c.heap.size->k.heap[b]? =c.heap[b]?)->K (a.put o.dst p) k):o.wp P a w K Q:=by
 obtain⟨C,L,j,O,E,I⟩:=hG;have V:=m;have U:=y.size;have l:w.ownsRow W.heap.size e 3 v n.length C:=xA j (fun g f=>(y.heap g (by have:=(j.lt g f).2;omega)).trans (D g (j.lt g f).1 (j.lt g f).2));obtain⟨p,k,hr,M,N,S⟩:=Oo (P:=P) w W.heap.size t o.type e i z 3 40 ht hi F d A u (by decide) v n.length C l ⟨r,0,none⟩ 1 1 [v0,v1,v2] rfl (SF q) (dL B) (by unfold aW;omega) (by omega) (by omega);obtain⟨H,G,T⟩:=Y5.step2 O E (fun g f=>⟨I g f,(j.lt g f).2,(j.lt g f).1⟩) j.1 R m D B y M N S;unfold Oper.wp execOp;simp only[J,resolve,invoke,builtin,iZ,jM,gO,gW,iP,jN,hs,hx,hr];exact h p k H G T
theorem iL{P:fM}(w:aN){ops:Array Oper}{o:Oper}{a:Act}{K:Act->aN->Prop}{Q:Exit->Act->aN->Prop}{E:Prop}(m:o.guard=none)(s x:kO)(t:bU)
 (y:o.op= .call {callee:= .builtin .append,args:=#[s,x],argTypes:=#[t,t]})
 (e:bU) (i:jU) (z:aU) (ht:P.underlying t=some (.slice e)) (hi:P.info? e=some i) (r:i.zero=some z) (d:i.size=3) (n:i.bytes=40) (l:z.cells.size=3)
 {W wr c:aN} {v:aU} {k:List Tr} {tr:Tr} {v0 v1 v2:aU} {p:Nat} (hs:a.eval s=v) (hG:Y5 W wr e v k) (B:W.heap.size<=wr.heap.size) (j:wr.heap.size<=c.heap.size) (C: ∀b,W.heap.size<=b->b < wr.heap.size->c.heap[b]? =wr.heap[b]?) (A:W0 wr c e tr (.agg #[v0,v1,v2])) (D:Ext c w)
 (hx:a.eval x= .slice (some ⟨p,0,none⟩) 1 1) (g:w.heap[p]? =some (.cells #[v0,v1,v2] e (0,0))) (hn:k.length < 1099511627776)
 (h: ∀q f,Y5 W f e q (k++ [tr])->Below W.heap.size c f->(∀b,wr.heap.size<=b->b < c.heap.size->f.heap[b]? =c.heap[b]?)->K (a.put o.dst q) f):
 if eX o (yielded ops a.tmps)=true then Oper.wp P o a w K Q else E:=by
 have u:eX o (yielded ops a.tmps)=true:=by simp[eX,m]
 rw[if_pos u];exact iK w s x t y e i z ht hi r d n l hs hG B j C A D hx g hn h
