/-
  Lemmas towards the law, 6: Grow, Text, Later, Same, Fits, Bound, WalkValid, Node, Grow2.
-/
import Derived.Test.YtckhbnmfnpolgaaGreatC00
import Derived.Test.YtckhbnmfnpolgaaGreatCAE
import Derived.BigQuiet
import Derived.Deep.RegionHeld3
import Derived.Deep.RegionWith
import Derived.Laws.AppendOwn
import Derived.Outline
import Derived.OwnWalk
import Derived.StillTailTactics
import Derived.Test.YtckhbnmfnpolgaaGreatProg
open Go renaming Program->eR,World->aL,TypeId->aZ,TypeInfo->jN,Value->aT,maxLen->aV,Operand->jW,Calls->aX,bodyPost_ret->aP
open Nat renaming zero_add->fN,le_refl->aN,zero_le->bV
open List renaming eq_nil_of_length_eq_zero->bO,map_toArray->gO,map_cons->gV,map_nil->iX,drop_eq_getElem_cons->cL,drop_of_length_le->cV
open Go.Sem renaming run_bind->iV,run_pure->iW
open Go.Result renaming andThen_ok->fX
open Go.Region renaming wanted->eN
open Go.World renaming block_lt_of_cell?->bU,size_setCell->eZ
open Go.Proofs.Tryz
set_option linter.all false
set_option maxHeartbeats 400000
set_option maxRecDepth 100000
namespace Go.Proofs.YtckhbnmfnpolgaaGreat
open Go.RowKit
theorem cr{P:eR}(w:aL)(base:Nat)(t ty e:aZ)(i:jN)(z:aT)(size bytes:Nat)(ht:P.underlying t=some (.slice e))(hi:P.info? e=some i)(F:i.zero=some z)
 (b:i.size=size) (p:i.bytes=bytes) (G:z.cells.size=size) (H:0 < size)
 (v:aT) (n:Nat) (B:List aT) (k:w.ownsRow base e size v n B)
 (a:Addr) (m c:Nat) (news:List aT) (hl:news.length=m*size) (f: ∀j u,news[j]? =some u->w.cell? (a.add j)=some u) (J: ∀u∈news,u.oneCell'=true)
 (o:n+m<=aV) (d:(n+m)*bytes<=140737488355328) (q:base<=w.heap.size):
 ∃r s,(Builtin.append_ #[t,t] ty #[v,.slice (some a) m c]).run P w= .ok r s/\s.ownsRow base e size r (n+m) (B++news)/\w.grownBy s v.ownBlock/\
  (∀g,r.ownBlock=some g->v.ownBlock=some g\/w.heap.size<=g):=by
 obtain⟨r,s,hr,O,K,N⟩:=run_append_own (P:=P) w base t ty e i z size bytes ht hi F b p G H v n B k a m c news hl f J o d q;refine⟨r,s,hr,O,K,fun g x=> ?_⟩;rcases k.2 with⟨rfl,rfl⟩ |⟨C,cap,y,rfl,_,D,S,Q,E,I⟩
 · by_cases hm:m=0
   · rw[N.2 ⟨rfl,hm⟩] at x
     cases x
   · have M:m<=9223372036854775807:=by simp only[aV] at o;omega
     have A:=run_append_nil (P:=P) w t ty e i z ht hi F a m c news (by rw[hl,b]) f (by omega) (by omega) (by rw[p];have L:=d;simp only[fN] at L;omega);rw[A] at hr;cases hr
     simp only[Value.ownBlock,Option.some.injEq] at x;exact .inr (by omega)
 · by_cases l:n+m<=cap
   · have R:n*i.size+news.length<=y.size:=by rw[hl,E,b,<-Nat.add_mul];exact Nat.mul_le_mul_right _ l
     have A:=run_append_room (P:=P) w t ty e i ht hi C n cap y D a m c news (by rw[hl,b]) f J l R;rw[A] at hr;cases hr
     exact .inl x
   · have M:n+m<=9223372036854775807:=by simp only[aV] at o;omega
     have holds: ∀j u,B[j]? =some u->w.cell? ((⟨C,0,none⟩:Addr).add j)=some u:=k.cells (g:=C) rfl;have A:=run_append_grow (P:=P) w t ty e i z ht hi F ⟨C,0,none⟩ n cap B (by rw[k.1,b]) holds a m c news (by rw[hl,b]) f (by omega) (by omega) (by rw[p];exact growslice_fits (by omega) d);rw[A] at hr;cases hr
     simp only[Value.ownBlock,Option.some.injEq] at x;exact .inr (by omega)
def N4(W w:aL)(e:aZ)(v:aT)(b:List Tr):Prop:=
 ∃a L,w.ownsRow W.heap.size e 3 v b.length a/\B2 w e a b L/\bd W w L/\ ∀g,v.ownBlock=some g-> ¬g∈L
theorem N4.nil(W w:aL)(e:aZ):N4 W w e (.slice none 0 0) []:=
 ⟨[], [],World.ownsRow_nil _ _ _ _,B2.nil,bd.nil _ _,fun _ _ h=> by cases h⟩
theorem Sx{w b:aL}{base:Nat}{e:aZ}{v:aT}{n:Nat}{c:List aT}(h:w.ownsRow base e 3 v n c)(i: ∀g,v.ownBlock=some g->b.heap[g]? =w.heap[g]?):b.ownsRow base e 3 v n c:=by
 refine⟨h.1, ?_⟩;rcases h.2 with h|⟨g,cap,a,rfl,f,d,r⟩
 · exact .inl h
 · exact .inr ⟨g,cap,a,rfl,f,(i g rfl).trans d,r⟩
theorem N4.same{W w c:aL}{e:aZ}{v:aT}{f:List Tr}(h:N4 W w e v f)(hs:w.heap.size<=c.heap.size)(i: ∀b,W.heap.size<=b->b < w.heap.size->c.heap[b]? =w.heap[b]?):N4 W c e v f:=by
 obtain⟨m,L,d,l,a,k⟩:=h;exact⟨m,L,Sx d (fun g j=> i g (d.lt g j).1 (d.lt g j).2),l.mono (fun b hm=> i b (a.2 b hm).1 (a.2 b hm).2),a.mono (aN _) hs,k⟩
theorem N4.ext{W w a:aL}{e:aZ}{v:aT}{ks:List Tr}(h:N4 W w e v ks)(c:Ext w a):N4 W a e v ks:=h.same c.size (fun b _ d=> c.heap b d)
theorem N4.after{W w a:aL}{e:aZ}{v:aT}{d:List Tr}(h:N4 W w e v d)(c:ja W.heap.size w a):N4 W a e v d:=h.same c.2 (fun b f _=> c.1 b f)
theorem N4.made{W w:aL}{e:aZ}{v:aT}{a:List Tr}(h:N4 W w e v a): ∃A cap,v= .slice A a.length cap/\a.length<=cap/\cap<=aV/\pd W w e A a:=by
 obtain⟨q,L,o,l,f,k⟩:=h;rcases o.2 with⟨rfl,n⟩ |⟨g,cap,c,rfl,p,i,m,d,j,ht⟩
 · have:a= []:=bO n
   subst this;exact⟨none,0,rfl,aN _,bV _,pd.nil _ _ _ _⟩
 · refine⟨_,cap,rfl,m,d,g::L,.inr ⟨g,c,L,rfl,i,rfl, ?_⟩,List.nodup_cons.2 ⟨k g rfl,f.1⟩,fun b hm=> ?_⟩
   · have:=B2.tail (c.toList.drop (a.length*3)) l
     rw[<-ht,List.take_append_drop] at this;exact this
   · rcases List.mem_cons.1 hm with rfl|hm
     · exact⟨p,O1 i⟩
     · exact f.2 b hm
theorem fE{w b:aL}{e:aZ}{t:Tr}{v0 v1 v2:aT}(h:W0 w b e t (.agg #[v0,v1,v2])): ∀u∈ [v0,v1,v2],u.oneCell'=true:=by
 obtain⟨k,n,c⟩:=t;obtain⟨A,cap,hv,_⟩:=W0.mk_iff.1 h;simp only[Value.agg.injEq,Array.mk.injEq,List.cons.injEq,and_true] at hv;obtain⟨rfl,rfl,rfl⟩:=hv;intro u a;simp only[List.mem_cons,List.not_mem_nil,or_false] at a;rcases a with rfl|rfl|rfl <;> rfl
theorem wE{w:aL}{g:Nat}{v0 v1 v2:aT}{e:aZ}(h:w.heap[g]? =some (.cells #[v0,v1,v2] e (0,0))): ∀j u, [v0,v1,v2][j]? =some u->w.cell? ((⟨g,0,none⟩:Addr).add j)=some u:=by
 intro j u a;rw[Addr.add_lit,fN,U1 h]
 simpa using a
theorem N4.step{W wr i w k:aL}{e:aZ}{v o:aT}{n:List Tr}{t:Tr}{v0 v1 v2:aT}{r:List aT}{L:List Nat}
 (A:B2 wr e r n L) (hF:bd W wr L) (hv: ∀g,v.ownBlock=some g-> ¬g∈L/\g < wr.heap.size/\W.heap.size<=g) (hx:r.length=n.length*3) (x:W.heap.size<=wr.heap.size) (c:Ext wr i) (q:W0 wr i e t (.agg #[v0,v1,v2])) (l:Ext i w)
 (z:k.ownsRow W.heap.size e 3 o (n.length+1) (r++ [v0,v1,v2])) (f:w.grownBy k v.ownBlock) (y: ∀g,o.ownBlock=some g->v.ownBlock=some g\/w.heap.size<=g):N4 W k e o (n++ [t])/\Below W.heap.size wr k:=by
 obtain⟨M,q,j⟩:=q;have C:=c.size;have B:=l.size;have keep: ∀b,b < i.heap.size->(v.ownBlock≠some b)->k.heap[b]? =i.heap[b]? :=fun b a p=>(f.block b (by omega) (fun h=> p h.symm)).trans (l.heap b a)
 refine⟨⟨_,L++M,by simpa using z,B2.snoc (q.mono fun b a=> keep b (j.2 b a).2 fun m=> ?_) [] hx (A.mono fun b a=>(keep b (by have:=(hF.2 b a).2;omega) fun m=> ?_).trans (c.heap b (hF.2 b a).2)), ?_,fun g u hm=> ?_⟩, ?_⟩
 · have:=(hv b m).2.1
   have:=(j.2 b a).1;omega
 · exact(hv b m).1 a
 · have s:=hF.append (d:=i) j (aN _) x c.size
   exact s.mono (aN _) (by have:=f.size;omega)
 · rcases y g u with h|h
   · rcases List.mem_append.1 hm with hm|hm
     · exact(hv g h).1 hm
     · have:=(hv g h).2.1
       have:=(j.2 g hm).1;omega
   · rcases List.mem_append.1 hm with hm|hm
     · have:=(hF.2 g hm).2
       omega
     · have:=(j.2 g hm).2
       omega
 · refine⟨f.os.trans (l.os.trans c.os),f.tape.trans (l.tape.trans c.tape),f.output.trans (l.output.trans c.output),by have:=f.size;omega,fun b a=> ?_⟩
   exact(keep b (by omega) (fun m=> by have:=(hv b m).2.2;omega)).trans (c.heap b (by omega))
theorem YI{P:eR}(w:aL){o:Oper}{a:Act}{K:Act->aL->Prop}{Q:Exit->Act->aL->Prop}(s x:jW)(t:aZ)
 (N:o.op= .call {callee:= .builtin .append,args:=#[s,x],argTypes:=#[t,t]})
 (e:aZ) (i:jN) (z:aT) (ht:P.underlying t=some (.slice e)) (hi:P.info? e=some i) (E:i.zero=some z) (b:i.size=3) (n:i.bytes=40) (r:z.cells.size=3)
 {W wr q:aL} {v:aT} {d:List Tr} {tr:Tr} {v0 v1 v2:aT} {p:Nat} (hs:a.eval s=v) (hG:N4 W wr e v d) (F:W.heap.size<=wr.heap.size) (u:Ext wr q) (A:W0 wr q e tr (.agg #[v0,v1,v2])) (y:Ext q w)
 (hx:a.eval x= .slice (some ⟨p,0,none⟩) 1 1) (m:w.heap[p]? =some (.cells #[v0,v1,v2] e (0,0))) (hn:d.length < 1099511627776)
 (h: ∀l f,N4 W f e l (d++ [tr])->Below W.heap.size wr f->K (a.put o.dst l) f):o.wp P a w K Q:=by
 obtain⟨B,L,k,J,D,G⟩:=hG;have S:=u.size;have R:=y.size;have c:w.ownsRow W.heap.size e 3 v d.length B:=Sx k (fun g j=>(u.trans y).heap g (k.lt g j).2);obtain⟨l,f,hr,O,M,C⟩:=cr (P:=P) w W.heap.size t o.type e i z 3 40 ht hi E b n r (by decide) v d.length B c ⟨p,0,none⟩ 1 1 [v0,v1,v2] rfl (wE m) (fE A) (by unfold aV;omega) (by omega) (by omega);obtain⟨I,H⟩:=N4.step J D (fun g j=>⟨G g j,(k.lt g j).2,(k.lt g j).1⟩) k.1 F u A y O M C;unfold Oper.wp execOp;simp only[N,resolve,invoke,builtin,iV,iW,fX,gO,gV,iX,hs,hx,hr];exact h l f I H
theorem qE{P:eR}(w:aL){ops:Array Oper}{o:Oper}{a:Act}{K:Act->aL->Prop}{Q:Exit->Act->aL->Prop}{E:Prop}(j:o.guard=none)(s x:jW)(t:aZ)
 (y:o.op= .call {callee:= .builtin .append,args:=#[s,x],argTypes:=#[t,t]})
 (e:aZ) (i:jN) (z:aT) (ht:P.underlying t=some (.slice e)) (hi:P.info? e=some i) (q:i.zero=some z) (b:i.size=3) (g:i.bytes=40) (l:z.cells.size=3)
 {W wr k:aL} {v:aT} {c:List Tr} {tr:Tr} {v0 v1 v2:aT} {n:Nat} (hs:a.eval s=v) (hG:N4 W wr e v c) (r:W.heap.size<=wr.heap.size) (A:Ext wr k) (u:W0 wr k e tr (.agg #[v0,v1,v2])) (B:Ext k w)
 (hx:a.eval x= .slice (some ⟨n,0,none⟩) 1 1) (d:w.heap[n]? =some (.cells #[v0,v1,v2] e (0,0))) (hn:c.length < 1099511627776)
 (h: ∀m f,N4 W f e m (c++ [tr])->Below W.heap.size wr f->K (a.put o.dst m) f):
 if eN o (yielded ops a.tmps)=true then Oper.wp P o a w K Q else E:=by
 have p:eN o (yielded ops a.tmps)=true:=by simp[eN,j]
 rw[if_pos p];exact YI w s x t y e i z ht hi q b g l hs hG r A u B hx d hn h
theorem O4.copy{w:aL}{S:Nat->Prop}{b:Nat}: ∀{o:Nat} {g:List Tr},O4 w S b o g-> ∃news:List aT,news.length=g.length*3/\(∀j u,news[j]? =some u->w.cell? ⟨b,o+j,none⟩=some u)/\(∀u∈news,u.oneCell'=true)/\
 ∀(d:aL) (f:Nat->Prop) (e c:Nat),(∀x,S x->f x/\d.heap[x]? =w.heap[x]?)->(∀j u,news[j]? =some u->d.cell? ⟨e,c+j,none⟩=some u)->O4 d f e c g
 |o, [],_=>⟨[],rfl,(fun j u h=> by simp at h),(fun u h=> by simp at h),(fun _ _ _ _ _ _=> by unfold O4;trivial)⟩
 |o,t::ts,h=> by
  unfold O4 at h;obtain⟨⟨v0,v1,v2,r,s,i,ht⟩,v⟩:=h;obtain⟨news,m,l,q,p⟩:=O4.copy v;refine⟨v0::v1::v2::news,by simp[m];omega,fun j u a=> ?_,fun u a=> ?_,fun d f e c hS hc=> ?_⟩
  · match j,a with
    |0,a=> simpa using(by simpa using a:v0=u)▸r
    |1,a=> simpa using(by simpa using a:v1=u)▸s
    |2,a=> simpa using(by simpa using a:v2=u)▸i
    |j+3,a=>
     have:=l j u (by simpa using a)
     rwa [show o+3+j=o+(j+3) by omega] at this
  · obtain⟨k,n,kids⟩:=t
    obtain⟨A,cap,hv,_⟩:=InT.mk_iff.1 ht;simp only[Value.agg.injEq,Array.mk.injEq,List.cons.injEq,and_true] at hv;obtain⟨rfl,rfl,rfl⟩:=hv;simp only[List.mem_cons] at a;rcases a with rfl|rfl|rfl|a
    · rfl
    · rfl
    · rfl
    · exact q u a
  · unfold O4
    refine⟨⟨v0,v1,v2,by simpa using hc 0 v0 rfl,hc 1 v1 rfl,hc 2 v2 rfl,ht.mono (fun x hx=>(hS x hx).1) (fun x hx=>(hS x hx).2)⟩,p d f e (c+3) hS fun j u a=> ?_⟩;have:=hc (j+3) u (by simpa using a)
    rwa [show c+(j+3)=c+3+j by omega] at this
theorem mK{P:eR}(w:aL){ops:Array Oper}{rest:List Oper}{o:Oper}{a:Act}{Q:Exit->Act->aL->Prop}(V:o.guard=none)(s x:jW)(t:aZ)
 (ho:o.op= .call {callee:= .builtin .append,args:=#[s,x],argTypes:=#[t,t]})
 (e:aZ) (i:jN) (z:aT) (ht:P.underlying t=some (.slice e)) (hi:P.info? e=some i) (hz:i.zero=some z) (q:i.size=3) (U:i.bytes=40) (X:z.cells.size=3)
 {W:aL} {v:aT} {A:Option Addr} {cap:Nat} {ks:List Tr} (hs:a.eval s=v) (l:w.ownsRow W.heap.size e 3 v 0 []) (hE:Ext W w) (hx:a.eval x= .slice A ks.length cap) (my:A=none->cap=0) {S:Nat->Prop} (hS: ∀b,S b->b < W.heap.size) (hK:InK W S A ks) (hn:ks.length<=1099511627776)
 (h: ∀B f d,InK d (fun b=> S b\/W.heap.size<=b/\b < d.heap.size) B ks->ks.length<=f->f<=aV->Ext W d->(B=none->f=0)->wpList P ops Q rest (a.put o.dst (.slice B ks.length f)) d):wpList P ops Q (o::rest) a w:=by
 refine wpList_plain V fun K O=> ?_
 have key: ∃m d,(Builtin.append_ #[t,t] o.type #[v,.slice A ks.length cap]).run P w= .ok m d/\ ∃B f,m= .slice B ks.length f/\InK d (fun b=> S b\/W.heap.size<=b/\b < d.heap.size) B ks/\ks.length<=f/\f<=aV/\Ext W d/\(B=none->f=0):=by
  cases A with
  |none=>
   obtain rfl:=my rfl;have y:ks= []:=by
    rcases hK with h|⟨b,o,h,_⟩
    · exact h
    · cases h
   subst y;have hr:=run_append_owned_none (P:=P) w W.heap.size t o.type e i 3 ht hi v 0 [] l;refine⟨v,w,hr, ?_⟩;rcases l.2 with⟨rfl,_⟩ |⟨g,c,T,rfl,_,_,h1,G,_⟩
   · exact⟨none,0,rfl,.inl rfl,aN _,bV _,hE,fun _=> rfl⟩
   · exact⟨_,c,rfl,.inl rfl,h1,G,hE,fun h=> by cases h⟩
  |some R=>
   have Y: ∀d,w.grownBy d v.ownBlock->Ext W d:=fun d r=> hE.grown r (fun k hk=>(l.lt k hk).1)
   have hb: ∀(news:List aT),news.length=ks.length*3->(∀j u,news[j]? =some u->w.cell? (R.add j)=some u)->(∀u∈news,u.oneCell'=true)->
    ∃m d,(Builtin.append_ #[t,t] o.type #[v,.slice (some R) ks.length cap]).run P w= .ok m d/\Ext W d/\ ∃B f,m= .slice B ks.length f/\ks.length<=f/\f<=aV/\(B=none->f=0)/\
     (ks≠ []-> ∃g,B=some ⟨g,0,none⟩/\W.heap.size<=g/\g < d.heap.size/\ ∀j u,news[j]? =some u->d.cell? ⟨g,0+j,none⟩=some u):=by
    intro news F J Z;obtain⟨m,d,hr,D,L,r3⟩:=cr (P:=P) w W.heap.size t o.type e i z 3 40 ht hi hz q U X (by decide) v 0 [] l R ks.length cap news F J Z (by unfold aV;omega) (by omega) hE.size;refine⟨m,d,hr,Y d L, ?_⟩;have hc:=fun g r=> D.cells (g:=g) r
    have hlt:=D.lt;rcases D.2 with⟨rfl,h0⟩ |⟨g,c,T,rfl,h5,h6,h1,G,_⟩
    · exact⟨none,0,by rw[show ks.length=0 by omega],by omega,bV _,fun _=> rfl,fun n=> absurd (bO (by omega)) n⟩
    · refine⟨_,c,by rw[fN],by omega,G,fun h=> by(cases h),fun _=>⟨g,rfl,h5,O1 h6,fun j u N=> ?_⟩⟩
      have:=hc g rfl j u (by simpa using N)
      rwa [Addr.add_lit] at this
   rcases hK with rfl|⟨b,o,M,hb',hl⟩
   · obtain⟨m,d,hr,hx,B,f,q1,H,I,q4,_⟩:=hb [] rfl (fun _ _ h=> by cases h) (fun _ h=> by cases h)
     exact⟨m,d,hr,B,f,q1,.inl rfl,H,I,hx,q4⟩
   · obtain rfl:=Option.some.inj M
     obtain⟨news,F,J,Z,n4⟩:=hl.copy;obtain⟨m,d,hr,hx,B,f,q1,H,I,q4,q5⟩:=hb news F (fun j u N=> by rw[Addr.add_lit];exact hE.cell (J j u N)) Z;refine⟨m,d,hr,B,f,q1, ?_,H,I,hx,q4⟩;by_cases n:ks= []
     · exact .inl n
     · obtain⟨g,rfl,E,r,p⟩:=q5 n
       exact .inr ⟨g,0,rfl,.inr ⟨E,r⟩,n4 d _ g 0 (fun x C=>⟨.inl C,hx.heap x (hS x C)⟩) p⟩
 obtain⟨m,d,hr,B,f,rfl,D,L,r3,r4,r5⟩:=key;unfold Oper.wp execOp;simp only[ho,resolve,invoke,builtin,iV,iW,fX,gO,gV,iX,hs,hx,hr];exact O _ _ (h B f d D L r3 r4 r5)
end Go.Proofs.YtckhbnmfnpolgaaGreat
namespace Go.Proofs.YtckhbnmfnpolgaaGreat
def G5(l:List UInt8):ByteArray:=⟨l.toArray⟩
theorem pc(a b:List UInt8):G5 a++G5 b=G5 (a++b):=by
 apply ByteArray.ext
 simp[G5]
theorem jx(l:List UInt8):(G5 l).size=l.length:=by simp[G5,ByteArray.size]
theorem tD(l:List UInt8):(G5 l).data.toList=l:=by simp[G5]
def nc(n:Int):List UInt8:=if n<=9 then [UInt8.ofNat (48+n.toNat)] else [UInt8.ofNat (48+n.toNat / 10),UInt8.ofNat (48+n.toNat % 10)]
def Ce(k:Int):List UInt8:=
 if k=3 then [40] else if k=4 then [91] else if k=5 then [40] else if k=6 then [78] else if k=7 then [48] else if k=8 then [43] else if k=9 then [60] else if k=10 then [123] else if k=11 then [33] else if k=12 then [64,60] else if k=13 then [40] else if k=14 then [124] else if k=15 then [94] else if k=16 then [95] else []
def vi(k:Int):List UInt8:=
 if k=3 then [62] else if k=4 then [93] else if k=5 then [32] else if k=13 then [42] else [44]
def Pe(k:Int):List UInt8:=
 if k=3 then [41] else if k=5 then [41] else if k=9 then [62] else if k=10 then [125] else if k=12 then [62] else if k=13 then [41] else if k=14 then [124] else []
mutual
def D2:Tr->List UInt8
 | .mk k n a=> if k=1 then 35::nc n else if k=2 then 42::nc n else Ce k++H6 (vi k) a true++Pe k
def H6:List UInt8->List Tr->Bool->List UInt8
 |_, [],_=> []
 |s,t::ts,f=>(if f=true then [] else s)++D2 t++H6 s ts false
end
theorem Pv(n:Int):(nc n).length<=2:=by unfold nc;split <;> simp
theorem sm(k:Int):(Ce k).length<=2:=by
 unfold Ce;by_cases n:k=3
 · rw[if_pos n];decide
 rw[if_neg n];by_cases e:k=4
 · rw[if_pos e];decide
 rw[if_neg e];by_cases m:k=5
 · rw[if_pos m];decide
 rw[if_neg m];by_cases g:k=6
 · rw[if_pos g];decide
 rw[if_neg g];by_cases f:k=7
 · rw[if_pos f];decide
 rw[if_neg f];by_cases h8:k=8
 · rw[if_pos h8];decide
 rw[if_neg h8];by_cases i:k=9
 · rw[if_pos i];decide
 rw[if_neg i];by_cases a:k=10
 · rw[if_pos a];decide
 rw[if_neg a];by_cases b:k=11
 · rw[if_pos b];decide
 rw[if_neg b];by_cases j:k=12
 · rw[if_pos j];decide
 rw[if_neg j];by_cases l:k=13
 · rw[if_pos l];decide
 rw[if_neg l];by_cases o:k=14
 · rw[if_pos o];decide
 rw[if_neg o];by_cases d:k=15
 · rw[if_pos d];decide
 rw[if_neg d];by_cases c:k=16
 · rw[if_pos c];decide
 rw[if_neg c]
 decide
theorem Wp(k:Int):(vi k).length=1:=by
 unfold vi;by_cases b:k=3
 · rw[if_pos b];decide
 rw[if_neg b];by_cases a:k=4
 · rw[if_pos a];decide
 rw[if_neg a];by_cases d:k=5
 · rw[if_pos d];decide
 rw[if_neg d];by_cases c:k=13
 · rw[if_pos c];decide
 rw[if_neg c]
 decide
theorem Np(k:Int):(Pe k).length<=1:=by
 unfold Pe;by_cases c:k=3
 · rw[if_pos c];decide
 rw[if_neg c];by_cases e:k=5
 · rw[if_pos e];decide
 rw[if_neg e];by_cases d:k=9
 · rw[if_pos d];decide
 rw[if_neg d];by_cases a:k=10
 · rw[if_pos a];decide
 rw[if_neg a];by_cases f:k=12
 · rw[if_pos f];decide
 rw[if_neg f];by_cases b:k=13
 · rw[if_pos b];decide
 rw[if_neg b];by_cases g:k=14
 · rw[if_pos g];decide
 rw[if_neg g]
 decide
mutual
theorem Sf: ∀t:Tr,(D2 t).length+1<=5*cnt t
 | .mk k n a=> by
  have e:=Pv n;have c:=sm k;have d:=Np k;have b:=Nx (vi k) (by rw[Wp k];omega) a true;unfold D2;simp only[cnt]
  split
  · simp;omega
  · split
    · simp;omega
    · simp;omega
theorem Nx(s:List UInt8)(hs:s.length<=1): ∀(ts:List Tr) (f:Bool),(H6 s ts f).length<=5*W1 ts
 | [],_=> by simp[H6]
 |t::ts,f=> by
  have b:=Sf t;have a:=Nx s hs ts false;unfold H6;simp only[W1];cases f <;> simp <;> omega
end
def Nf(t:Tr):List UInt8:=if j0 D0 t=true then D2 t else []
def pf(c:UInt8):Bool:=decide (48<=c)&& decide (c<=57)
def n7(l:List UInt8)(a:Nat)(two:Bool):Option (Int×Nat):=
 match l[a]?with
 |none=> none
 |some c=> if pf c=true then
  (if two=true then
   match l[a+1]?with
   |none=> some ((c.toNat:Int) - 48,a+1)
   |some d=> if pf d=true then(if c=48 then none else some (((c.toNat:Int) - 48)*10+((d.toNat:Int) - 48),a+2)) else some ((c.toNat:Int) - 48,a+1)
  else some ((c.toNat:Int) - 48,a+1))
  else none
def Re(p:Nat->Option (Tr×Nat))(l:List UInt8)(last:UInt8):Nat->Nat->Option (List Tr×Nat)
 |0,a=> some ([],a)
 |m+1,a=> match p a with
  |none=> none
  |some (t,b)=> if l[b]? =some (if m=0 then last else 44) then(Re p l last m (b+1)).map (fun x=>(t::x.1,x.2)) else none
def one(k:Int)(x:Option (Tr×Nat)):Option (Tr×Nat):=x.map fun y=>(.mk k 0 [y.1],y.2)
def Of(c:Option UInt8):Int:=if c=some 62 then 3 else if c=some 42 then 13 else if c=some 32 then 5 else 0
def Vx(p:Nat->Option (Tr×Nat))(l:List UInt8)(a:Nat):Option (Tr×Nat):=
 match p a with
 |none=> none
 |some (x,b)=> if Of l[b]? =0 then none else
  match p (b+1) with
  |none=> none
  |some (y,c)=> if l[c]? =some 41 then some (.mk (Of l[b]?) 0 [x,y],c+1) else none
def VD(p:Nat->Option (Tr×Nat))(l:List UInt8)(a:Nat):Option (Tr×Nat):=
 match p a with
 |none=> none
 |some (x,b)=> if l[b]? =some 93 then(match p (b+1) with|none=> none|some (y,c)=> some (.mk 4 0 [x,y],c)) else none
def Qi(c:UInt8):Int:=if c=60 then 9 else if c=123 then 10 else if c=124 then 14 else if c=64 then 12 else 0
def bJ(c:UInt8):UInt8:=if c=123 then 125 else if c=124 then 124 else 62
def blk(p:Nat->Option (Tr×Nat))(l:List UInt8)(a:Nat)(c:UInt8):Option (Tr×Nat):=
 if Qi c=0 then none
 else if c=64 then(if l[a+1]? =some 60 then(Re p l 62 3 (a+2)).map (fun x=>(.mk 12 0 x.1,x.2)) else none)
 else(Re p l (bJ c) (if c=60 then 4 else 3) (a+1)).map (fun x=>(.mk (Qi c) 0 x.1,x.2))
def Z5:Nat->List UInt8->Nat->Option (Tr×Nat)
 |0,_,_=> none
 |d+1,l,a=>
  match l[a]?with
  |none=> none
  |some c=>
   if c=35 then(n7 l (a+1) true).map (fun x=>(.mk 1 x.1 [],x.2))
   else if c=42 then(n7 l (a+1) false).map (fun x=>(.mk 2 x.1 [],x.2))
   else if c=78 then some (.mk 6 0 [],a+1)
   else if c=48 then some (.mk 7 0 [],a+1)
   else if c=43 then one 8 (Z5 d l (a+1))
   else if c=33 then one 11 (Z5 d l (a+1))
   else if c=94 then one 15 (Z5 d l (a+1))
   else if c=95 then one 16 (Z5 d l (a+1))
   else if c=40 then Vx (Z5 d l) l (a+1)
   else if c=91 then VD (Z5 d l) l (a+1)
   else blk (Z5 d l) l a c
def kc(l:List UInt8):Option Tr:=
 match Z5 30 l 0 with
 |none=> none
 |some (t,b)=> if l≠ []/\b=l.length/\Nf t=l then some t else none
theorem LI{l:List UInt8}{t:Tr}(h:kc l=some t):j0 D0 t=true/\D2 t=l:=by
 unfold kc at h
 split at h
 · cases h
 · rename_i e b _
   split at h
   · rename_i c
     cases h
     obtain⟨d,f,a⟩:=c;unfold Nf at a
     split at a
     · rename_i hv
       exact⟨hv,a⟩
     · exact absurd a.symm d
   · cases h
end Go.Proofs.YtckhbnmfnpolgaaGreat
namespace Go.Proofs.YtckhbnmfnpolgaaGreat
open Go.RowKit
def At(w:aL)(p:aL->Prop):Prop:= ∀a,Ext w a->p a
theorem At.and{w:aL}{p q:aL->Prop}(h:At w p)(k:At w q):At w (fun a=> p a/\q a):=fun x hx=>⟨h x hx,k x hx⟩
structure y32 (W:aL) where
 world:aL
 ext:Ext W world
instance (W:aL):Nonempty (y32 W):=⟨⟨W,xr W⟩⟩
theorem Al{P:eR}{id:Nat}{Q:Exit->Act->aL->Prop}{a:Act}{W:aL}{l:List Oper}(hm:P.follows .mixedOrders=true)(hB:Region.lexB .any l.toArray=true)
 (h:wpQuiet P l.toArray (fun b=> ∃x:y32 W,b=x.world) (fun c=> ∀b,(∃x:y32 W,b=x.world)->Q .normal c b) l a):(Code.region id l.toArray true).wp P Q a W:=
 wp_region_quiet (C:=fun b=> ∃x:y32 W,b=x.world) hm hB ⟨⟨_,(xr W).drew⟩,rfl⟩ (by simpa using h)
theorem cB{P:eR}{f:FuncId}{args:Array aT}{W:aL}{x:y32 W}{v:aT}(h:aX P f args x.world fun e a=> e= .returned v/\Ext x.world a):
 aX P f args x.world fun e b=> e= .returned v/\ ∃y:y32 W,b=y.world:=
 h.mono fun e a ⟨d,c⟩=>⟨d,⟨a,x.ext.trans c⟩,rfl⟩
theorem Vd{P:eR}{f:FuncId}{args:Array aT}{W:aL}{x:y32 W}{v:aT}(h:aX P f args x.world fun e b=> e= .returned v/\x.world=b):
 aX P f args x.world fun e a=> e= .returned v/\ ∃y:y32 W,a=y.world:=
 h.mono fun e b ⟨d,c⟩=>⟨d,x,c.symm⟩
theorem y32.own3{W:aL}{g:Nat}{d c b:aT}{e:aZ}(a:W.heap[g]? =some (.cells #[d,c,b] e (0,0))):
 (∀y:y32 W,y.world.cell? ⟨g,0,none⟩=some d)/\(∀y:y32 W,y.world.cell? ⟨g,1,none⟩=some c)/\(∀y:y32 W,y.world.cell? ⟨g,2,none⟩=some b):=
 ⟨fun y=> y.ext.cell (U1 a 0),fun y=> y.ext.cell (U1 a 1),fun y=> y.ext.cell (U1 a 2)⟩
theorem y32.cell{W:aL}{b o:Nat}{v:aT}(h:W.cell? ⟨b,o,none⟩=some v)(y:y32 W):y.world.cell? ⟨b,o,none⟩=some v:=y.ext.cell h
def pz(t:Tr):Prop:= ∀(w:aL) (a:Tr) (v b:aT),Lies w t v->Lies w a b->
 aX prog 15 #[v,b] w fun e c=> e= .returned (.bool (Z6 t a))/\Ext w c
theorem eI(d a:List Tr)(hk: ∀t∈d,pz t)(w:aL)(A H:Option Addr)(cap g:Nat)(h:y22 w A d)(hl:d.length<=cap)(hc:cap<=aV)(M:y22 w H a)(I:a.length<=g)(v:g<=aV):
 aX prog 47 #[.slice A d.length cap,.slice H a.length g,.func (.func 15) #[] #[]] w fun e N=> e= .returned (.bool (S7 d a))/\Ext w N:=by
 unfold aV at hc v;by_cases s:d.length=a.length
 · have hd:((d.length:Int) !=(a.length:Int))=false:=by rw[s];simp
   have F:=hdq s;clear s;go_enter func47,ntmps47;go_wp2_with fail
   go_loopw [17] (fun i wr=> ∃j:Nat,j<=d.length/\i= .int .i64 j/\S7 d a=S7 (d.drop j) (a.drop j)/\Ext w wr) (fun i _=> d.length -(intOf i).toNat)
   case atStart=> exact⟨0,bV _,rfl,rfl,xr _⟩
   case round=>
    obtain⟨j,hj,rfl,p,u⟩:=hrel;have y:=hdq p;clear p;by_cases m:j < d.length
    · have G:j < a.length:=by rw[<-F.out];exact m
      obtain⟨b,o,k,n,B,c,kids,rfl,L,c0,c1,W,Y,I3,hK,P,Q⟩:=h.get u m;obtain⟨Z,o',x,D,X,c',z,rfl,J,K,S,V,Kt,Lh,U,T,Be⟩:=M.get u G;have O:=bU _ _ K;have f:S7 (d.drop j) (a.drop j)=(Z6 (.mk k n kids) (.mk x D z)&& S7 (d.drop (j+1)) (a.drop (j+1))):=by
       rw[cL m,cL G,L.out,J.out]
       conv=> lhs;unfold S7
      have l:=hdq f;clear f;go_wp2_with fail;refine(hk _ Q _ (.mk x D z) _ _ (P.ext (((xr wr).alloc _).alloc _)) (T.ext (((xr wr).alloc _).alloc _))).mono ?_;rintro e w1 ⟨rfl,C⟩;have r:=u.trans C.pre.pre;generalize Z6 (.mk k n kids) (.mk x D z)=q at l;cases q with
      |false=>
       go_wp2_with fail;go_ret;exact⟨by rw[y.out,l.out];rfl,r⟩
      |true=>
       go_wp2_with fail
       go_roundw
       case rel=> exact⟨j+1,by omega,by go_num,by rw[y.out,l.out];rfl,r⟩
       case measure=> simp[intOf];omega
    · go_wp2_with fail
      go_ret;exact⟨by rw[y.out,cV (by omega),cV (by rw[<-F.out];omega)];rfl,u⟩
 · have hd:((d.length:Int) !=(a.length:Int))=true:=by rw[bne_iff_ne];omega
   have e:S7 d a=false:=by
    rw[Bool.eq_false_iff];intro R;exact s (JD R)
   have E:=hdq e;clear e;go_enter func47,ntmps47;go_wp2_with fail;go_ret;exact⟨by rw[E.out];rfl,xr _⟩
theorem FE: ∀t:Tr,pz t:=Tr.ind fun k n g hk=> by
 intro w u v z h o;obtain⟨A,cap,rfl,hl,hc,hK⟩:=Lies.mk_iff.1 h;obtain⟨c,f,a⟩:=u;obtain⟨y,i,rfl,j,l,m⟩:=Lies.mk_iff.1 o;clear h o;have q:=fun W (p:Ext w W)=> eI g a hk W A y cap i (hK.ext p) hl hc (m.ext p) j l
 have s:=hdq q;clear q;by_cases b:k=c
 · by_cases d:n=f
   · have e:Z6 (.mk k n g) (.mk c f a)=S7 g a:=by simp[Z6,b,d]
     have E:=hdq e;have r:(k==c)=true:=by simp[b]
     have x:(n==f)=true:=by simp[d]
     clear e b d;go_enter func15,ntmps15;go_wp2_with fail;refine(s.out _ (((xr w).alloc _).alloc _)).mono ?_;rintro e B ⟨rfl,hE⟩;go_wp2_with fail;go_ret;exact⟨by rw[E.out];rfl,hE.pre.pre⟩
   · have e:Z6 (.mk k n g) (.mk c f a)=false:=by simp[Z6,d]
     have E:=hdq e;have r:(k==c)=true:=by simp[b]
     have x:(n==f)=false:=by simpa using d
     clear e b d;go_enter func15,ntmps15;go_wp2_with fail;go_ret;exact⟨by rw[E.out];rfl,((xr w).alloc _).alloc _⟩
 · have e:Z6 (.mk k n g) (.mk c f a)=false:=by simp[Z6,b]
   have E:=hdq e;have r:(k==c)=false:=by simpa using b
   clear e b;go_enter func15,ntmps15;go_wp2_with fail;go_ret;exact⟨by rw[E.out];rfl,((xr w).alloc _).alloc _⟩
def RH(t:Tr):Prop:= ∀(w:aL) (a:Tr) (v b:aT),Lies w t v->Lies w a b->
 aX prog 159 #[v,b] w fun e c=> e= .returned (.bool (Z6 t a))/\Ext w c
theorem kK: ∀t:Tr,RH t:=Tr.ind fun k n f hk=> by
 intro w t' v v' V y;obtain⟨A,cap,rfl,hl,hc,h⟩:=Lies.mk_iff.1 V;obtain⟨l,m,a⟩:=t';obtain⟨Y,s,rfl,hl',L,h'⟩:=Lies.mk_iff.1 y;clear V y;unfold aV at hc L;by_cases p:k=l
 · by_cases r:n=m
   · by_cases C:f.length=a.length
     · have e:Z6 (.mk k n f) (.mk l m a)=S7 f a:=by simp[Z6,p,r]
       have E:=hdq e;have Q:(k !=l)=false:=by simp[p]
       have d2:(n !=m)=false:=by simp[r]
       have hd:((f.length:Int) !=(a.length:Int))=false:=by rw[C];simp
       have T:=hdq C;clear e p r C;go_enter func159,ntmps159;go_wp2_with fail;have g:Ext w ((w.alloc (.cells #[.int .i64 k,.int .i64 n,.slice A f.length cap] 25)).alloc (.cells #[.int .i64 l,.int .i64 m,.slice Y a.length s] 25)):=((xr w).alloc _).alloc _;have X:=blk2 (xr ((w.alloc (.cells #[.int .i64 k,.int .i64 n,.slice A f.length cap] 25)).alloc (.cells #[.int .i64 l,.int .i64 m,.slice Y a.length s] 25)));generalize (w.alloc _).alloc _=w2 at g X;obtain⟨R,W,hs2⟩:=X;have dh:=hdq R;have si:=hdq W;clear R W
       go_loopw [5] (fun i wr=> ∃j:Nat,j<=f.length/\i= .int .i64 j/\S7 f a=S7 (f.drop j) (a.drop j)/\Ext w2 wr) (fun i _=> f.length -(intOf i).toNat)
       case atStart=> exact⟨0,bV _,rfl,rfl,xr _⟩
       case round=>
        obtain⟨j,hj,rfl,D,x⟩:=hrel;obtain⟨-,-,x2,-,-,-⟩:=own3 (x.blk dh.out);obtain⟨-,-,y2,-,-,-⟩:=own3 (x.blk si.out);have O:=hdq D;clear D;by_cases u:j < f.length
        · have U:j < a.length:=by rw[<-T.out];exact u
          obtain⟨b,o,S,Z,B,c,kids,rfl,HK,c0,c1,c2,I5,I3,hK,G,e9⟩:=h.get (g.trans x) u;obtain⟨b',o',I,P,B',c',J,rfl,yl,Ks,M,Kl,Kt,Lh,hK',H,Be⟩:=h'.get (g.trans x) U;have d:S7 (f.drop j) (a.drop j)=(Z6 (.mk S Z kids) (.mk I P J)&& S7 (f.drop (j+1)) (a.drop (j+1))):=by
           rw[cL u,cL U,HK.out,yl.out]
           conv=> lhs;unfold S7
          go_wp2_with fail
          go_still_tail 10,(by kernel_rfl)
          change wpList _ _ _ _ _ wr.drew
          replace G:=G.ext (xr _).drew;replace H:=H.ext (xr _).drew;have z:=x.drew;generalize wr.drew=w3 at G H z;clear c0 c1 c2 Ks M Kl x2 y2;go_wp2_with fail;refine(hk _ e9 w3 (.mk I P J) _ _ G H).mono ?_;rintro e w1 ⟨rfl,K⟩;have F:=z.trans K;generalize Z6 (.mk S Z kids) (.mk I P J)=q at d;cases q with
          |false=>
           have N:=hdq d;clear d;go_wp2_with fail;go_ret;exact⟨by rw[E.out,O.out,N.out];rfl,g.trans F⟩
          |true=>
           have N:=hdq d;clear d;go_wp2_with fail
           go_roundw
           case rel=> exact⟨j+1,by omega,by go_num,by rw[O.out,N.out];rfl,F⟩
           case measure=> simp[intOf];omega
        · go_wp2_with fail
          go_ret;exact⟨by rw[E.out,O.out,cV (by omega),cV (by rw[<-T.out];omega)];rfl,g.trans x⟩
     · have e:Z6 (.mk k n f) (.mk l m a)=false:=by
        rw[Bool.eq_false_iff];intro he;have:=tt he
        injection this with _ _ h4
        exact C (by rw[h4])
       have E:=hdq e;have Q:(k !=l)=false:=by simp[p]
       have d2:(n !=m)=false:=by simp[r]
       have hd:((f.length:Int) !=(a.length:Int))=true:=by rw[bne_iff_ne];omega
       clear e p r C;go_enter func159,ntmps159;go_wp2_with fail;go_ret;exact⟨by rw[E.out];rfl,((xr w).alloc _).alloc _⟩
   · have e:Z6 (.mk k n f) (.mk l m a)=false:=by simp[Z6,r]
     have E:=hdq e;have Q:(k !=l)=false:=by simp[p]
     have d2:(n !=m)=true:=by rw[bne_iff_ne];exact r
     clear e p r;go_enter func159,ntmps159;go_wp2_with fail;go_ret;exact⟨by rw[E.out];rfl,((xr w).alloc _).alloc _⟩
 · have e:Z6 (.mk k n f) (.mk l m a)=false:=by simp[Z6,p]
   have E:=hdq e;have Q:(k !=l)=true:=by rw[bne_iff_ne];exact p
   clear e p;go_enter func159,ntmps159;go_wp2_with fail;go_ret;exact⟨by rw[E.out];rfl,((xr w).alloc _).alloc _⟩
def Ob(a:List Tr):Bool:=decide (a.length<=8)&& !a.any (fun t=> !j0 D0 t)
theorem Fr{a:List Tr}(h:Ob a=true):a.length<=8/\ ∀t∈a,j0 D0 t=true:=by
 unfold Ob at h;rw[Bool.and_eq_true,decide_eq_true_eq] at h;refine⟨h.1,fun t ht=> ?_⟩;have b:=h.2;simp only[Bool.not_eq_true',List.any_eq_false] at b
 simpa using b t ht
mutual
theorem InT.bound{w:aL}{S:Nat->Prop}: ∀{t:Tr} {v:aT},InT w S t v->InT w (fun b=> S b/\b < w.heap.size) t v
 | .mk k n c,v,h=> by
  obtain⟨A,cap,rfl,f,d,a⟩:=InT.mk_iff.1 h;refine InT.mk_iff.2 ⟨A,cap,rfl,f,d, ?_⟩;cases c with
  |nil=> exact .inl rfl
  |cons t ts=>
   rcases a with a|⟨b,o,rfl,g,hl⟩
   · cases a
   · refine .inr ⟨b,o,rfl,⟨g, ?_⟩,O4.bound hl⟩
     unfold O4 at hl;obtain⟨⟨v0,v1,v2,e,-⟩,-⟩:=hl;exact bU _ _ e
theorem O4.bound{w:aL}{S:Nat->Prop}{b:Nat}: ∀{o:Nat} {a:List Tr},O4 w S b o a->O4 w (fun b=> S b/\b < w.heap.size) b o a
 |_, [],_=> by unfold O4;trivial
 |o,t::ts,h=> by
  unfold O4 at h⊢;obtain⟨⟨v0,v1,v2,c,f,e,ht⟩,d⟩:=h;exact⟨⟨v0,v1,v2,c,f,e,InT.bound ht⟩,O4.bound d⟩
end
theorem InT.later{w c:aL}{S:Nat->Prop}{t:Tr}{v:aT}(h:InT w S t v)(d:Ext w c):InT c S t v:=
 InT.mono (fun _ a=> a.1) (fun b a=> d.heap b a.2) h.bound
theorem zE{w:aL}{o:Obj}{n:Nat}(h:n=w.heap.size):(w.alloc o).heap[n]? =some o:=h▸heap_alloc_new w o
theorem Ci(n a hi:Int)(w:aL):aX prog 51 #[m0 n,m0 a,m0 hi] w fun e g=> e= .returned (.bool (db n a hi))/\w=g:=by
 by_cases b:a<=n
 · by_cases c:n<=hi
   · have e:db n a hi=true:=Pg.2 ⟨b,c⟩
     have E:=hdq e;have d:decide (a<=n)=true:=by simpa using b
     have f:decide (n<=hi)=true:=by simpa using c
     clear e;go_enter func51,ntmps51;go_wp2_with fail;go_ret;exact⟨by rw[E.out];rfl,rfl⟩
   · have e:db n a hi=false:=fD.2 (.inr (by omega))
     have E:=hdq e;have d:decide (a<=n)=true:=by simpa using b
     have f:decide (n<=hi)=false:=by simpa using c
     clear e;go_enter func51,ntmps51;go_wp2_with fail;go_ret;exact⟨by rw[E.out];rfl,rfl⟩
 · have e:db n a hi=false:=fD.2 (.inl (by omega))
   have E:=hdq e;have d:decide (a<=n)=false:=by simpa using b
   clear e;go_enter func51,ntmps51;go_wp2_with fail;go_ret;exact⟨by rw[E.out];rfl,rfl⟩
theorem fA(k:Int)(w:aL):aX prog 108 #[m0 k] w fun e d=> e= .returned (m0 (U0 k))/\Ext w d:=by
 by_cases a:db k 1 16=true
 · have g:=hdq a
   have b:=Pg.1 a;clear a;have c: ∀j:Nat,j < 16->k=(j:Int)+1->aX prog 108 #[m0 k] w fun e d=> e= .returned (m0 (U0 k))/\Ext w d:=by
    intro j n hk;subst hk;have f:=g;go_enter func108,ntmps108;go_wp2_with (go_at_call 51;refine(Ci _ _ _ _).mono ?_;rw[f.out];rintro e i ⟨rfl,rfl⟩)
    go_ret;refine⟨?_,(xr _).alloc _⟩;rcases(by omega:j=0\/j=1\/j=2\/j=3\/j=4\/j=5\/j=6\/j=7\/j=8\/j=9\/j=10\/j=11\/j=12\/j=13\/j=14\/j=15) with rfl|rfl|rfl|rfl|rfl|rfl|rfl|rfl|rfl|rfl|rfl|rfl|rfl|rfl|rfl|rfl <;> rfl
   exact c (k - 1).toNat (by omega) (by omega)
 · have b:db k 1 16=false:=by simpa using a
   have l:=hdq b;have m:=fD.1 b;have e:U0 k= -1:=by
    unfold U0
    repeat rw[if_neg (by omega)]
   have E:=hdq e;clear a b e;go_enter func108,ntmps108;go_wp2_with (go_at_call 51;refine(Ci _ _ _ _).mono ?_;rw[l.out];rintro e i ⟨rfl,rfl⟩)
   go_ret;exact⟨by rw[E.out];rfl,xr _⟩
theorem xB(k:Int)(w:aL):aX prog 109 #[m0 k] w fun e d=> e= .returned (m0 (Ma k))/\w=d:=by
 by_cases a:k=1
 · have e:Ma k=20:=by simp[Ma,a]
   have E:=hdq e;have f:(k==1)=true:=by simpa using a
   clear e a;go_enter func109,ntmps109;go_wp2_with fail;go_ret;exact⟨by rw[E.out];rfl,rfl⟩
 · have f:(k==1)=false:=by simpa using a
   by_cases b:k=2
   · have e:Ma k=3:=by simp[Ma,b]
     have E:=hdq e;have c:(k==2)=true:=by simpa using b
     clear e a b;go_enter func109,ntmps109;go_wp2_with fail;go_ret;exact⟨by rw[E.out];rfl,rfl⟩
   · have e:Ma k=0:=by simp[Ma,a,b]
     have E:=hdq e;have c:(k==2)=false:=by simpa using b
     clear e a b;go_enter func109,ntmps109;go_wp2_with fail;go_ret;exact⟨by rw[E.out];rfl,rfl⟩
def MA(S:Nat->Prop)(w a:aL)(b:Nat):Prop:=S b\/w.heap.size<=b/\b < a.heap.size
def New(w a:aL)(t:Tr)(v:aT):Prop:=InT a (fun b=> w.heap.size<=b/\b < a.heap.size) t v
theorem New.since{a w c:aL}{t:Tr}{v:aT}(h:New w c t v)(e:a.heap.size<=w.heap.size):New a c t v:=h.mono (fun b d=>⟨Nat.le_trans e d.1,d.2⟩) (fun _ _=> rfl)
theorem InK.one{w:aL}{S:Nat->Prop}{e:aZ}{t:Tr}{v0 v1 v2:aT}{g:Nat}(h:InT w S t (.agg #[v0,v1,v2]))(a:w.heap[g]? =some (.cells #[v0,v1,v2] e (0,0)))(hS:S g):InK w S (some ⟨g,0,none⟩) [t]:=by
 refine .inr ⟨g,0,rfl,hS, ?_⟩;unfold O4;refine⟨⟨v0,v1,v2,U1 a 0,U1 a 1,U1 a 2,h⟩, ?_⟩;unfold O4
 trivial
theorem de(w:aL)(k:Int)(A:Option Addr)(len cap:Nat):aX prog 56 #[m0 k,.slice A len cap] w fun e a=> e= .returned (M0 k 0 A len cap)/\Ext w a:=by
 go_enter func56,ntmps56;go_wp2_with fail;exact aP (v:= M0 k 0 A len cap) (by simp[results,results56,go_sem]) rfl ⟨rfl,(xr w).alloc _⟩
theorem q15(w:aL)(k n:Int):aX prog 62 #[m0 k,m0 n] w fun e a=> e= .returned (M0 k n none 0 0)/\Ext w a:=by
 go_enter func62,ntmps62;go_wp2_with fail;exact aP (v:= M0 k n none 0 0) (by simp[results,results62,go_sem]) rfl ⟨rfl,(xr w).alloc _⟩
theorem VF:(prog.info? 25).map (fun i=>(i.zero,i.size,i.bytes))=some (some (M0 0 0 none 0 0),3,40):=by kernel_rfl
theorem IE(w:aL)(k:Int)(A:Option Addr)(cap:Nat)(c:List Tr)(hA:A=none->cap=0)(S:Nat->Prop)(hS: ∀b,S b->b < w.heap.size)(hK:InK w S A c)(hn:c.length<=1099511627776):
 aX prog 60 #[.int .i64 k,.slice A c.length cap] w fun e m=> ∃u,e= .returned u/\InT m (MA S w m) (.mk k 0 c) u/\Ext w m:=by
 obtain⟨t,hi,g,j,i⟩:=info_parts VF;have f:InK (w.alloc (.cells #[.int .i64 0,.int .i64 0,.slice none 0 0] 25)) S A c:=InK.mono (fun _ h=> h) (fun b a=> Below.heap_alloc w _ b (hS b a)) hK;go_enter func60,ntmps60;go_wp2_with (at_builtin;refine mK _ rfl (.tmp 6) (.tmp 7) 23 rfl 25 t _ underlying23 hi g j i rfl (W:=w.alloc (.cells #[.int .i64 0,.int .i64 0,.slice none 0 0] 25)) (v:= .slice (some ⟨w.heap.size+1,0,none⟩) 0 0) (A:=A) (cap:=cap) (ks:=c) rfl ?ow ((xr _).alloc _) rfl hA ?hS f hn ?_)
 case ow=> simpa using World.ownsRow_lit (base:=w.heap.size+1) (e:=25) (size:=3) (w.alloc (.cells #[.int .i64 0,.int .i64 0,.slice none 0 0] 25)) #[] 0 (by simp) (bV _) rfl
 case hS=> intro b a;have:=hS b a;simp;omega
 intro B s y hB o l hE _;have a:=Xd hE;obtain⟨p,x,q,C,z,D⟩:=own3 a.1;have n:=hE.pre;have r:=a.2;clear hi g j i f a;go_wp2_with fail;refine aP (v:= .agg #[.int .i64 k,.int .i64 0,.slice B c.length s]) (by simp[results,results60,go_sem,p,x,q]) rfl ⟨_,rfl,InT.mk_iff.2 ⟨_,_,rfl,o,l,hB.mono ?_ ?_⟩, ?_⟩
 · intro b a
   unfold MA;rw[eZ,eZ,eZ];rcases a with a|a
   · exact .inl a
   · have:=a.1
     exact .inr ⟨by omega,a.2⟩
 · intro b a
   have d:b≠w.heap.size:=by
    rcases a with a|a
    · have:=hS b a
      omega
    · have:=a.1
      omega
   rw[Below.heap_setCell _ _ _ _ d,Below.heap_setCell _ _ _ _ d,Below.heap_setCell _ _ _ _ d]
 · exact((n.setCell (aN _) _).setCell (aN _) _).setCell (aN _) _
theorem W0.three{w a:aL}{e:aZ}{t:Tr}{u:aT}(h:W0 w a e t u): ∃k n A l c,u= M0 k n A l c:=by
 obtain⟨k,n,b⟩:=t;obtain⟨A,cap,rfl,_⟩:=W0.mk_iff.1 h;exact⟨k,n,A,_,cap,rfl⟩
theorem Lies.three{w:aL}{t:Tr}{u:aT}(h:Lies w t u): ∃k n A l c,u= M0 k n A l c:=by
 obtain⟨k,n,a⟩:=t;obtain⟨A,cap,rfl,_⟩:=Lies.mk_iff.1 h;exact⟨k,n,A,_,cap,rfl⟩
theorem N4.only{W w d:aL}{e:aZ}{v:aT}{f:List Tr}{L:List Nat}(h:N4 W w e v f)(c:D1 L w d)(g: ∀b,b∈L->b < W.heap.size):N4 W d e v f:=
 h.same c.size (fun b i a=> c.block b a (fun hm=> by have:=g b hm;omega))
theorem D1.below{L:List Nat}{a w c:aL}{B:Nat}(h:D1 L a w)(b:Below B w c)(hB:a.heap.size<=B):D1 L a c:=
 ⟨b.os.trans h.os,b.tape.trans h.tape,b.output.trans h.output,Nat.le_trans h.size b.size,fun i hi hn=>(b.block i (by omega)).trans (h.block i hi hn)⟩
theorem N4.step2{W wr c w j:aL}{e:aZ}{v o:aT}{n:List Tr}{t:Tr}{v0 v1 v2:aT}{r:List aT}{L:List Nat}
 (A:B2 wr e r n L) (hF:bd W wr L) (hv: ∀g,v.ownBlock=some g-> ¬g∈L/\g < wr.heap.size/\W.heap.size<=g) (hx:r.length=n.length*3) (x:W.heap.size<=wr.heap.size) (l:wr.heap.size<=c.heap.size) (B: ∀b,W.heap.size<=b->b < wr.heap.size->c.heap[b]? =wr.heap[b]?) (q:W0 wr c e t (.agg #[v0,v1,v2])) (m:Ext c w)
 (z:j.ownsRow W.heap.size e 3 o (n.length+1) (r++ [v0,v1,v2])) (i:w.grownBy j v.ownBlock) (y: ∀g,o.ownBlock=some g->v.ownBlock=some g\/w.heap.size<=g):N4 W j e o (n++ [t])/\Below W.heap.size c j/\(∀b,wr.heap.size<=b->b < c.heap.size->j.heap[b]? =c.heap[b]?):=by
 obtain⟨M,q,k⟩:=q;have F:=l;have E:=m.size;have keep: ∀b,b < c.heap.size->(v.ownBlock≠some b)->j.heap[b]? =c.heap[b]? :=fun b a p=>(i.block b (by omega) (fun h=> p h.symm)).trans (m.heap b a)
 refine⟨⟨_,L++M,by simpa using z,B2.snoc (q.mono fun b a=> keep b (k.2 b a).2 fun f=> ?_) [] hx (A.mono fun b a=>(keep b (by have:=(hF.2 b a).2;omega) fun f=> ?_).trans (B b (hF.2 b a).1 (hF.2 b a).2)), ?_,fun g u hm=> ?_⟩, ?_⟩
 · have:=(hv b f).2.1
   have:=(k.2 b a).1;omega
 · exact(hv b f).1 a
 · have s:=hF.append (d:=c) k (aN _) x l
   exact s.mono (aN _) (by have:=i.size;omega)
 · rcases y g u with h|h
   · rcases List.mem_append.1 hm with hm|hm
     · exact(hv g h).1 hm
     · have:=(hv g h).2.1
       have:=(k.2 g hm).1;omega
   · rcases List.mem_append.1 hm with hm|hm
     · have:=(hF.2 g hm).2
       omega
     · have:=(k.2 g hm).2
       omega
 · refine⟨⟨i.os.trans m.os,i.tape.trans m.tape,i.output.trans m.output,by have:=i.size;omega,fun b a=> ?_⟩,fun b D C=> keep b C (fun f=> by have:=(hv b f).2.1;omega)⟩
   exact keep b (by omega) (fun f=> by have:=(hv b f).2.2;omega)
theorem ZG{P:eR}(w:aL){o:Oper}{a:Act}{K:Act->aL->Prop}{Q:Exit->Act->aL->Prop}(s x:jW)(t:aZ)
 (S:o.op= .call {callee:= .builtin .append,args:=#[s,x],argTypes:=#[t,t]})
 (e:aZ) (i:jN) (z:aT) (ht:P.underlying t=some (.slice e)) (hi:P.info? e=some i) (G:i.zero=some z) (c:i.size=3) (r:i.bytes=40) (y:z.cells.size=3)
 {W wr f:aL} {v:aT} {m:List Tr} {tr:Tr} {v0 v1 v2:aT} {u:Nat} (hs:a.eval s=v) (hG:N4 W wr e v m) (H:W.heap.size<=wr.heap.size) (n:wr.heap.size<=f.heap.size) (D: ∀b,W.heap.size<=b->b < wr.heap.size->f.heap[b]? =wr.heap[b]?) (B:W0 wr f e tr (.agg #[v0,v1,v2])) (A:Ext f w)
 (hx:a.eval x= .slice (some ⟨u,0,none⟩) 1 1) (q:w.heap[u]? =some (.cells #[v0,v1,v2] e (0,0))) (hn:m.length < 1099511627776)
 (h: ∀p k,N4 W k e p (m++ [tr])->Below W.heap.size f k->(∀b,wr.heap.size<=b->b < f.heap.size->k.heap[b]? =f.heap[b]?)->K (a.put o.dst p) k):o.wp P a w K Q:=by
 obtain⟨C,L,j,N,F,I⟩:=hG;have V:=n;have U:=A.size;have l:w.ownsRow W.heap.size e 3 v m.length C:=Sx j (fun g d=>(A.heap g (by have:=(j.lt g d).2;omega)).trans (D g (j.lt g d).1 (j.lt g d).2));obtain⟨p,k,hr,T,O,E⟩:=cr (P:=P) w W.heap.size t o.type e i z 3 40 ht hi G c r y (by decide) v m.length C l ⟨u,0,none⟩ 1 1 [v0,v1,v2] rfl (wE q) (fE B) (by unfold aV;omega) (by omega) (by omega);obtain⟨M,J,R⟩:=N4.step2 N F (fun g d=>⟨I g d,(j.lt g d).2,(j.lt g d).1⟩) j.1 H n D B A T O E;unfold Oper.wp execOp;simp only[S,resolve,invoke,builtin,iV,iW,fX,gO,gV,iX,hs,hx,hr];exact h p k M J R
theorem MJ{P:eR}(w:aL){ops:Array Oper}{o:Oper}{a:Act}{K:Act->aL->Prop}{Q:Exit->Act->aL->Prop}{E:Prop}(l:o.guard=none)(s x:jW)(t:aZ)
 (B:o.op= .call {callee:= .builtin .append,args:=#[s,x],argTypes:=#[t,t]})
 (e:aZ) (i:jN) (z:aT) (ht:P.underlying t=some (.slice e)) (hi:P.info? e=some i) (u:i.zero=some z) (c:i.size=3) (k:i.bytes=40) (m:z.cells.size=3)
 {W wr d:aL} {v:aT} {g:List Tr} {tr:Tr} {v0 v1 v2:aT} {q:Nat} (hs:a.eval s=v) (hG:N4 W wr e v g) (y:W.heap.size<=wr.heap.size) (n:wr.heap.size<=d.heap.size) (C: ∀b,W.heap.size<=b->b < wr.heap.size->d.heap[b]? =wr.heap[b]?) (A:W0 wr d e tr (.agg #[v0,v1,v2])) (D:Ext d w)
 (hx:a.eval x= .slice (some ⟨q,0,none⟩) 1 1) (j:w.heap[q]? =some (.cells #[v0,v1,v2] e (0,0))) (hn:g.length < 1099511627776)
 (h: ∀p f,N4 W f e p (g++ [tr])->Below W.heap.size d f->(∀b,wr.heap.size<=b->b < d.heap.size->f.heap[b]? =d.heap[b]?)->K (a.put o.dst p) f):
 if eN o (yielded ops a.tmps)=true then Oper.wp P o a w K Q else E:=by
 have r:eN o (yielded ops a.tmps)=true:=by simp[eN,l]
 rw[if_pos r];exact ZG w s x t B e i z ht hi u c k m hs hG y n C A D hx j hn h
