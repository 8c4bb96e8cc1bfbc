/-
  Lemmas towards the law, 18: Clone, Mutate, HeadP.
-/
import Derived.Test.YtckhbnmfnpolgaaGreatC00
import Derived.Test.YtckhbnmfnpolgaaGreatCAQ
open Go renaming World->aL,TypeId->aZ,Value->aT,bodyPost_ret->aP,results->aR
open List renaming map_toArray->gO,take_append_drop->iQ,length_set->gQ,length_cons->cN
open Nat renaming le_refl->aN,zero_le->bV,lt_of_lt_of_le->aY
open Go.RowKit.Below renaming heap_setCell->aM
open Prod.mk renaming injEq->cO
open Go.Proofs.Tryz
set_option linter.all false
set_option maxHeartbeats 4000000
set_option maxRecDepth 100000
namespace Go.Proofs.YtckhbnmfnpolgaaGreat
open Go.RowKit
attribute [local go_sem ↓] Go.wp_at_zero Go.wp_at_succ
theorem Sy:(prog.info? 25).map (fun i=>(i.zero,i.size,i.bytes))=some (some (M0 0 0 none 0 0),3,40):=by kernel_rfl
theorem CK{P:Program}(w:aL){ops:Array Oper}{rest:List Oper}{o:Oper}{a:Act}{Q:Exit->Act->aL->Prop}(r:o.guard=none)(s x:Operand)(t:aZ)
 (F:o.op= .call {callee:= .builtin .append,args:=#[s,x],argTypes:=#[t,t]})
 (base:Nat) (e:aZ) (i:TypeInfo) (z:aT) (ht:P.underlying t=some (.slice e)) (hi:P.info? e=some i) (D:i.zero=some z) (b:i.size=3) (q:i.bytes=40) (y:z.cells.size=3)
 {v:aT} {p:Addr} {m cap:Nat} {n:List aT} (hs:a.eval s=v) (f:w.ownsRow base e 3 v 0 []) (d:base<=w.heap.size) (hx:a.eval x= .slice (some p) m cap)
 (hl:n.length=m*3) (c: ∀j u,n[j]? =some u->w.cell? (p.add j)=some u) (G: ∀u∈n,u.oneCell'=true) (hm:m<=1048576)
 (h: ∀k l,l.ownsRow base e 3 k m n->w.grownBy l v.ownBlock->(∀g,k.ownBlock=some g->v.ownBlock=some g\/w.heap.size<=g)->wpList P ops Q rest (a.put o.dst k) l):wpList P ops Q (o::rest) a w:=by
 refine wpList_plain r fun K A=> ?_
 obtain⟨k,l,hr,B,E,C⟩:=cr (P:=P) w base t o.type e i z 3 40 ht hi D b q y (by decide) v 0 [] f p m cap n hl c G (by unfold maxLen;omega) (by omega) d;rw[Nat.zero_add,List.nil_append] at B;unfold Oper.wp execOp;simp only[F,resolve,invoke,builtin,Sem.run_bind,Sem.run_pure,Result.andThen_ok,gO,List.map_cons,List.map_nil,hs,hx,hr];exact A _ _ (h k l B E C)
def aH(w:aL)(N:Nat->Prop)(d:List Tr)(e:Ending)(a:aL):Prop:= ∃v c,e= .returned v/\a.ownsRow w.heap.size 25 3 v d.length c/\I1 a (fun b=> N b/\b < w.heap.size) c d/\Ext w a
theorem QD(a:List Tr)(w:aL)(N:Nat->Prop)(A:Option Addr)(cap:Nat)(hK:InK w N A a)(hn:a.length<=1048576):Calls prog 179 #[.slice A a.length cap] w (aH w N a):=by
 obtain⟨D,hi,l,p,n⟩:=info_parts Sy;have c: ∀W,(binOp .eql 23 (.slice A a.length cap) (.slice none 0 0)).run prog W= .ok (.bool A.isNone) W:=fun W=> Lib.run_eql_slice_nil W 23 _ A a.length cap 0 0 underlying23
 cases A with
 |none=>
  have C:a= []:=by
   rcases hK with h|⟨b,o,h,-⟩
   · exact h
   · cases h
  subst C;simp only[List.length_nil,Option.isNone_none] at c⊢;go_enter func179,ntmps179;go_wp2_with fail;go_ret;exact⟨_, [],rfl,World.ownsRow_nil _ _ _ _,I1.nil,xr _⟩
 |some q=>
  have hx:=(xr w).alloc (.cells #[] 25);have hG:(w.alloc (.cells #[] 25)).ownsRow w.heap.size 25 3 (.slice (some ⟨w.heap.size,0,none⟩) 0 0) 0 []:=World.ownsRow_lit w #[] 0 (aN _) (bV _) rfl;obtain⟨d,i,e,m,f⟩: ∃d:List aT,d.length=a.length*3/\(∀j u,d[j]? =some u->(w.alloc (.cells #[] 25)).cell? (q.add j)=some u)/\(∀u∈d,u.oneCell'=true)/\I1 w (fun b=> N b/\b < w.heap.size) d a:=by
   rcases hK.bound with rfl|⟨b,o,h,g,B⟩
   · exact⟨[],rfl,fun j u h=> by simp at h,fun u h=> by simp at h,I1.nil⟩
   · obtain⟨d,i,e,m,f⟩:=B.rowL
     simp only[Option.some.injEq] at h;subst h;exact⟨d,i,fun j u y=> by rw[Addr.add_lit];exact hx.cell (e j u y),m,f⟩
  have z:=hdq e;have t:=hdq f;simp only[Option.isNone_some] at c;clear hK e f;go_enter func179,ntmps179;go_wp2_with (at_builtin;go_loud (refine CK _ rfl (.tmp 5) (.tmp 6) 23 rfl w.heap.size 25 D _ underlying23 hi l p n rfl (v:= .slice (some ⟨w.heap.size,0,none⟩) 0 0) rfl hG (by simp) rfl i z.out m hn ?_))
  intro r s E x F;have hE:Ext w s:=hx.grown x (by intro k hk;simp[Value.ownBlock] at hk;omega);go_wp2_with fail;go_ret;exact⟨r,d,rfl,E,t.out.mono (fun b g=> g) (fun b g=> hE.heap b g.2),hE⟩
theorem vK{P:Program}(w:aL){ops:Array Oper}{o:Oper}{a:Act}{K:Act->aL->Prop}{Q:Exit->Act->aL->Prop}{E:Prop}(u:o.guard=none)(s x:Operand)(t:aZ)
 (J:o.op= .call {callee:= .builtin .append,args:=#[s,x],argTypes:=#[t,t]})
 (e:aZ) (i:TypeInfo) (z:aT) (ht:P.underlying t=some (.slice e)) (hi:P.info? e=some i) (F:i.zero=some z) (f:i.size=3) (q:i.bytes=40) (y:z.cells.size=3)
 {X:Nat->Prop} {W:aL} {v:aT} {l:List Tr} {tr:Tr} {v0 v1 v2:aT} {r:Nat} (hs:a.eval s=v) (hG:T8 X W w e v l) (H:W.heap.size<=w.heap.size)
 (hT:InT w (fun b=> b < w.heap.size/\v.ownBlock≠some b/\ ¬X b) tr (.agg #[v0,v1,v2]))
 (hx:a.eval x= .slice (some ⟨r,0,none⟩) 1 1) (p:w.heap[r]? =some (.cells #[v0,v1,v2] e (0,0))) (hn:l.length < 1099511627776)
 (h: ∀j c,T8 X W c e j (l++ [tr])->Below W.heap.size w c->w.grownBy c v.ownBlock->(∀g,j.ownBlock=some g->v.ownBlock=some g\/w.heap.size<=g)->K (a.put o.dst j) c):
 if Region.wanted o (yielded ops a.tmps)=true then Oper.wp P o a w K Q else E:=by
 have D:Region.wanted o (yielded ops a.tmps)=true:=by simp[Region.wanted,u]
 rw[if_pos D];obtain⟨L,A,I⟩:=hG;obtain⟨j,c,hr,M,d,B⟩:=cr (P:=P) w W.heap.size t o.type e i z 3 40 ht hi F f q y (by decide) v l.length L A ⟨r,0,none⟩ 1 1 [v0,v1,v2] rfl (wE p) (BD hT) (by unfold maxLen;omega) (by omega) H;have hB:Below W.heap.size w c:=⟨d.os,d.tape,d.output,d.size,fun b k=> d.block b (by omega) (fun n=> by have:=(A.lt b n.symm).1;omega)⟩;have hS: ∀b,b < w.heap.size/\v.ownBlock≠some b/\ ¬X b->b < c.heap.size/\j.ownBlock≠some b/\ ¬X b:=fun b k=> by
  refine⟨aY k.1 d.size,fun n=> ?_,k.2.2⟩;rcases B b n with C|C
  · exact k.2.1 C
  · omega
 have m: ∀b,b < w.heap.size/\v.ownBlock≠some b/\ ¬X b->c.heap[b]? =w.heap[b]? :=fun b k=> d.block b k.1 (fun n=> k.2.1 n.symm)
 have G:T8 X W c e j (l++ [tr]):=⟨_,by simpa using M,I1.snoc (hT.mono hS m) [] A.1 (I.mono hS m)⟩;unfold Oper.wp execOp;simp only[J,resolve,invoke,builtin,Sem.run_bind,Sem.run_pure,Result.andThen_ok,gO,List.map_cons,List.map_nil,hs,hx,hr];exact h j c G hB d B
theorem T8.keep{X:Nat->Prop}{W w c:aL}{e:aZ}{v:aT}{f:List Tr}(h:T8 X W w e v f)(hs:w.heap.size<=c.heap.size)(hk: ∀b,b < w.heap.size-> ¬X b->c.heap[b]? =w.heap[b]?)(g: ∀b,v.ownBlock=some b-> ¬X b):T8 X W c e v f:=by
 obtain⟨i,d,j⟩:=h;exact⟨i,Sx d (fun b a=> hk b (d.lt b a).2 (g b a)),j.mono (fun b a=>⟨aY a.1 hs,a.2.1,a.2.2⟩) (fun b a=> hk b a.1 a.2.2)⟩
theorem T8.liesX{X:Nat->Prop}{W w:aL}{e:aZ}{v:aT}{a:List Tr}(h:T8 X W w e v a)(m: ∀b,v.ownBlock=some b-> ¬X b): ∃A cap,v= .slice A a.length cap/\a.length<=cap/\cap<=maxLen/\InK w (fun b=> b < w.heap.size/\ ¬X b) A a:=by
 obtain⟨q,p,l⟩:=h;rcases p.2 with⟨rfl,o⟩ |⟨g,cap,c,rfl,f,j,n,d,k,ht⟩
 · have:a= []:=List.eq_nil_of_length_eq_zero o
   subst this;exact⟨none,0,rfl,aN _,bV _,.inl rfl⟩
 · refine⟨_,cap,rfl,n,d,.inr ⟨g,0,rfl,⟨O1 j,m g rfl⟩, ?_⟩⟩
   have i:=I1.tail (c.toList.drop (a.length*3)) (l.mono (S':=fun b=> b < w.heap.size/\ ¬X b) (fun b f=>⟨f.1,f.2.2⟩) (fun _ _=> rfl));rw[<-ht,iQ] at i;exact I1.inL j (pre:= []) i (by simp)
theorem T8.widen{X c:Nat->Prop}{W w:aL}{e:aZ}{v:aT}{d:List Tr}(h:T8 X W w e v d)(i: ∀b,b < w.heap.size-> ¬X b-> ¬c b):T8 c W w e v d:=by
 obtain⟨f,j,g⟩:=h;exact⟨f,j,g.mono (fun b a=>⟨a.1,a.2.1,i b a.1 a.2.2⟩) (fun _ _=> rfl)⟩
inductive MR:Tr->Tr->Prop where
 |kind {k n y:Int} {ks:List Tr}:y∈ [(0:Int),17,1,5,6]->MR (.mk k n ks) (.mk y n ks)
 |num {k n y:Int} {ks:List Tr}:y∈ [(21:Int),-1,1,9223372036854775807]->MR (.mk k n ks) (.mk k y ks)
 |more {k n:Int} {ks:List Tr}:MR (.mk k n ks) (.mk k n (ks++ [.mk 7 0 []]))
 |succ {t:Tr}:MR t (.mk 8 0 [t])
 |var {k n:Int} {ks:List Tr}:ks≠ []->MR (.mk k n ks) (.mk k n (ks.set 0 (.mk 1 25 [])))
 |same {t:Tr}:MR t t
theorem WF:(prog.info? 25).map (fun i=>(i.zero,i.size,i.bytes))=some (some (M0 0 0 none 0 0),3,40):=by kernel_rfl
theorem RE(t:Tr)(w:aL)(g m:Nat)(v:aT)(b8:Lies w t v)(C0:cnt t<=900000)(hR:Rd w g m)(hm:m < 900000):Calls prog 70 #[.pointer (some ⟨g,0,none⟩),v] w fun e w'=> ∃t' u,e= .returned u/\(cnt t'<=cnt t+1/\MR t t')/\Y1 w.heap.size w' t' u/\Rd w' g (m+2)/\D1 [g] w w':=by
 have E:=hR.lt;obtain⟨k,n,a⟩:=t;have HC:=hdq (fun W (hW:Ext w W)=> tI k n a W v (b8.ext hW) (by omega));obtain⟨A,cap,rfl,hl,hc,hK⟩:=Lies.mk_iff.1 b8;have hlc:=Lf a;simp only[cnt] at C0;have Z:=((xr w).alloc (H0 k n A a.length cap)).alloc (H0 0 0 none 0 0);obtain⟨b30,Ka,hs0⟩:=blk2 (xr ((w.alloc (H0 k n A a.length cap)).alloc (H0 0 0 none 0 0)));clear b8 hK hl hc b30;go_enter func70,ntmps70;go_wp2_with fail;generalize (w.alloc _).alloc _=w0 at Z Ka hs0;refine(HC.out _ Z).mono ?_;rintro e w1 ⟨B,c,rfl,⟨W,hW0,Hn,hW1⟩,e1⟩;have hx2:=e1.trans ((xr w1).alloc (H0 k n B a.length c));obtain⟨w2,T⟩: ∃w2,w2=w1.alloc (H0 k n B a.length c):=⟨_,rfl⟩;have Ew:w2.heap[w1.heap.size]? =some (H0 k n B a.length c):=T▸heap_alloc_new w1 _;have I2:T8 (fun b=> b < W.heap.size\/b=w1.heap.size) W w2 25 (.slice B a.length c) a:=T▸(Hn.widen (fun b f hn h=> by rcases h with h|h;exact hn h;omega)).ext ((xr w1).alloc _);have l: ∀q,(Value.slice B a.length c).ownBlock=some q->W.heap.size<=q/\q < w1.heap.size:=by
  obtain⟨xs,q1,-⟩:=Hn;exact fun q hq=>⟨(q1.lt q hq).1,(q1.lt q hq).2⟩
 rw[<-T] at hx2;have Jh:=hx2.blk Ka;have hs2:w1.heap.size < w2.heap.size:=O1 Ew;obtain⟨d,s9⟩: ∃d,d=w1.heap.size:=⟨_,rfl⟩;have hW5:W.heap.size<=d:=by omega
 rw[<-s9] at I2 l;go_wp2_with fail;rw[<-T];rw[<-s9] at Ew⊢;clear T Hn HC Ka;refine(Yf _ g m 50 (hR.ext (Z.trans hx2)) (by omega)).mono ?_;rintro e j ⟨x,rfl,hx50,-,O,V9⟩;have R:D1 [g] w j:=(oE (Z.trans hx2)).trans V9;have hw15:w.heap.size+1 < d:=by have:=O1 Jh;have:=e1.size;omega
 have P:=V9.keepBlk Jh (by simp;omega);have s:=V9.keepBlk Ew (by simp;omega);have Ea: ∀q,(Value.slice B a.length c).ownBlock=some q-> ¬(q < W.heap.size\/q=d):=fun q hq h=> by have:=l q hq;omega
 have qm:=I2.keep V9.size (fun b f hn=> V9.block b f (fun hm=> hn (.inl (by rw[List.mem_singleton.1 hm];omega)))) Ea;have hgx4:d < j.heap.size:=O1 s;clear Jh Ew I2 hR V9 hs2 s9;obtain⟨B',c',wn,S6,J,hKs⟩:=qm.liesX Ea;cases wn
 have HK:=hdq (show∀w':aL,j.heap.size<=w'.heap.size->(∀b,W.heap.size<=b->b≠d->b < j.heap.size->w'.heap[b]? =j.heap[b]?)->xb (w.heap.size+2) w' B a from fun w' V N=> hKs.mono (fun b f=>⟨by omega,by omega⟩) (fun b f=> N b (by omega) (by omega) f.1));have HG:=hdq qm;have oy:=hdq Ea;have HOW:=hdq l;clear hKs qm Ea l;by_cases h0:x=0
 · subst h0
   have C:=(xr j).alloc (.cells #[m0 0,m0 17,m0 1,m0 5,m0 6] 3);obtain⟨z0,z1,z2,q0,q1,q2⟩:=own3 s;go_wp2_with fail;refine(dm _ g _ (O.ext C) (by omega) _ 5 [0,17,1,5,6] (by simp) (by decide) (by simp) (UA rfl) (by intro b o f;simp at f;have:=R.size;omega)).mono ?_;rintro e K ⟨y,rfl,hy,rf,D⟩;have HY:=hdq hy;clear hy;have rc:=(R.trans (oE (L:= [g]) C)).trans D;have Y:=D.keepBlk (C.blk P) (by simp;omega);have vg:=D.keepBlk (C.blk s) (by simp;omega);have Aq:j.heap.size<=K.heap.size:=by have:=C.size;have:=D.size;omega
   have uz:=HK.out (K.setCell ⟨d,0,none⟩ (m0 y)) (by simpa using Aq) (fun b V N h3=>(aM _ _ _ _ (by show b≠d;exact N)).trans ((D.block b (by have:=C.size;omega) (by simp;omega)).trans (C.heap b h3)));have Fo:=Bd Y (p:=⟨d,0,none⟩) (by show w.heap.size+1≠d;omega) (m0 y);have Ey:=N5 vg 0 (m0 y);have qx:Rd (K.setCell ⟨d,0,none⟩ (m0 y)) g (m+2):=rf.set (by show g < d;omega) _;have Cf:=rc.setNew (p:=⟨d,0,none⟩) (by show w.heap.size<=d;omega) (m0 y);obtain⟨y0,y1,y2,p0,p1,p2⟩:=own3 vg;obtain⟨I,M,G,f0,f1,f2⟩:=own3 Y;have H:=E;clear z0 z1 z2 q0 q1 q2 C Y vg rc D rf O P s R E;go_wp2_with fail;refine aP (v:= M0 y n B a.length c) (by simp[aR,results70,go_sem,I,M,G]) rfl ⟨.mk y n a,_,rfl,⟨by simp only[cnt];omega,.kind HY.out⟩, ?_, ?_, ?_⟩
   · exact((((Y1.mk y n uz S6 J).set (by simp) _).set (by simp) _).set (by simp) _).since (by omega)
   · exact((qx.set (by show g < w.heap.size+1;omega) _).set (by show g < w.heap.size+1;omega) _).set (by show g < w.heap.size+1;omega) _
   · exact((Cf.setNew (by simp) _).setNew (by simp) _).setNew (by simp) _
 by_cases V:x=1
 · subst V
   have C:=(xr j).alloc (.cells #[m0 21,m0 (-1),m0 1,m0 9223372036854775807] 3);obtain⟨z0,z1,z2,q0,q1,q2⟩:=own3 s;go_wp2_with fail;refine(dm _ g _ (O.ext C) (by omega) _ 4 [21,-1,1,9223372036854775807] (by simp) (by decide) (by simp) (UA rfl) (by intro b o f;simp at f;have:=R.size;omega)).mono ?_;rintro e K ⟨y,rfl,hy,rf,D⟩;have HY:=hdq hy;clear hy;have rc:=(R.trans (oE (L:= [g]) C)).trans D;have Y:=D.keepBlk (C.blk P) (by simp;omega);have vg:=D.keepBlk (C.blk s) (by simp;omega);have Aq:j.heap.size<=K.heap.size:=by have:=C.size;have:=D.size;omega
   have uz:=HK.out (K.setCell ⟨d,1,none⟩ (m0 y)) (by simpa using Aq) (fun b V N h3=>(aM _ _ _ _ (by show b≠d;exact N)).trans ((D.block b (by have:=C.size;omega) (by simp;omega)).trans (C.heap b h3)));have Fo:=Bd Y (p:=⟨d,1,none⟩) (by show w.heap.size+1≠d;omega) (m0 y);have Ey:=N5 vg 1 (m0 y);have qx:Rd (K.setCell ⟨d,1,none⟩ (m0 y)) g (m+2):=rf.set (by show g < d;omega) _;have Cf:=rc.setNew (p:=⟨d,1,none⟩) (by show w.heap.size<=d;omega) (m0 y);obtain⟨y0,y1,y2,p0,p1,p2⟩:=own3 vg;obtain⟨I,M,G,f0,f1,f2⟩:=own3 Y;have H:=E;clear z0 z1 z2 q0 q1 q2 C Y vg rc D rf O P s R E;go_wp2_with fail;refine aP (v:= M0 k y B a.length c) (by simp[aR,results70,go_sem,I,M,G]) rfl ⟨.mk k y a,_,rfl,⟨by simp only[cnt];omega,.num HY.out⟩, ?_, ?_, ?_⟩
   · exact((((Y1.mk k y uz S6 J).set (by simp) _).set (by simp) _).set (by simp) _).since (by omega)
   · exact((qx.set (by show g < w.heap.size+1;omega) _).set (by show g < w.heap.size+1;omega) _).set (by show g < w.heap.size+1;omega) _
   · exact((Cf.setNew (by simp) _).setNew (by simp) _).setNew (by simp) _
 by_cases N:x=2
 · subst N
   obtain⟨i0,hi,hz0,hz1,hz2⟩:=info_parts WF;have hv4:=U1 s 2;have Lz:=hdq s;have Jw:=hdq P;have Ll:d < j.heap.size:=O1 s;have Kd:a.length < 1099511627776:=by omega
   have hWw:w.heap.size+1 < W.heap.size:=by omega
   clear s P h0 V;go_wp2_with fail
   go_region_law (first
    |(go_simp;go_at_call 62;refine(q15 _ 7 0).mono ?_;rintro e F ⟨rfl,e5⟩;have z:Ext j F:=((xr j).drew).trans e5;have qy:=z.blk Lz.out;have kr:=U1 qy 2;have La:d < F.heap.size:=O1 qy)
    |(refine vK _ (by rfl) (.tmp 25) (.tmp 27) _ (by rfl) 25 i0 _ underlying23 hi hz0 hz1 hz2 rfl (by rfl) (X:=fun b=> b < W.heap.size\/b=d) (W:=W) (tr:= .mk 7 0 []) (HG.out.ext (z.trans ((xr F).alloc _))) (by have:=z.size;simp;omega) (InT.mk_iff.2 ⟨none,0,rfl,aN _,bV _,.inl rfl⟩) (by rfl) (heap_alloc_new _ _) Kd ?_;intro v' K sj ln D6 D;obtain⟨B6,c6,rfl,r1,r2,hK6⟩:=sj.liesX (fun b f=> by rcases D b f with h|h;exact oy.out b h;(have:=z.size;simp at h;omega));have Eb:=(D6.block d (by simp;omega) (fun he=> by have:=HOW.out d he.symm;omega)).trans (((xr F).alloc (H0 7 0 none 0 0)).blk qy);have hv6:=U1 Eb 2;have hf6:=ib Eb 2))
   all_goals(
    have Y:=(ln.block (w.heap.size+1) (by omega)).trans (((xr F).alloc (H0 7 0 none 0 0)).blk (z.blk Jw.out));have rc:D1 [g] w K:=((R.trans (oE (L:= [g]) z)).trans (oE (L:= [g]) ((xr F).alloc (H0 7 0 none 0 0)))).below ln (by omega);have rf:Rd K g (m+1):=((O.ext z).ext ((xr F).alloc (H0 7 0 none 0 0))).under ln (by omega);rw[List.length_append,List.length_singleton] at r1;have HK6:=hdq hK6;have E9:(a++ [Tr.mk 7 0 []]).length=a.length+1:=by simp
    have ou:=hdq E9;obtain⟨y0,y1,y2,p0,p1,p2⟩:=own3 Eb;obtain⟨I,M,G,f0,f1,f2⟩:=own3 Y;have H:=E;clear E9 hK6 ln D6 D Y Eb sj qy kr hv4 E;go_wp2_with fail;refine aP (v:= M0 k n B6 (a.length+1) c6) (by simp[aR,results70,go_sem,I,M,G]) rfl ⟨.mk k n (a++ [.mk 7 0 []]),_,rfl,⟨by simp only[cnt,jA,W1];omega,.more⟩, ?_, ?_, ?_⟩
    · have Fi:xb (w.heap.size+2) (K.setCell ⟨d,2,none⟩ (.slice B6 (a.length+1) c6)) B6 (a++ [.mk 7 0 []]):=HK6.out.mono (fun b f=>⟨by omega,by simpa using f.1⟩) (fun b f=> aM _ _ _ _ (by show b≠d;omega))
      have zh:=Y1.mk k n Fi (by rw[ou.out];exact r1) r2;rw[ou.out] at zh;exact(((zh.set (by simp) _).set (by simp) _).set (by simp) _).since (by omega)
    · exact(((((rf.mono (by omega)).set (by show g < d;omega) _).set (by show g < w.heap.size+1;omega) _).set (by show g < w.heap.size+1;omega) _).set (by show g < w.heap.size+1;omega) _)
    · exact((((rc.setNew (by show w.heap.size<=d;omega) _).setNew (by simp) _).setNew (by simp) _).setNew (by simp) _))
 by_cases h3:x=3
 · subst h3
   have hFr:Y1 (w.heap.size+2) j (.mk k n a) (M0 k n B a.length c):=Y1.mk k n (HK.out j (aN _) (fun _ _ _ _=> rfl)) S6 J;obtain⟨y0,y1,y2,p0,p1,p2⟩:=own3 s;clear h0 V N;go_wp2_with fail;refine(Sw (w.heap.size+2) _ 8 _ 1 [.mk k n a] (by intro h;cases h) (xb.one (g:=j.heap.size) (e:=25) hFr (by omega) rfl) (by simp;omega) (by simp)).mono ?_;rintro e K ⟨u,rfl,hN,e6⟩;obtain⟨k6,n6,A6,l6,c6,rfl⟩:=hN.three;have Dm:=((xr j).alloc (H0 k n B a.length c)).trans e6;have rc:=R.trans (oE (L:= [g]) Dm);have rf:Rd K g (m+2):=(O.ext Dm).mono (by omega);obtain⟨I,M,G,f0,f1,f2⟩:=own3 (Dm.blk P);have H:=E;clear y0 y1 y2 p0 p1 p2 E P s hFr O;go_wp2_with fail;refine aP (v:= M0 k6 n6 A6 l6 c6) (by simp[aR,results70,go_sem,I,M,G]) rfl ⟨.mk 8 0 [.mk k n a],_,rfl,⟨by simp only[cnt,W1];omega,.succ⟩, ?_, ?_, ?_⟩
   · exact(((hN.set (by simp) _).set (by simp) _).set (by simp) _).since (by omega)
   · exact((rf.set (by show g < w.heap.size+1;omega) _).set (by show g < w.heap.size+1;omega) _).set (by show g < w.heap.size+1;omega) _
   · exact((rc.setNew (by simp) _).setNew (by simp) _).setNew (by simp) _
 by_cases h4:x=4
 · subst h4
   cases j6:a with
   |nil=>
    subst j6;have uz:=HK.out j (aN _) (fun _ _ _ _=> rfl);have qx:Rd j g (m+2):=O.mono (by omega);clear O h0 V N h3;obtain⟨I,M,G,f0,f1,f2⟩:=own3 P;obtain⟨x0,x1,x2,-,-,-⟩:=own3 s;have H:=E;clear E;go_wp2_with fail;refine aP (v:= M0 k n B 0 c) (by simp[aR,results70,go_sem,I,M,G]) rfl ⟨.mk k n [],_,rfl,⟨by simp only[cnt];omega,.same⟩, ?_, ?_, ?_⟩
    · exact((((Y1.mk k n uz S6 J).set (by simp) _).set (by simp) _).set (by simp) _).since (by omega)
    · exact((qx.set (by show g < w.heap.size+1;omega) _).set (by show g < w.heap.size+1;omega) _).set (by show g < w.heap.size+1;omega) _
    · exact((R.setNew (by simp) _).setNew (by simp) _).setNew (by simp) _
   |cons t0 ts=>
    have bi:0 < a.length:=by rw[j6];simp
    rw[<-j6];obtain⟨xs,q1,q2⟩:=HG.out;rcases q1.2 with⟨hv,hz⟩ |⟨r,cap',cur,hv,hbr,hr4,S9,hcm,hcs,I0⟩
    · omega
    cases hv
    have hr5:W.heap.size<=r/\r < d:=HOW.out r rfl;have U:=I1.tail (cur.toList.drop (a.length*3)) (q2.mono (S':=fun b=> b < j.heap.size/\r≠b/\ ¬(b < W.heap.size\/b=d)) (fun b f=>⟨f.1,fun h=> f.2.1 (by rw[h];rfl),f.2.2⟩) (fun _ _=> rfl));rw[<-I0,iQ] at U;have Kq:=hdq U;have hc3:0+3<=cur.size:=by rw[hcs];omega
    have Lz:=hdq s;have Jw:=hdq P;have HR:=hdq hr4;obtain⟨y0,y1,y2,p0,p1,p2⟩:=own3 s;obtain⟨v0,v1,v2,z0,z1,z2,fz0,fz1,fz2⟩:=Ni (i:=0) hr4 hc3;have Ll:d < j.heap.size:=O1 s;have V8:(0:Int) <(a.length:Int):=by omega
    have J2:=hdq j6;have l8:W1 (a.set 0 (.mk 1 25 []))<=W1 a:=by
     rw[j6];have:=Br t0;simp[W1,cnt]
     omega
    clear s P h0 V N h3 U I0 q1 q2 hr4 j6 hcs hc3;go_wp2_with fail
    go_region_law (go_simp;go_at_call 62;refine(q15 _ 1 25).mono ?_;rintro e F ⟨rfl,e5⟩;have z:Ext j F:=((xr j).drew).trans e5;have qy:=z.blk Lz.out;have kr:=U1 qy 2;have La:d < F.heap.size:=O1 qy;have ey:=z.blk HR.out;have k0:=z.cell z0;have k1:=z.cell z1;have k2:=z.cell z2;have fk0:=ib ey 0;have fk1:=ib ey 1;have fk2:=ib ey 2)
    all_goals(
     obtain⟨Q,B7⟩: ∃Q,Q=((F.setCell ⟨r,0,none⟩ (m0 1)).setCell ⟨r,1,none⟩ (m0 25)).setCell ⟨r,2,none⟩ (.slice none 0 0):=⟨_,rfl⟩;have b7r:Q.heap[r]? =some (.cells (((cur.setIfInBounds 0 (m0 1)).setIfInBounds 1 (m0 25)).setIfInBounds 2 (.slice none 0 0)) 25 (0,0)):=by
      rw[B7];exact N5 (N5 (N5 ey 0 _) 1 _) 2 _
     have hne: ∀b,b≠r->Q.heap[b]? =F.heap[b]? :=fun b f=> by
      rw[B7,aM _ _ _ _ f,aM _ _ _ _ f,aM _ _ _ _ f]
     have Il:Q.heap.size=F.heap.size:=by rw[B7];simp
     have hs45:=z.size;have qx:Rd Q g (m+2):=by
      rw[B7];exact((((O.ext z).mono (show m+1<=m+2 by omega)).set (p:=⟨r,0,none⟩) (by show g < r;omega) _).set (p:=⟨r,1,none⟩) (by show g < r;omega) _).set (p:=⟨r,2,none⟩) (by show g < r;omega) _
     have Cf:D1 [g] w Q:=by
      rw[B7];exact((((R.trans (oE (L:= [g]) z)).setNew (p:=⟨r,0,none⟩) (by show w.heap.size<=r;omega) _).setNew (p:=⟨r,1,none⟩) (by show w.heap.size<=r;omega) _).setNew (p:=⟨r,2,none⟩) (by show w.heap.size<=r;omega) _)
     have Ey:=(hne d (by omega)).trans qy;have Fo:=(hne (w.heap.size+1) (by omega)).trans (z.blk Jw.out);have tz:=I1.set (S:=fun b=> b < Q.heap.size/\w.heap.size+2<=b) (t:= .mk 1 25 []) (v0:= m0 1) (v1:= m0 25) (v2:= .slice none 0 0) (InT.mk_iff.2 ⟨none,0,rfl,aN _,bV _,.inl rfl⟩) 0 (Kq.out.mono (w':=Q) (S':=fun b=> b < Q.heap.size/\w.heap.size+2<=b) (fun b f=>⟨by omega,by omega⟩) (fun b f=>(hne b (fun h=> f.2.1 h.symm)).trans (z.heap b f.1)));have Fi:xb (w.heap.size+2) Q (some ⟨r,0,none⟩) (a.set 0 (.mk 1 25 [])):=by
      refine .inr ⟨r,0,rfl,⟨by omega,by rw[Il];exact O1 ey⟩, ?_⟩;have h9:=I1.inL b7r (pre:= []) (xs:=((cur.toList.set (0*3) (m0 1)).set (0*3+1) (m0 25)).set (0*3+2) (.slice none 0 0)) tz (by simp[Array.toList_setIfInBounds]);exact h9.mono (fun b f=>⟨f.2,f.1⟩) (fun _ _=> rfl) ⟨by rw[Il];exact O1 ey,by omega⟩
     have zh:=Y1.mk k n Fi (by rw[gQ];exact S6) J;rw[gQ] at zh;have HF8:=hdq zh;have Cm:cnt (.mk k n (a.set 0 (.mk 1 25 [])))<=cnt (.mk k n a)+1:=by simp only[cnt];omega
     have ii:=hdq Cm;obtain⟨I,M,G,f0,f1,f2⟩:=own3 Fo;obtain⟨x0,x1,x2,-,-,-⟩:=own3 Ey;have H:=E;clear zh Fi tz Ey Fo hne b7r Cm ey k0 k1 k2 fk0 fk1 fk2 qy kr E y0 y1 y2 z0 z1 z2 fz0 fz1 fz2 p0 p1 p2
     try rw[<-B7]
     clear B7;go_wp2_with fail;refine aP (v:= M0 k n (some ⟨r,0,none⟩) a.length c) (by simp[aR,results70,go_sem,I,M,G]) rfl ⟨.mk k n (a.set 0 (.mk 1 25 [])),_,rfl,⟨ii.out,.var (by rw[J2.out];simp)⟩, ?_, ?_, ?_⟩
     · exact(((HF8.out.set (by simp) _).set (by simp) _).set (by simp) _).since (by omega)
     · exact((qx.set (by show g < w.heap.size+1;omega) _).set (by show g < w.heap.size+1;omega) _).set (by show g < w.heap.size+1;omega) _
     · exact((Cf.setNew (by simp) _).setNew (by simp) _).setNew (by simp) _)
 have t0:(x==0)=false:=beq_eq_false_iff_ne.2 h0;have t1:(x==1)=false:=beq_eq_false_iff_ne.2 V;have t2:(x==2)=false:=beq_eq_false_iff_ne.2 N;have t3:(x==3)=false:=beq_eq_false_iff_ne.2 h3;have t4:(x==4)=false:=beq_eq_false_iff_ne.2 h4;have uz:=HK.out j (aN _) (fun _ _ _ _=> rfl);have qx:Rd j g (m+2):=O.mono (by omega);clear O h0 V N h3 h4;obtain⟨I,M,G,f0,f1,f2⟩:=own3 P;obtain⟨x0,x1,x2,-,-,-⟩:=own3 s;have H:=E;clear E;go_wp2_with fail;refine aP (v:= M0 k n B a.length c) (by simp[aR,results70,go_sem,I,M,G]) rfl ⟨.mk k n a,_,rfl,⟨by simp only[cnt];omega,.same⟩, ?_, ?_, ?_⟩
 · exact((((Y1.mk k n uz S6 J).set (by simp) _).set (by simp) _).set (by simp) _).since (by omega)
 · exact((qx.set (by show g < w.heap.size+1;omega) _).set (by show g < w.heap.size+1;omega) _).set (by show g < w.heap.size+1;omega) _
 · exact((R.setNew (by simp) _).setNew (by simp) _).setNew (by simp) _
end Go.Proofs.YtckhbnmfnpolgaaGreat
namespace Go.Proofs.YtckhbnmfnpolgaaGreat
open Go.RowKit
mutual
def p4:Tr->List Int×Bool
 | .mk k n a=> if rdx k a≠0 then([],true)
  else if k=5\/k=15\/k=16 then(0::(b7 a 0).1,(b7 a 0).2)
  else if k=9 then(3::(b7 a 3).1,(b7 a 3).2)
  else if k=12 then(1::(b7 a 1).1,(b7 a 1).2) else([],false)
def b7:List Tr->Nat->List Int×Bool
 | [],_=>([],false)
 |t::ts,0=> p4 t
 |t::ts,i+1=> b7 ts i
end
def hdQ(t:Tr):Option (List Int):=if(p4 t).2=true then some (p4 t).1 else none
theorem Rz{t:Tr}{p:List Int}(h:hdQ t=some p):p4 t=(p,true):=by
 unfold hdQ at h
 split at h
 · rename_i a
   simp only[Option.some.injEq] at h;rw[<-h,<-a]
 · cases h
theorem Tt{t:Tr}(h:hdQ t=none):(p4 t).2=false:=by
 unfold hdQ at h
 split at h
 · cases h
 · rename_i a
   simpa using a
theorem ak: ∀{a:List Tr} {i:Nat},i < a.length->b7 a i=p4 (kd a i)
 |t::ts,0,_=> by rw[b7];rfl
 |t::ts,i+1,h=> by rw[b7,VC];exact ak (by simpa using h)
theorem AC: ∀{a:List Tr} {i:Nat},a.length<=i->(b7 a i).2=false
 | [],_,_=> by rw[b7]
 |t::ts,0,h=> by simp at h
 |t::ts,i+1,h=> by rw[b7];exact AC (by simpa using h)
theorem JA: ∀(t:Tr) (d:Int),P0 D0 t d=true->((p4 t).1.length:Int)<=d:=Tr.ind fun k n a hk=> by
 intro d h;have hd:=FA h;have key: ∀i,((b7 a i).1.length:Int)<=d - 1:=fun i=> by
  by_cases hi:i < a.length
  · rw[ak hi]
    exact hk _ (Xi hi) (d - 1) ((zw h).2.2.2 _ (Xi hi))
  · have: ∀{a:List Tr} {i:Nat},a.length<=i->(b7 a i).1= []:=by
     intro a
     induction a with
     |nil=> intro i _;rw[b7]
     |cons t ts ih=>
      intro i h;cases i with
      |zero=> simp at h
      |succ i=> rw[b7];exact ih (by simpa using h)
    rw[this (by omega)];simp
    omega
 rw[p4]
 split
 · simp;omega
 · split
   · have:=key 0;simp only[cN];omega
   · split
     · have:=key 3;simp only[cN];omega
     · split
       · have:=key 1;simp only[cN];omega
       · simp;omega
theorem wJ{k n:Int}{a:List Tr}{i:Nat}{p:List Int}(hi:i < a.length)(h:bb (kd a i) p=true):bb (.mk k n a) ((i:Int)::p)=true:=by
 unfold bb at*;rw[show aa (.mk k n a) ((i:Int)::p)=aa (kd a i) p by simp[aa,hi]];exact h
theorem Xs(t:Tr):conA t []=ctrT t:=by
 cases t
 simp[conA,aa,m8]
theorem Yv{k n:Int}{ks:List Tr}{i:Nat}{p:List Int}(hi:i < ks.length)(h:bb (kd ks i) p=true):conA (.mk k n ks) ((i:Int)::p)= .mk k n (ks.set i (conA (kd ks i) p)):=by
 obtain⟨u,a,b⟩:=nu h;unfold conA;rw[show aa (.mk k n ks) ((i:Int)::p)=aa (kd ks i) p by simp[aa,hi],a];simp[m8]
theorem Mf: ∀(t:Tr) (p:List Int),p4 t=(p,true)->bb t p=true:=Tr.ind fun k n a hk=> by
 intro p h;have key: ∀i,(b7 a i).2=true->bb (.mk k n a) ((i:Int)::(b7 a i).1)=true:=fun i hi=> by
  by_cases hl:i < a.length
  · rw[ak hl] at hi⊢
    exact wJ hl (hk _ (Xi hl) _ (by rw[<-hi]))
  · rw[AC (by omega)] at hi
    cases hi
 rw[p4] at h
 split at h
 · rename_i b
   simp only[cO,and_true] at h;subst h;unfold bb;rw[show aa (.mk k n a) []=some (.mk k n a) by simp[aa]];exact Xv.2 b
 · split at h
   · simp only[cO] at h
     rw[<-h.1];exact key 0 h.2
   · split at h
     · simp only[cO] at h
       rw[<-h.1];exact key 3 h.2
     · split at h
       · simp only[cO] at h
         rw[<-h.1];exact key 1 h.2
       · simp at h
theorem Mj(t:Tr)(p:List Int)(h:hdQ t=some p):bb t p=true:=Mf t p (Rz h)
def b9:Nat->Tr->Tr×Int
 |0,t=> match hdQ t with
  |none=>(t,0)
  |some _=>(j2,1)
 |f+1,t=> match hdQ t with
  |none=>(t,0)
  |some p=> if j0 D0 (conA t p)=true then b9 f (conA t p) else(j2,2)
def W6(t:Tr)(f:Int):Tr×Int:=if(j0 D0 t && db f 0 200)=true then b9 f.toNat t else(j2,3)
theorem zy{x:Tr}(h:hdQ x=none)(f:Nat):b9 f x=(x,0):=by
 cases f <;>(unfold b9;rw[h])
theorem xE{x:Tr}{p:List Int}(h:hdQ x=some p):b9 0 x=(j2,1):=by
 unfold b9;rw[h]
theorem mp{x:Tr}{p:List Int}(h:hdQ x=some p)(hv:j0 D0 (conA x p)=false)(f:Nat):b9 (f+1) x=(j2,2):=by
 rw[b9,h];simp only;rw[if_neg (by rw[hv];decide)]
theorem Ym{x:Tr}{p:List Int}(h:hdQ x=some p)(hv:j0 D0 (conA x p)=true)(f:Nat):b9 (f+1) x=b9 f (conA x p):=by
 rw[b9,h];simp only;rw[if_pos hv]
theorem PD: ∀(f:Nat) (t x:Tr),j0 D0 t=true->b9 f t=(x,0)->X6 t x/\hdQ x=none/\j0 D0 x=true
 |0,t,x,hv,h=> by
  cases e:hdQ t with
  |none=>
   rw[zy e] at h;cases h
   exact⟨.refl _,e,hv⟩
  |some p=> rw[xE e] at h;cases h
 |f+1,t,x,hv,h=> by
  cases e:hdQ t with
  |none=>
   rw[zy e] at h;cases h
   exact⟨.refl _,e,hv⟩
  |some p=>
   by_cases hc:j0 D0 (conA t p)=true
   · rw[Ym e hc] at h
     obtain⟨b,a⟩:=PD f _ x hc h;exact⟨(X6.one (WA (Mj t p e))).trans b,a⟩
   · rw[mp e (Bool.eq_false_iff.2 hc)] at h
     cases h
theorem Hx{t x:Tr}{f:Int}(h:W6 t f=(x,0)):j0 D0 t=true/\X6 t x/\hdQ x=none/\j0 D0 x=true:=by
 unfold W6 at h
 split at h
 · rename_i hv
   rw[Bool.and_eq_true] at hv;exact⟨hv.1,PD _ _ _ hv.1 h⟩
 · cases h
