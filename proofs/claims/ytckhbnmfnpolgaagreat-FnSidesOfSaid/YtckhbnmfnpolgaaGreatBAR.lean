/-
  Lemmas towards the law, 18: Clone, Mutate, HeadP.
-/
import Derived.Test.YtckhbnmfnpolgaaGreatBAQ
open Go renaming World->aK,TypeId->aY,Value->aS,bodyPost_ret->aO,results->aQ
open List renaming map_toArray->fX,take_append_drop->gW,length_set->fZ,length_cons->bY
open Nat renaming le_refl->aM,zero_le->bT,lt_of_lt_of_le->aX
open Go.RowKit.Below renaming heap_setCell->aL
open Prod.mk renaming injEq->cK
open Go.Proofs.Tryz
set_option linter.unusedVariables false
set_option maxHeartbeats 4000000
set_option maxRecDepth 100000
namespace Go.Proofs.YtckhbnmfnpolgaaGreat
open Go.RowKit
attribute [local go_sem ↓] Go.wp_at_zero Go.wp_at_succ
theorem Wx:(prog.info? 25).map (fun i=>(i.zero,i.size,i.bytes))=some (some (.agg #[.int .i64 0,.int .i64 0,.slice none 0 0]),3,40):=by kernel_rfl
theorem xJ{P:Program}(w:aK){ops:Array Oper}{rest:List Oper}{o:Oper}{a:Act}{Q:Exit->Act->aK->Prop}(p:o.guard=none)(s x:Operand)(t:aY)
 (E:o.op= .call {callee:= .builtin .append,args:=#[s,x],argTypes:=#[t,t]})
 (base:Nat) (e:aY) (i:TypeInfo) (z:aS) (ht:P.underlying t=some (.slice e)) (hi:P.info? e=some i) (C:i.zero=some z) (c:i.size=3) (r:i.bytes=40) (q:z.cells.size=3)
 {v:aS} {A:Addr} {m cap:Nat} {f:List aS} (hs:a.eval s=v) (k:w.ownsRow base e 3 v 0 []) (b:base<=w.heap.size) (hx:a.eval x= .slice (some A) m cap)
 (hl:f.length=m*3) (d: ∀j u,f[j]? =some u->w.cell? (A.add j)=some u) (D: ∀u∈f,u.oneCell'=true) (hm:m<=1048576)
 (h: ∀l n,n.ownsRow base e 3 l m f->w.grownBy n v.ownBlock->(∀g,l.ownBlock=some g->v.ownBlock=some g\/w.heap.size<=g)->wpList P ops Q rest (a.put o.dst l) n):wpList P ops Q (o::rest) a w:=by
 refine wpList_plain p fun K y=> ?_
 obtain⟨l,n,hr,B,F,G⟩:=Mn (P:=P) w base t o.type e i z 3 40 ht hi C c r q (by decide) v 0 [] k A m cap f hl d D (by unfold maxLen;omega) (by omega) b;rw[Nat.zero_add,List.nil_append] at B;unfold Oper.wp execOp;simp only[E,resolve,invoke,builtin,Sem.run_bind,Sem.run_pure,Result.andThen_ok,fX,List.map_cons,List.map_nil,hs,hx,hr];exact y _ _ (h l n B F G)
def vE(w:aK)(N:Nat->Prop)(d:List Tr)(e:Ending)(a:aK):Prop:= ∃v c,e= .returned v/\a.ownsRow w.heap.size 25 3 v d.length c/\W0 a (fun b=> N b/\b < w.heap.size) c d/\Ext w a
theorem fz(a:List Tr)(w:aK)(N:Nat->Prop)(A:Option Addr)(cap:Nat)(hK:InK w N A a)(hn:a.length<=1048576):Calls prog 179 #[.slice A a.length cap] w (vE w N a):=by
 obtain⟨B,hi,p,l,m⟩:=info_parts Wx;have d: ∀W,(binOp .eql 23 (.slice A a.length cap) (.slice none 0 0)).run prog W= .ok (.bool A.isNone) W:=fun W=> Lib.run_eql_slice_nil W 23 _ A a.length cap 0 0 underlying23
 cases A with
 |none=>
  have r:a= []:=by
   rcases hK with h|⟨b,o,h,-⟩
   · exact h
   · cases h
  subst r;simp only[List.length_nil,Option.isNone_none] at d⊢;go_enter func179,ntmps179;go_wp2_with fail;go_ret;exact⟨_, [],rfl,World.ownsRow_nil _ _ _ _,W0.nil,xr _⟩
 |some D=>
  have hx:=(xr w).alloc (.cells #[] 25);have hG:(w.alloc (.cells #[] 25)).ownsRow w.heap.size 25 3 (.slice (some ⟨w.heap.size,0,none⟩) 0 0) 0 []:=World.ownsRow_lit w #[] 0 (aM _) (bT _) rfl;obtain⟨c,i,e,n,f⟩: ∃c:List aS,c.length=a.length*3/\(∀j u,c[j]? =some u->(w.alloc (.cells #[] 25)).cell? (D.add j)=some u)/\(∀u∈c,u.oneCell'=true)/\W0 w (fun b=> N b/\b < w.heap.size) c a:=by
   rcases hK.bound with rfl|⟨b,o,h,g,C⟩
   · exact⟨[],rfl,fun j u h=> by simp at h,fun u h=> by simp at h,W0.nil⟩
   · obtain⟨c,i,e,n,f⟩:=C.rowL
     simp only[Option.some.injEq] at h;subst h;exact⟨c,i,fun j u t=> by rw[Addr.add_lit];exact hx.cell (e j u t),n,f⟩
  have x:=hdq e;have z:=hdq f;simp only[Option.isNone_some] at d;clear hK e f;go_enter func179,ntmps179;go_wp2_with (at_builtin;go_loud (refine xJ _ rfl (.tmp 5) (.tmp 6) 23 rfl w.heap.size 25 B _ underlying23 hi p l m rfl (v:= .slice (some ⟨w.heap.size,0,none⟩) 0 0) rfl hG (by simp) rfl i x.out n hn ?_))
  intro y E s F G;have q:Ext w E:=hx.grown F (by intro k hk;simp[Value.ownBlock] at hk;omega);go_wp2_with fail;go_ret;exact⟨y,c,rfl,s,z.out.mono (fun b g=> g) (fun b g=> q.heap b g.2),q⟩
theorem CJ{P:Program}(w:aK){ops:Array Oper}{o:Oper}{a:Act}{K:Act->aK->Prop}{Q:Exit->Act->aK->Prop}{E:Prop}(q:o.guard=none)(s x:Operand)(t:aY)
 (H:o.op= .call {callee:= .builtin .append,args:=#[s,x],argTypes:=#[t,t]})
 (e:aY) (i:TypeInfo) (z:aS) (ht:P.underlying t=some (.slice e)) (hi:P.info? e=some i) (D:i.zero=some z) (j:i.size=3) (u:i.bytes=40) (r:z.cells.size=3)
 {X:Nat->Prop} {W:aK} {v:aS} {m:List Tr} {tr:Tr} {v0 v1 v2:aS} {y:Nat} (hs:a.eval s=v) (hG:i9 X W w e v m) (I:W.heap.size<=w.heap.size)
 (hT:InT w (fun b=> b < w.heap.size/\v.ownBlock≠some b/\ ¬X b) tr (.agg #[v0,v1,v2]))
 (hx:a.eval x= .slice (some ⟨y,0,none⟩) 1 1) (A:w.heap[y]? =some (.cells #[v0,v1,v2] e (0,0))) (hn:m.length < 1099511627776)
 (h: ∀f c,i9 X W c e f (m++ [tr])->Below W.heap.size w c->w.grownBy c v.ownBlock->(∀g,f.ownBlock=some g->v.ownBlock=some g\/w.heap.size<=g)->K (a.put o.dst f) c):
 if Region.wanted o (yielded ops a.tmps)=true then Oper.wp P o a w K Q else E:=by
 have N:Region.wanted o (yielded ops a.tmps)=true:=by simp[Region.wanted,q]
 rw[if_pos N];obtain⟨F,p,M⟩:=hG;obtain⟨f,c,hr,G,d,C⟩:=Mn (P:=P) w W.heap.size t o.type e i z 3 40 ht hi D j u r (by decide) v m.length F p ⟨y,0,none⟩ 1 1 [v0,v1,v2] rfl (wD A) (aD hT) (by unfold maxLen;omega) (by omega) I;have L:Below W.heap.size w c:=⟨d.os,d.tape,d.output,d.size,fun b k=> d.block b (by omega) (fun l=> by have:=(p.lt b l.symm).1;omega)⟩;have hS: ∀b,b < w.heap.size/\v.ownBlock≠some b/\ ¬X b->b < c.heap.size/\f.ownBlock≠some b/\ ¬X b:=fun b k=> by
  refine⟨aX k.1 d.size,fun l=> ?_,k.2.2⟩;rcases C b l with B|B
  · exact k.2.1 B
  · omega
 have n: ∀b,b < w.heap.size/\v.ownBlock≠some b/\ ¬X b->c.heap[b]? =w.heap[b]? :=fun b k=> d.block b k.1 (fun l=> k.2.1 l.symm)
 have J:i9 X W c e f (m++ [tr]):=⟨_,by simpa using G,W0.snoc (hT.mono hS n) [] p.1 (M.mono hS n)⟩;unfold Oper.wp execOp;simp only[H,resolve,invoke,builtin,Sem.run_bind,Sem.run_pure,Result.andThen_ok,fX,List.map_cons,List.map_nil,hs,hx,hr];exact h f c J L d C
theorem i9.keep{X:Nat->Prop}{W w c:aK}{e:aY}{v:aS}{f:List Tr}(h:i9 X W w e v f)(hs:w.heap.size<=c.heap.size)(hk: ∀b,b < w.heap.size-> ¬X b->c.heap[b]? =w.heap[b]?)(i: ∀b,v.ownBlock=some b-> ¬X b):i9 X W c e v f:=by
 obtain⟨g,d,j⟩:=h;exact⟨g,Yv d (fun b a=> hk b (d.lt b a).2 (i b a)),j.mono (fun b a=>⟨aX a.1 hs,a.2.1,a.2.2⟩) (fun b a=> hk b a.1 a.2.2)⟩
theorem i9.liesX{X:Nat->Prop}{W w:aK}{e:aY}{v:aS}{a:List Tr}(h:i9 X W w e v a)(o: ∀b,v.ownBlock=some b-> ¬X b): ∃A cap,v= .slice A a.length cap/\a.length<=cap/\cap<=maxLen/\InK w (fun b=> b < w.heap.size/\ ¬X b) A a:=by
 obtain⟨q,l,p⟩:=h;rcases l.2 with⟨rfl,k⟩ |⟨g,cap,c,rfl,f,i,m,d,n,ht⟩
 · have:a= []:=List.eq_nil_of_length_eq_zero k
   subst this;exact⟨none,0,rfl,aM _,bT _,.inl rfl⟩
 · refine⟨_,cap,rfl,m,d,.inr ⟨g,0,rfl,⟨O1 i,o g rfl⟩, ?_⟩⟩
   have j:=W0.tail (c.toList.drop (a.length*3)) (p.mono (S':=fun b=> b < w.heap.size/\ ¬X b) (fun b f=>⟨f.1,f.2.2⟩) (fun _ _=> rfl));rw[<-ht,gW] at j;exact W0.inL i (pre:= []) j (by simp)
theorem i9.widen{X c:Nat->Prop}{W w:aK}{e:aY}{v:aS}{d:List Tr}(h:i9 X W w e v d)(i: ∀b,b < w.heap.size-> ¬X b-> ¬c b):i9 c W w e v d:=by
 obtain⟨f,g,j⟩:=h;exact⟨f,g,j.mono (fun b a=>⟨a.1,a.2.1,i b a.1 a.2.2⟩) (fun _ _=> rfl)⟩
inductive MR:Tr->Tr->Prop where
 |kind {k n y:Int} {ks:List Tr}:y∈ [(0:Int),17,1,5,6]->MR (.mk k n ks) (.mk y n ks)
 |num {k n y:Int} {ks:List Tr}:y∈ [(21:Int),-1,1,9223372036854775807]->MR (.mk k n ks) (.mk k y ks)
 |more {k n:Int} {ks:List Tr}:MR (.mk k n ks) (.mk k n (ks++ [.mk 7 0 []]))
 |succ {t:Tr}:MR t (.mk 8 0 [t])
 |var {k n:Int} {ks:List Tr}:ks≠ []->MR (.mk k n ks) (.mk k n (ks.set 0 (.mk 1 25 [])))
 |same {t:Tr}:MR t t
theorem tH:(prog.info? 25).map (fun i=>(i.zero,i.size,i.bytes))=some (some (.agg #[.int .i64 0,.int .i64 0,.slice none 0 0]),3,40):=by kernel_rfl
theorem eE(t:Tr)(w:aK)(g m:Nat)(v:aS)(b8:Lies w t v)(C7:cnt t<=900000)(hR:Rd w g m)(hm:m < 900000):Calls prog 70 #[.pointer (some ⟨g,0,none⟩),v] w fun e w'=> ∃t' u,e= .returned u/\(cnt t'<=cnt t+1/\MR t t')/\j2 w.heap.size w' t' u/\Rd w' g (m+2)/\X0 [g] w w':=by
 have E:=hR.lt;obtain⟨k,n,a⟩:=t;have HC:=hdq (fun W (hW:Ext w W)=> GH k n a W v (b8.ext hW) (by omega));obtain⟨A,cap,rfl,hl,hc,hK⟩:=Lies.mk_iff.1 b8;have hlc:=kf a;simp only[cnt] at C7;have hx0:=((xr w).alloc (.cells #[.int .i64 k,.int .i64 n,.slice A a.length cap] 25)).alloc (.cells #[.int .i64 0,.int .i64 0,.slice none 0 0] 25);obtain⟨b30,Fy,hs0⟩:=W3 (xr ((w.alloc (.cells #[.int .i64 k,.int .i64 n,.slice A a.length cap] 25)).alloc (.cells #[.int .i64 0,.int .i64 0,.slice none 0 0] 25)));clear b8 hK hl hc b30;go_enter func70,ntmps70;go_wp2_with fail;generalize (w.alloc _).alloc _=w0 at hx0 Fy hs0;refine(HC.out _ hx0).mono ?_;rintro e w1 ⟨B,c,rfl,⟨W,hW0,Jy,hW1⟩,e1⟩;have hx2:=e1.trans ((xr w1).alloc (.cells #[.int .i64 k,.int .i64 n,.slice B a.length c] 25));obtain⟨w2,Q⟩: ∃w2,w2=w1.alloc (.cells #[.int .i64 k,.int .i64 n,.slice B a.length c] 25):=⟨_,rfl⟩;have Df:w2.heap[w1.heap.size]? =some (.cells #[.int .i64 k,.int .i64 n,.slice B a.length c] 25 (0,0)):=Q▸heap_alloc_new w1 _;have G5:i9 (fun b=> b < W.heap.size\/b=w1.heap.size) W w2 25 (.slice B a.length c) a:=Q▸(Jy.widen (fun b f hn h=> by rcases h with h|h;exact hn h;omega)).ext ((xr w1).alloc _);have l: ∀q,(Value.slice B a.length c).ownBlock=some q->W.heap.size<=q/\q < w1.heap.size:=by
  obtain⟨xs,q1,-⟩:=Jy;exact fun q hq=>⟨(q1.lt q hq).1,(q1.lt q hq).2⟩
 rw[<-Q] at hx2;have Hz:=hx2.blk Fy;have hs2:w1.heap.size < w2.heap.size:=O1 Df;obtain⟨d,s9⟩: ∃d,d=w1.heap.size:=⟨_,rfl⟩;have hW5:W.heap.size<=d:=by omega
 rw[<-s9] at G5 l;go_wp2_with fail;rw[<-Q];rw[<-s9] at Df⊢;clear Q Jy HC Fy;refine(Pf _ g m 50 (hR.ext (hx0.trans hx2)) (by omega)).mono ?_;rintro e j ⟨x,rfl,hx50,-,N,U1⟩;have R:X0 [g] w j:=(oE (hx0.trans hx2)).trans U1;have hw15:w.heap.size+1 < d:=by have:=O1 Hz;have:=e1.size;omega
 have P:=U1.keepBlk Hz (by simp;omega);have s:=U1.keepBlk Df (by simp;omega);have Db: ∀q,(Value.slice B a.length c).ownBlock=some q-> ¬(q < W.heap.size\/q=d):=fun q hq h=> by have:=l q hq;omega
 have pd:=G5.keep U1.size (fun b f hn=> U1.block b f (fun hm=> hn (.inl (by rw[List.mem_singleton.1 hm];omega)))) Db;have hgx4:d < j.heap.size:=O1 s;clear Hz Df G5 hR U1 hs2 s9;obtain⟨B',c',uf,Q4,K,hKs⟩:=pd.liesX Db;cases uf
 have HK:=hdq (show∀w':aK,j.heap.size<=w'.heap.size->(∀b,W.heap.size<=b->b≠d->b < j.heap.size->w'.heap[b]? =j.heap[b]?)->Mb (w.heap.size+2) w' B a from fun w' Y O=> hKs.mono (fun b f=>⟨by omega,by omega⟩) (fun b f=> O b (by omega) (by omega) f.1));have HG:=hdq pd;have ly:=hdq Db;have HOW:=hdq l;clear hKs pd Db l;by_cases h0:x=0
 · subst h0
   have C:=(xr j).alloc (.cells #[.int .i64 0,.int .i64 17,.int .i64 1,.int .i64 5,.int .i64 6] 3);obtain⟨z0,z1,z2,q0,q1,q2⟩:=own3 s;go_wp2_with fail;refine(an _ g _ (N.ext C) (by omega) _ 5 [0,17,1,5,6] (by simp) (by decide) (by simp) (Wy rfl) (by intro b o f;simp at f;have:=R.size;omega)).mono ?_;rintro e J ⟨y,rfl,hy,oa,D⟩;have HY:=hdq hy;clear hy;have pj:=(R.trans (oE (L:= [g]) C)).trans D;have V:=D.keepBlk (C.blk P) (by simp;omega);have ra:=D.keepBlk (C.blk s) (by simp;omega);have Bz:j.heap.size<=J.heap.size:=by have:=C.size;have:=D.size;omega
   have vy:=HK.out (J.setCell ⟨d,0,none⟩ (.int .i64 y)) (by simpa using Bz) (fun b Y O h3=>(aL _ _ _ _ (by show b≠d;exact O)).trans ((D.block b (by have:=C.size;omega) (by simp;omega)).trans (C.heap b h3)));have Ct:=bd V (p:=⟨d,0,none⟩) (by show w.heap.size+1≠d;omega) (.int .i64 y);have Dc:=M6 ra 0 (.int .i64 y);have ov:Rd (J.setCell ⟨d,0,none⟩ (.int .i64 y)) g (m+2):=oa.set (by show g < d;omega) _;have xw:=pj.setNew (p:=⟨d,0,none⟩) (by show w.heap.size<=d;omega) (.int .i64 y);obtain⟨y0,y1,y2,p0,p1,p2⟩:=own3 ra;obtain⟨G,F,I,f0,f1,f2⟩:=own3 V;have H:=E;clear z0 z1 z2 q0 q1 q2 C V ra pj D oa N P s R E;go_wp2_with fail;refine aO (v:= .agg #[.int .i64 y,.int .i64 n,.slice B a.length c]) (by simp[aQ,results70,go_sem,G,F,I]) rfl ⟨.mk y n a,_,rfl,⟨by simp only[cnt];omega,.kind HY.out⟩, ?_, ?_, ?_⟩
   · exact((((j2.mk y n vy Q4 K).set (by simp) _).set (by simp) _).set (by simp) _).since (by omega)
   · exact((ov.set (by show g < w.heap.size+1;omega) _).set (by show g < w.heap.size+1;omega) _).set (by show g < w.heap.size+1;omega) _
   · exact((xw.setNew (by simp) _).setNew (by simp) _).setNew (by simp) _
 by_cases Y:x=1
 · subst Y
   have C:=(xr j).alloc (.cells #[.int .i64 21,.int .i64 (-1),.int .i64 1,.int .i64 9223372036854775807] 3);obtain⟨z0,z1,z2,q0,q1,q2⟩:=own3 s;go_wp2_with fail;refine(an _ g _ (N.ext C) (by omega) _ 4 [21,-1,1,9223372036854775807] (by simp) (by decide) (by simp) (Wy rfl) (by intro b o f;simp at f;have:=R.size;omega)).mono ?_;rintro e J ⟨y,rfl,hy,oa,D⟩;have HY:=hdq hy;clear hy;have pj:=(R.trans (oE (L:= [g]) C)).trans D;have V:=D.keepBlk (C.blk P) (by simp;omega);have ra:=D.keepBlk (C.blk s) (by simp;omega);have Bz:j.heap.size<=J.heap.size:=by have:=C.size;have:=D.size;omega
   have vy:=HK.out (J.setCell ⟨d,1,none⟩ (.int .i64 y)) (by simpa using Bz) (fun b Y O h3=>(aL _ _ _ _ (by show b≠d;exact O)).trans ((D.block b (by have:=C.size;omega) (by simp;omega)).trans (C.heap b h3)));have Ct:=bd V (p:=⟨d,1,none⟩) (by show w.heap.size+1≠d;omega) (.int .i64 y);have Dc:=M6 ra 1 (.int .i64 y);have ov:Rd (J.setCell ⟨d,1,none⟩ (.int .i64 y)) g (m+2):=oa.set (by show g < d;omega) _;have xw:=pj.setNew (p:=⟨d,1,none⟩) (by show w.heap.size<=d;omega) (.int .i64 y);obtain⟨y0,y1,y2,p0,p1,p2⟩:=own3 ra;obtain⟨G,F,I,f0,f1,f2⟩:=own3 V;have H:=E;clear z0 z1 z2 q0 q1 q2 C V ra pj D oa N P s R E;go_wp2_with fail;refine aO (v:= .agg #[.int .i64 k,.int .i64 y,.slice B a.length c]) (by simp[aQ,results70,go_sem,G,F,I]) rfl ⟨.mk k y a,_,rfl,⟨by simp only[cnt];omega,.num HY.out⟩, ?_, ?_, ?_⟩
   · exact((((j2.mk k y vy Q4 K).set (by simp) _).set (by simp) _).set (by simp) _).since (by omega)
   · exact((ov.set (by show g < w.heap.size+1;omega) _).set (by show g < w.heap.size+1;omega) _).set (by show g < w.heap.size+1;omega) _
   · exact((xw.setNew (by simp) _).setNew (by simp) _).setNew (by simp) _
 by_cases O:x=2
 · subst O
   obtain⟨i0,hi,hz0,hz1,hz2⟩:=info_parts tH;have hv4:=i1 s 2;have Hp:=hdq s;have Ik:=hdq P;have Gc:d < j.heap.size:=O1 s;have Ex:a.length < 1099511627776:=by omega
   have hWw:w.heap.size+1 < W.heap.size:=by omega
   clear s P h0 Y;go_wp2_with fail
   go_region_law (first
    |(go_simp;go_at_call 62;refine(y15 _ 7 0).mono ?_;rintro e M ⟨rfl,e5⟩;have z:Ext j M:=((xr j).drew).trans e5;have nv:=z.blk Hp.out;have ig:=i1 nv 2;have Ii:d < M.heap.size:=O1 nv)
    |(refine CJ _ (by rfl) (.tmp 25) (.tmp 27) _ (by rfl) 25 i0 _ underlying23 hi hz0 hz1 hz2 rfl (by rfl) (X:=fun b=> b < W.heap.size\/b=d) (W:=W) (tr:= .mk 7 0 []) (HG.out.ext (z.trans ((xr M).alloc _))) (by have:=z.size;simp;omega) (InT.mk_iff.2 ⟨none,0,rfl,aM _,bT _,.inl rfl⟩) (by rfl) (heap_alloc_new _ _) Ex ?_;intro v' J qi jk D2 D;obtain⟨B6,c6,rfl,r1,r2,hK6⟩:=qi.liesX (fun b f=> by rcases D b f with h|h;exact ly.out b h;(have:=z.size;simp at h;omega));have Dn:=(D2.block d (by simp;omega) (fun he=> by have:=HOW.out d he.symm;omega)).trans (((xr M).alloc (.cells #[.int .i64 7,.int .i64 0,.slice none 0 0] 25)).blk nv);have hv6:=i1 Dn 2;have hf6:=Ob Dn 2))
   all_goals(
    have V:=(jk.block (w.heap.size+1) (by omega)).trans (((xr M).alloc (.cells #[.int .i64 7,.int .i64 0,.slice none 0 0] 25)).blk (z.blk Ik.out));have pj:X0 [g] w J:=((R.trans (oE (L:= [g]) z)).trans (oE (L:= [g]) ((xr M).alloc (.cells #[.int .i64 7,.int .i64 0,.slice none 0 0] 25)))).below jk (by omega);have oa:Rd J g (m+1):=((N.ext z).ext ((xr M).alloc (.cells #[.int .i64 7,.int .i64 0,.slice none 0 0] 25))).under jk (by omega);rw[List.length_append,List.length_singleton] at r1;have HK6:=hdq hK6;have E7:(a++ [Tr.mk 7 0 []]).length=a.length+1:=by simp
    have mo:=hdq E7;obtain⟨y0,y1,y2,p0,p1,p2⟩:=own3 Dn;obtain⟨G,F,I,f0,f1,f2⟩:=own3 V;have H:=E;clear E7 hK6 jk D2 D V Dn qi nv ig hv4 E;go_wp2_with fail;refine aO (v:= .agg #[.int .i64 k,.int .i64 n,.slice B6 (a.length+1) c6]) (by simp[aQ,results70,go_sem,G,F,I]) rfl ⟨.mk k n (a++ [.mk 7 0 []]),_,rfl,⟨by simp only[cnt,ry,W1];omega,.more⟩, ?_, ?_, ?_⟩
    · have Cs:Mb (w.heap.size+2) (J.setCell ⟨d,2,none⟩ (.slice B6 (a.length+1) c6)) B6 (a++ [.mk 7 0 []]):=HK6.out.mono (fun b f=>⟨by omega,by simpa using f.1⟩) (fun b f=> aL _ _ _ _ (by show b≠d;omega))
      have wx:=j2.mk k n Cs (by rw[mo.out];exact r1) r2;rw[mo.out] at wx;exact(((wx.set (by simp) _).set (by simp) _).set (by simp) _).since (by omega)
    · exact(((((oa.mono (by omega)).set (by show g < d;omega) _).set (by show g < w.heap.size+1;omega) _).set (by show g < w.heap.size+1;omega) _).set (by show g < w.heap.size+1;omega) _)
    · exact((((pj.setNew (by show w.heap.size<=d;omega) _).setNew (by simp) _).setNew (by simp) _).setNew (by simp) _))
 by_cases h3:x=3
 · subst h3
   have hFr:j2 (w.heap.size+2) j (.mk k n a) (.agg #[.int .i64 k,.int .i64 n,.slice B a.length c]):=j2.mk k n (HK.out j (aM _) (fun _ _ _ _=> rfl)) Q4 K;obtain⟨y0,y1,y2,p0,p1,p2⟩:=own3 s;clear h0 Y O;go_wp2_with fail;refine(Yu (w.heap.size+2) _ 8 _ 1 [.mk k n a] (by intro h;cases h) (Mb.one (g:=j.heap.size) (e:=25) hFr (by omega) rfl) (by simp;omega) (by simp)).mono ?_;rintro e J ⟨u,rfl,hN,e6⟩;obtain⟨k6,n6,A6,l6,c6,rfl⟩:=hN.three;have zn:=((xr j).alloc (.cells #[.int .i64 k,.int .i64 n,.slice B a.length c] 25)).trans e6;have pj:=R.trans (oE (L:= [g]) zn);have oa:Rd J g (m+2):=(N.ext zn).mono (by omega);obtain⟨G,F,I,f0,f1,f2⟩:=own3 (zn.blk P);have H:=E;clear y0 y1 y2 p0 p1 p2 E P s hFr N;go_wp2_with fail;refine aO (v:= .agg #[.int .i64 k6,.int .i64 n6,.slice A6 l6 c6]) (by simp[aQ,results70,go_sem,G,F,I]) rfl ⟨.mk 8 0 [.mk k n a],_,rfl,⟨by simp only[cnt,W1];omega,.succ⟩, ?_, ?_, ?_⟩
   · exact(((hN.set (by simp) _).set (by simp) _).set (by simp) _).since (by omega)
   · exact((oa.set (by show g < w.heap.size+1;omega) _).set (by show g < w.heap.size+1;omega) _).set (by show g < w.heap.size+1;omega) _
   · exact((pj.setNew (by simp) _).setNew (by simp) _).setNew (by simp) _
 by_cases h4:x=4
 · subst h4
   cases j4:a with
   |nil=>
    subst j4;have vy:=HK.out j (aM _) (fun _ _ _ _=> rfl);have ov:Rd j g (m+2):=N.mono (by omega);clear N h0 Y O h3;obtain⟨G,F,I,f0,f1,f2⟩:=own3 P;obtain⟨x0,x1,x2,-,-,-⟩:=own3 s;have H:=E;clear E;go_wp2_with fail;refine aO (v:= .agg #[.int .i64 k,.int .i64 n,.slice B 0 c]) (by simp[aQ,results70,go_sem,G,F,I]) rfl ⟨.mk k n [],_,rfl,⟨by simp only[cnt];omega,.same⟩, ?_, ?_, ?_⟩
    · exact((((j2.mk k n vy Q4 K).set (by simp) _).set (by simp) _).set (by simp) _).since (by omega)
    · exact((ov.set (by show g < w.heap.size+1;omega) _).set (by show g < w.heap.size+1;omega) _).set (by show g < w.heap.size+1;omega) _
    · exact((R.setNew (by simp) _).setNew (by simp) _).setNew (by simp) _
   |cons t0 ts=>
    have ai:0 < a.length:=by rw[j4];simp
    rw[<-j4];obtain⟨xs,q1,q2⟩:=HG.out;rcases q1.2 with⟨hv,hz⟩ |⟨r,cap',cur,hv,hbr,hr4,Y1,hcm,hcs,F7⟩
    · omega
    cases hv
    have hr5:W.heap.size<=r/\r < d:=HOW.out r rfl;have T:=W0.tail (cur.toList.drop (a.length*3)) (q2.mono (S':=fun b=> b < j.heap.size/\r≠b/\ ¬(b < W.heap.size\/b=d)) (fun b f=>⟨f.1,fun h=> f.2.1 (by rw[h];rfl),f.2.2⟩) (fun _ _=> rfl));rw[<-F7,gW] at T;have Ge:=hdq T;have hc3:0+3<=cur.size:=by rw[hcs];omega
    have Hp:=hdq s;have Ik:=hdq P;have HR:=hdq hr4;obtain⟨y0,y1,y2,p0,p1,p2⟩:=own3 s;obtain⟨v0,v1,v2,z0,z1,z2,fz0,fz1,fz2⟩:=oj (i:=0) hr4 hc3;have Gc:d < j.heap.size:=O1 s;have U0:(0:Int) <(a.length:Int):=by omega
    have I4:=hdq j4;have l8:W1 (a.set 0 (.mk 1 25 []))<=W1 a:=by
     rw[j4];have:=Tq t0;simp[W1,cnt]
     omega
    clear s P h0 Y O h3 T F7 q1 q2 hr4 j4 hcs hc3;go_wp2_with fail
    go_region_law (go_simp;go_at_call 62;refine(y15 _ 1 25).mono ?_;rintro e M ⟨rfl,e5⟩;have z:Ext j M:=((xr j).drew).trans e5;have nv:=z.blk Hp.out;have ig:=i1 nv 2;have Ii:d < M.heap.size:=O1 nv;have ey:=z.blk HR.out;have k0:=z.cell z0;have k1:=z.cell z1;have k2:=z.cell z2;have fk0:=Ob ey 0;have fk1:=Ob ey 1;have fk2:=Ob ey 2)
    all_goals(
     obtain⟨U,B0⟩: ∃U,U=((M.setCell ⟨r,0,none⟩ (.int .i64 1)).setCell ⟨r,1,none⟩ (.int .i64 25)).setCell ⟨r,2,none⟩ (.slice none 0 0):=⟨_,rfl⟩;have b7r:U.heap[r]? =some (.cells (((cur.setIfInBounds 0 (.int .i64 1)).setIfInBounds 1 (.int .i64 25)).setIfInBounds 2 (.slice none 0 0)) 25 (0,0)):=by
      rw[B0];exact M6 (M6 (M6 ey 0 _) 1 _) 2 _
     have Z: ∀b,b≠r->U.heap[b]? =M.heap[b]? :=fun b f=> by
      rw[B0,aL _ _ _ _ f,aL _ _ _ _ f,aL _ _ _ _ f]
     have Hw:U.heap.size=M.heap.size:=by rw[B0];simp
     have hs45:=z.size;have ov:Rd U g (m+2):=by
      rw[B0];exact((((N.ext z).mono (show m+1<=m+2 by omega)).set (p:=⟨r,0,none⟩) (by show g < r;omega) _).set (p:=⟨r,1,none⟩) (by show g < r;omega) _).set (p:=⟨r,2,none⟩) (by show g < r;omega) _
     have xw:X0 [g] w U:=by
      rw[B0];exact((((R.trans (oE (L:= [g]) z)).setNew (p:=⟨r,0,none⟩) (by show w.heap.size<=r;omega) _).setNew (p:=⟨r,1,none⟩) (by show w.heap.size<=r;omega) _).setNew (p:=⟨r,2,none⟩) (by show w.heap.size<=r;omega) _)
     have Dc:=(Z d (by omega)).trans nv;have Ct:=(Z (w.heap.size+1) (by omega)).trans (z.blk Ik.out);have qj:=W0.set (S:=fun b=> b < U.heap.size/\w.heap.size+2<=b) (t:= .mk 1 25 []) (v0:= .int .i64 1) (v1:= .int .i64 25) (v2:= .slice none 0 0) (InT.mk_iff.2 ⟨none,0,rfl,aM _,bT _,.inl rfl⟩) 0 (Ge.out.mono (w':=U) (S':=fun b=> b < U.heap.size/\w.heap.size+2<=b) (fun b f=>⟨by omega,by omega⟩) (fun b f=>(Z b (fun h=> f.2.1 h.symm)).trans (z.heap b f.1)));have Cs:Mb (w.heap.size+2) U (some ⟨r,0,none⟩) (a.set 0 (.mk 1 25 [])):=by
      refine .inr ⟨r,0,rfl,⟨by omega,by rw[Hw];exact O1 ey⟩, ?_⟩;have h9:=W0.inL b7r (pre:= []) (xs:=((cur.toList.set (0*3) (.int .i64 1)).set (0*3+1) (.int .i64 25)).set (0*3+2) (.slice none 0 0)) qj (by simp[Array.toList_setIfInBounds]);exact h9.mono (fun b f=>⟨f.2,f.1⟩) (fun _ _=> rfl) ⟨by rw[Hw];exact O1 ey,by omega⟩
     have wx:=j2.mk k n Cs (by rw[fZ];exact Q4) K;rw[fZ] at wx;have HF8:=hdq wx;have zw:cnt (.mk k n (a.set 0 (.mk 1 25 [])))<=cnt (.mk k n a)+1:=by simp only[cnt];omega
     have fl:=hdq zw;obtain⟨G,F,I,f0,f1,f2⟩:=own3 Ct;obtain⟨x0,x1,x2,-,-,-⟩:=own3 Dc;have H:=E;clear wx Cs qj Dc Ct Z b7r zw ey k0 k1 k2 fk0 fk1 fk2 nv ig E y0 y1 y2 z0 z1 z2 fz0 fz1 fz2 p0 p1 p2
     try rw[<-B0]
     clear B0;go_wp2_with fail;refine aO (v:= .agg #[.int .i64 k,.int .i64 n,.slice (some ⟨r,0,none⟩) a.length c]) (by simp[aQ,results70,go_sem,G,F,I]) rfl ⟨.mk k n (a.set 0 (.mk 1 25 [])),_,rfl,⟨fl.out,.var (by rw[I4.out];simp)⟩, ?_, ?_, ?_⟩
     · exact(((HF8.out.set (by simp) _).set (by simp) _).set (by simp) _).since (by omega)
     · exact((ov.set (by show g < w.heap.size+1;omega) _).set (by show g < w.heap.size+1;omega) _).set (by show g < w.heap.size+1;omega) _
     · exact((xw.setNew (by simp) _).setNew (by simp) _).setNew (by simp) _)
 have t0:(x==0)=false:=beq_eq_false_iff_ne.2 h0;have t1:(x==1)=false:=beq_eq_false_iff_ne.2 Y;have t2:(x==2)=false:=beq_eq_false_iff_ne.2 O;have t3:(x==3)=false:=beq_eq_false_iff_ne.2 h3;have t4:(x==4)=false:=beq_eq_false_iff_ne.2 h4;have vy:=HK.out j (aM _) (fun _ _ _ _=> rfl);have ov:Rd j g (m+2):=N.mono (by omega);clear N h0 Y O h3 h4;obtain⟨G,F,I,f0,f1,f2⟩:=own3 P;obtain⟨x0,x1,x2,-,-,-⟩:=own3 s;have H:=E;clear E;go_wp2_with fail;refine aO (v:= .agg #[.int .i64 k,.int .i64 n,.slice B a.length c]) (by simp[aQ,results70,go_sem,G,F,I]) rfl ⟨.mk k n a,_,rfl,⟨by simp only[cnt];omega,.same⟩, ?_, ?_, ?_⟩
 · exact((((j2.mk k n vy Q4 K).set (by simp) _).set (by simp) _).set (by simp) _).since (by omega)
 · exact((ov.set (by show g < w.heap.size+1;omega) _).set (by show g < w.heap.size+1;omega) _).set (by show g < w.heap.size+1;omega) _
 · exact((R.setNew (by simp) _).setNew (by simp) _).setNew (by simp) _
end Go.Proofs.YtckhbnmfnpolgaaGreat
namespace Go.Proofs.YtckhbnmfnpolgaaGreat
open Go.RowKit
mutual
def p4:Tr->List Int×Bool
 | .mk k n a=> if rdx k a≠0 then([],true)
  else if k=5\/k=15\/k=16 then(0::(a8 a 0).1,(a8 a 0).2)
  else if k=9 then(3::(a8 a 3).1,(a8 a 3).2)
  else if k=12 then(1::(a8 a 1).1,(a8 a 1).2) else([],false)
def a8:List Tr->Nat->List Int×Bool
 | [],_=>([],false)
 |t::ts,0=> p4 t
 |t::ts,i+1=> a8 ts i
end
def hdQ(t:Tr):Option (List Int):=if(p4 t).2=true then some (p4 t).1 else none
theorem Uy{t:Tr}{p:List Int}(h:hdQ t=some p):p4 t=(p,true):=by
 unfold hdQ at h
 split at h
 · rename_i a
   simp only[Option.some.injEq] at h;rw[<-h,<-a]
 · cases h
theorem Bs{t:Tr}(h:hdQ t=none):(p4 t).2=false:=by
 unfold hdQ at h
 split at h
 · cases h
 · rename_i a
   simpa using a
theorem Fk: ∀{a:List Tr} {i:Nat},i < a.length->a8 a i=p4 (kd a i)
 |t::ts,0,_=> by rw[a8];rfl
 |t::ts,i+1,h=> by rw[a8,MA];exact Fk (by simpa using h)
theorem TC: ∀{a:List Tr} {i:Nat},a.length<=i->(a8 a i).2=false
 | [],_,_=> by rw[a8]
 |t::ts,0,h=> by simp at h
 |t::ts,i+1,h=> by rw[a8];exact TC (by simpa using h)
theorem SB: ∀(t:Tr) (d:Int),D0 m0 t d=true->((p4 t).1.length:Int)<=d:=Tr.ind fun k n a hk=> by
 intro d h;have hd:=DB h;have key: ∀i,((a8 a i).1.length:Int)<=d - 1:=fun i=> by
  by_cases hi:i < a.length
  · rw[Fk hi]
    exact hk _ (Li hi) (d - 1) ((Qu h).2.2.2 _ (Li hi))
  · have: ∀{a:List Tr} {i:Nat},a.length<=i->(a8 a i).1= []:=by
     intro a
     induction a with
     |nil=> intro i _;rw[a8]
     |cons t ts ih=>
      intro i h;cases i with
      |zero=> simp at h
      |succ i=> rw[a8];exact ih (by simpa using h)
    rw[this (by omega)];simp
    omega
 rw[p4]
 split
 · simp;omega
 · split
   · have:=key 0;simp only[bY];omega
   · split
     · have:=key 3;simp only[bY];omega
     · split
       · have:=key 1;simp only[bY];omega
       · simp;omega
theorem yE{k n:Int}{a:List Tr}{i:Nat}{p:List Int}(hi:i < a.length)(h:pb (kd a i) p=true):pb (.mk k n a) ((i:Int)::p)=true:=by
 unfold pb at*;rw[show ea (.mk k n a) ((i:Int)::p)=ea (kd a i) p by simp[ea,hi]];exact h
theorem jt(t:Tr):conA t []=ctrT t:=by
 cases t
 simp[conA,ea,F8]
theorem pu{k n:Int}{ks:List Tr}{i:Nat}{p:List Int}(hi:i < ks.length)(h:pb (kd ks i) p=true):conA (.mk k n ks) ((i:Int)::p)= .mk k n (ks.set i (conA (kd ks i) p)):=by
 obtain⟨u,a,b⟩:=Tv h;unfold conA;rw[show ea (.mk k n ks) ((i:Int)::p)=ea (kd ks i) p by simp[ea,hi],a];simp[F8]
theorem Bf: ∀(t:Tr) (p:List Int),p4 t=(p,true)->pb t p=true:=Tr.ind fun k n a hk=> by
 intro p h;have key: ∀i,(a8 a i).2=true->pb (.mk k n a) ((i:Int)::(a8 a i).1)=true:=fun i hi=> by
  by_cases hl:i < a.length
  · rw[Fk hl] at hi⊢
    exact yE hl (hk _ (Li hl) _ (by rw[<-hi]))
  · rw[TC (by omega)] at hi
    cases hi
 rw[p4] at h
 split at h
 · rename_i b
   simp only[cK,and_true] at h;subst h;unfold pb;rw[show ea (.mk k n a) []=some (.mk k n a) by simp[ea]];exact zv.2 b
 · split at h
   · simp only[cK] at h
     rw[<-h.1];exact key 0 h.2
   · split at h
     · simp only[cK] at h
       rw[<-h.1];exact key 3 h.2
     · split at h
       · simp only[cK] at h
         rw[<-h.1];exact key 1 h.2
       · simp at h
theorem Mj(t:Tr)(p:List Int)(h:hdQ t=some p):pb t p=true:=Bf t p (Uy h)
def p9:Nat->Tr->Tr×Int
 |0,t=> match hdQ t with
  |none=>(t,0)
  |some _=>(E2,1)
 |f+1,t=> match hdQ t with
  |none=>(t,0)
  |some p=> if j0 m0 (conA t p)=true then p9 f (conA t p) else(E2,2)
def d7(t:Tr)(f:Int):Tr×Int:=if(j0 m0 t && kb f 0 200)=true then p9 f.toNat t else(E2,3)
theorem ew{x:Tr}(h:hdQ x=none)(f:Nat):p9 f x=(x,0):=by
 cases f <;>(unfold p9;rw[h])
theorem pD{x:Tr}{p:List Int}(h:hdQ x=some p):p9 0 x=(E2,1):=by
 unfold p9;rw[h]
theorem Vo{x:Tr}{p:List Int}(h:hdQ x=some p)(hv:j0 m0 (conA x p)=false)(f:Nat):p9 (f+1) x=(E2,2):=by
 rw[p9,h];simp only;rw[if_neg (by rw[hv];decide)]
theorem Yp{x:Tr}{p:List Int}(h:hdQ x=some p)(hv:j0 m0 (conA x p)=true)(f:Nat):p9 (f+1) x=p9 f (conA x p):=by
 rw[p9,h];simp only;rw[if_pos hv]
theorem Pz: ∀(f:Nat) (t x:Tr),j0 m0 t=true->p9 f t=(x,0)->m7 t x/\hdQ x=none/\j0 m0 x=true
 |0,t,x,hv,h=> by
  cases e:hdQ t with
  |none=>
   rw[ew e] at h;cases h
   exact⟨.refl _,e,hv⟩
  |some p=> rw[pD e] at h;cases h
 |f+1,t,x,hv,h=> by
  cases e:hdQ t with
  |none=>
   rw[ew e] at h;cases h
   exact⟨.refl _,e,hv⟩
  |some p=>
   by_cases hc:j0 m0 (conA t p)=true
   · rw[Yp e hc] at h
     obtain⟨a,b⟩:=Pz f _ x hc h;exact⟨(m7.one (Xz (Mj t p e))).trans a,b⟩
   · rw[Vo e (Bool.eq_false_iff.2 hc)] at h
     cases h
theorem Qw{t x:Tr}{f:Int}(h:d7 t f=(x,0)):j0 m0 t=true/\m7 t x/\hdQ x=none/\j0 m0 x=true:=by
 unfold d7 at h
 split at h
 · rename_i hv
   rw[Bool.and_eq_true] at hv;exact⟨hv.1,Pz _ _ _ hv.1 h⟩
 · cases h
