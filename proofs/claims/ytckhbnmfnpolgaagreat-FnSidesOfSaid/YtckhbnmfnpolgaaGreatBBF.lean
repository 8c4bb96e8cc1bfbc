/-
  Lemmas towards the law, 32: Gt, SInfB, SPush, SInfP, InfJ.
-/
import Derived.Test.YtckhbnmfnpolgaaGreatBBE
open Go renaming World->aK,Value->aS,heap_alloc_new->aR,info_parts->fM,Calls->aV,results->aQ,wpAnyH_done->bP,wpAnyH_take->gS,wpAnyH_ready->fO
open Nat renaming le_trans->bK,le_succ->aP,le_refl->aM,lt_of_lt_of_le->aX,lt_irrefl->iW
open Go.World renaming alloc->aN,ownsRow_lit->fL,size_alloc->dU
open Option.some renaming inj->bZ
open Go.Act renaming put->eQ
open List renaming getElem_toArray->bU,getElem_cons_succ->bO,getElem_cons_zero->bN,setIfInBounds_toArray->aT,set_cons_zero->bM,set_cons_succ->bL,length_append->cL,length_singleton->cO
open Go.AllReadyH renaming cons->dS,nil->eW
open Go.Proofs.Tryz
set_option linter.unusedVariables false
set_option maxHeartbeats 8000000
set_option maxRecDepth 100000
namespace Go.Proofs.YtckhbnmfnpolgaaGreat
open Go Go.RowKit
theorem Xj:(prog.info? 25).map (fun i=>(i.zero,i.size,i.bytes))=some (some (.agg #[.int .i64 0,.int .i64 0,.slice none 0 0]),3,40):=by kernel_rfl
def xb(W w:aK)(v:aS)(ks:List Tr):Prop:=i9 (fun b=> b < W.heap.size) W w 25 v ks
section
variable {W w w' : aK} {v : aS} {ks : List Tr} {tr : Tr} {v0 v1 v2 : aS} {g : Nat}
theorem xb.ext(h:xb W w v ks)(e:Ext w w'):xb W w' v ks:=i9.ext h e
theorem xb.on(h:xb W w v ks)(o:X0 [g] w w')(c:g < W.heap.size):xb W w' v ks:=i9.only h o (fun b a=> by rw[List.mem_singleton.1 a];exact c) fun b a=> a
theorem xb.lit(e:Ext W w):xb W (w.alloc (.cells #[] 25)) (.slice (some ⟨w.heap.size,0,none⟩) 0 0) []:=i9.lit (aR w _) e.size
theorem xb.row(h:xb W w v ks): ∃A c,v= .slice A ks.length c/\ks.length<=c/\c<=maxLen/\(A=none->c=0)/\Mb W.heap.size w A ks:=by
 have hK:=h.lies (fun b a=> a);obtain⟨l,i,-⟩:=h;obtain⟨A,c,hv,k,j,e,-⟩:=hK;refine⟨A,c,hv,k,j,fun hA=> ?_,InK.mono (fun b a=>⟨by have:=a.2;omega,a.1⟩) (fun _ _=> rfl) e⟩;rcases i.2 with⟨d,-⟩ |⟨q,cap,f,d,-⟩
 · rw[d] at hv
   simp only[Value.slice.injEq] at hv;exact hv.2.2.symm
 · rw[d,hA] at hv
   simp at hv
theorem xb.row'{A:Option Addr}{n c:Nat}(h:xb W w (.slice A n c) ks):n=ks.length/\(n<=c/\c<=maxLen/\(A=none->c=0))/\Mb W.heap.size w A ks:=by
 obtain⟨i,f,hv,b,d,e,a⟩:=xb.row h;simp only[Value.slice.injEq] at hv;obtain⟨rfl,rfl,rfl⟩:=hv;exact⟨rfl,⟨b,d,e⟩,a⟩
theorem mH{ops:Array Oper}{rest:List Oper}{o:Oper}{a:Act}{Q:Exit->Act->aK->Prop}{p:Nat}(s x:Operand)(hG:xb W w v ks)(e:Ext w w')(n:Ext W w)(hT:j2 w.heap.size w' tr (.agg #[v0,v1,v2]))(hn:ks.length < 1000)
 (t:o.op= .call {callee:= .builtin .append,args:=#[s,x],argTypes:=#[23,23]}) (i:o.guard=none) (hs:a.eval s=v) (hx:a.eval x= .slice (some ⟨p,0,none⟩) 1 1) (l:w'.heap[p]? =some (.cells #[v0,v1,v2] 25 (0,0)))
 (h: ∀A c d,xb W d (.slice A (ks++ [tr]).length c) (ks++ [tr])->Below W.heap.size w' d->wpList prog ops Q rest (a.put o.dst (.slice A (ks++ [tr]).length c)) d):wpList prog ops Q (o::rest) a w':=by
 obtain⟨B,hi,m,j,k⟩:=fM Xj;have y:InT w' (fun b=> b < w'.heap.size/\v.ownBlock≠some b/\ ¬b < W.heap.size) tr (.agg #[v0,v1,v2]):=by
  obtain⟨C,r,E⟩:=hG;have:=n.size;exact InT.mono (fun b f=>⟨f.2,fun u=> by have:=(r.lt b u).2;have:=f.1;omega,by have:=f.1;omega⟩) (fun _ _=> rfl) hT
 refine BD _ i s x 23 t 25 B _ underlying23 hi m j k rfl hs (hG.ext e) (bK n.size e.size) y hx l (by omega) (fun D d q z=> ?_) (fun b f=> f);obtain⟨A,c,rfl,-⟩:=xb.row q;exact h A c d q z
theorem nJ{l:aK}{ops:Array Oper}{o:Oper}{a:Act}{K:Act->aK->Prop}{Q:Exit->Act->aK->Prop}{E:Prop}{q:Nat}(s x:Operand)(hG:xb W w v ks)(d:X0 [g] w l)(u:g < W.heap.size)(e:Ext l w')(I:W.heap.size<=w.heap.size)(hT:j2 w.heap.size l tr (.agg #[v0,v1,v2]))(hn:ks.length < 1000)
 (y:o.op= .call {callee:= .builtin .append,args:=#[s,x],argTypes:=#[23,23]}) (j:o.guard=none) (hs:a.eval s=v) (hx:a.eval x= .slice (some ⟨q,0,none⟩) 1 1) (n:w'.heap[q]? =some (.cells #[v0,v1,v2] 25 (0,0)))
 (h: ∀A c f,xb W f (.slice A (ks++ [tr]).length c) (ks++ [tr])->Below W.heap.size w' f->K (a.put o.dst (.slice A (ks++ [tr]).length c)) f):if Region.wanted o (yielded ops a.tmps)=true then Oper.wp prog o a w' K Q else E:=by
 obtain⟨G,hi,p,k,m⟩:=fM Xj;have z:=d.size;have C:=e.size;have D:InT w' (fun b=> b < w'.heap.size/\v.ownBlock≠some b/\ ¬b < W.heap.size) tr (.agg #[v0,v1,v2]):=by
  obtain⟨H,t,L⟩:=hG;exact InT.mono (fun b i=>⟨i.2,fun B=> by have:=(t.lt b B).2;have:=i.1;omega,by have:=i.1;omega⟩) (fun _ _=> rfl) (hT.ext e)
 refine cJ _ j s x 23 y 25 G _ underlying23 hi p k m rfl hs ((hG.on d u).ext e) (by omega) D hx n (by omega) (fun J f r F=> ?_) (fun b i=> i);obtain⟨A,c,rfl,-⟩:=xb.row r;exact h A c f r F
theorem UI{p:aK}{ops:Array Oper}{rest:List Oper}{o:Oper}{a:Act}{Q:Exit->Act->aK->Prop}{q:Nat}(s x:Operand)(hG:xb W w v ks)(d:X0 [g] w p)(u:g < W.heap.size)(e:Ext p w')(H:W.heap.size<=w.heap.size)(hT:j2 w.heap.size w' tr (.agg #[v0,v1,v2]))(hn:ks.length < 1000)
 (y:o.op= .call {callee:= .builtin .append,args:=#[s,x],argTypes:=#[23,23]}) (j:o.guard=none) (hs:a.eval s=v) (hx:a.eval x= .slice (some ⟨q,0,none⟩) 1 1) (m:w'.heap[q]? =some (.cells #[v0,v1,v2] 25 (0,0)))
 (h: ∀A c f,xb W f (.slice A (ks++ [tr]).length c) (ks++ [tr])->Below W.heap.size w' f->wpList prog ops Q rest (a.put o.dst (.slice A (ks++ [tr]).length c)) f):wpList prog ops Q (o::rest) a w':=by
 obtain⟨F,hi,n,k,l⟩:=fM Xj;have z:=d.size;have C:=e.size;have D:InT w' (fun b=> b < w'.heap.size/\v.ownBlock≠some b/\ ¬b < W.heap.size) tr (.agg #[v0,v1,v2]):=by
  obtain⟨G,t,J⟩:=hG;exact InT.mono (fun b i=>⟨i.2,fun B=> by have:=(t.lt b B).2;have:=i.1;omega,by have:=i.1;omega⟩) (fun _ _=> rfl) hT
 refine BD _ j s x 23 y 25 F _ underlying23 hi n k l rfl hs ((hG.on d u).ext e) (by omega) D hx m (by omega) (fun I f r E=> ?_) (fun b i=> i);obtain⟨A,c,rfl,-⟩:=xb.row r;exact h A c f r E
end
end Go.Proofs.YtckhbnmfnpolgaaGreat
namespace Go.Proofs.YtckhbnmfnpolgaaGreat
open Go.RowKit
attribute [local go_sem ↓] Go.wp_at_zero Go.wp_at_succ
theorem gE{f:Nat}(Y:k9 f){G:List Tr}{A:Option Addr}{ca:Nat}(d:aK)(N:Nat->Prop)(B:SJ d N A G ca)(k n:Int)(ks:List Tr)(x:ks.length=2)(Z:j0 m0 (kd ks 1)=true)(v:aS)(hT:InT d N (.mk k n ks) v)(ty:Nat->An)(U:ty 0=M0 f G (kd ks 0))(V:ty 1=M0 f G (kd ks 1))(r:Tr×Int)(h:Bm ty (kd ks 1)=some r):aV prog 164 #[.slice A G.length ca,v] d (N9 N d r):=by
 unfold Bm at h;rw[U,V] at h;obtain⟨s,c,p,J,P⟩:=k8 h;clear h U V;have nc:=hdq Z;clear Z;obtain⟨At,ct,rfl,-,l8,hK⟩:=InT.mk_iff.1 hT;obtain⟨b,o,rfl,-,⟨O3,N6,O6,O7,O9,D⟩,ax,Y7,Y6,Z2,aa,O⟩:=q17 hK x;rw[x];clear hT hK x;go_enter func164,ntmps164;go_wp2_with fail;generalize m:aN (aN d _) _=w1;obtain⟨j,br,S⟩:=Yd m.symm B;have F:=hdq (both S (both (D.up j (aP _)) (O.up j (aP _))));have X:=xr w1;have Q:=F.out _ X.off;clear S B m D O;refine(DD Y _ _ Q.1.1 _ _ Q.2.1.i 3 _ p.out).mono ?_;rintro e w2 ⟨u,rfl,hT,e⟩;replace X:=X.trans e;replace Q:=F.out _ X.off;simp only at hT⊢;obtain⟨ka,na,I⟩:=s;obtain⟨A1,c1,rfl,-,-,hK⟩:=InT.mk_iff.1 hT;clear hT;obtain⟨y,t⟩ |rfl:=cz c
 · have R:=cbn (X.blk br)
   have R':=fun o=> cbn ((X.alloc o).blk br)
   go_wp2_with fail;exact ya (by simp[aQ,results164,go_sem,R,R']) (P.out y.out) (((j.trans X).alloc _).set3 (aP _) _ _ _) rfl
 obtain⟨-,a,hv⟩:=sm p.out;have q:=J.out rfl;simp only[Tr.kids] at a hv q;have a:I.length=2:=by have:O0 3=2:=rfl;omega
 have Y3:=hdq (show j0 m0 (kd I 1)=true from Cd hv (i:=1) (by simp only[Tr.kids];omega));clear p J P hv;obtain⟨b2,o2,rfl,z,⟨ul,sk,si,ui,un,C⟩,f11,f12,f13,f14,f15,H⟩:=q17 hK a;rw[a];clear hK a;obtain⟨c,M,L,T⟩:=Mc q;clear q;go_wp2_with fail;generalize m:aN w2 _=w3;obtain⟨E,e⟩:=nb m;replace F:=hdq (both (rb F.out (X.trans e)) (both (U9 E (X.ne br)) (both (C.fm z e) (H.fm z e))));replace X:=X.trans e;replace br:=X.blk br;replace j:=j.trans X;replace X:=xr w3;replace Q:=F.out _ X.off;clear m E e;clear C H z;refine rgn (d.heap.size+1) (by kernel_rfl) X ?_;replace X:=X.drew;refine W2 [0,1,2,3,4,5,6,7,8] 2 (by kernel_rfl) X.off (fun _ _ _ _ _ h=> h) ?_
 iterate 9 (refine tk rfl (by rfl) (by intro w X;have Q:=F.out _ X;go_simp;(try with_reducible rfl)) ?_;try simp only[I3])
 replace Q:=F.out _ X.off;refine H0 9 (by kernel_rfl) rfl rfl (fun K hK=> ?_)
 go_simp
 go_at_call 116
 refine(cl Y _ _ Q.1.1.1 (kd ks 1) _ _ _ Q.1.2.2.i Q.2.2.1.l c M.out).mono ?_;rintro e w4 ⟨rfl,e⟩;replace X:=X.trans e;replace Q:=F.out _ X.off;refine hK.out _ _ X.off (fun _=> ?_);clear hK K;refine W2 [10] 0 (by kernel_rfl) X.off (fun _ _ _ _ _ h=> h) ?_;refine tk rfl (by rfl) (by intro w X;go_simp;(try with_reducible rfl)) ?_
 try simp only[I3]
 refine bP (by kernel_rfl) ?_ _;obtain⟨y,t⟩ |rfl:=cz c
 · have R:=cbn (X.blk br)
   go_wp2_with fail;exact ya (by simp[aQ,results164,go_sem,R]) (T.out y.out) ((j.trans X).set3 (aP _) _ _ _) rfl
 have hr:=bZ (L.out rfl);clear M L T;go_wp2_with fail;refine rgn (d.heap.size+1) (by kernel_rfl) X ?_;replace X:=X.drew;refine W2 [0,1,2,3,4,5,6,7] 3 (by kernel_rfl) X.off (fun _ _ _ _ _ h=> h) ?_
 iterate 8 (refine tk rfl (by rfl) (by intro w X;have Q:=F.out _ X;go_simp;(try with_reducible rfl)) ?_;try simp only[I3])
 replace Q:=F.out _ X.off;refine H0 8 (by kernel_rfl) rfl rfl (fun K hK=> ?_)
 go_simp
 go_at_call 121
 refine(Rs _ _ Y3.out nc.out _ _ Q.1.1.1.hN _ _ Q.2.2.2.l Q.1.2.2.l).mono ?_;rintro e w5 ⟨u,rfl,hx,e⟩;replace X:=X.trans e;replace Q:=F.out _ X.off;refine hK.out _ _ X.off (fun _=> ?_);clear hK K;obtain⟨_,_,_,_,_,rfl⟩:=hx.three;have R:=cbn (X.blk br);refine H0 9 (by kernel_rfl) rfl rfl (fun K hK=> ?_)
 go_simp
 refine hK.out _ _ (X.off.set3 _ _ _) (fun _=> ?_);clear hK K;refine W2 [10] 0 (by kernel_rfl) (X.off.set3 _ _ _) (fun _ _ _ _ _ h=> h) ?_;refine tk rfl (by rfl) (by intro w X;go_simp;(try with_reducible rfl)) ?_
 try simp only[I3]
 refine bP (by kernel_rfl) ?_ _;go_wp2_with fail;exact n7 (by simp[aQ,results164,go_sem,R]) (hx) (hr.symm) (j.trans X) (aP _) rfl
theorem DF{f:Nat}(y:k9 f){G:List Tr}{A:Option Addr}{ca:Nat}(a:aK)(N:Nat->Prop)(z:SJ a N A G ca)(k n:Int)(ks:List Tr)(x:ks.length=3)(v:aS)(hT:InT a N (.mk k n ks) v)(ty:Nat->An)(J:ty 0=M0 f G (kd ks 0))(L:ty 1=M0 f G (kd ks 1))(D:ty 2=M0 f G (kd ks 2))(r:Tr×Int)(h:Le ty (kd ks 0)=some r):aV prog 166 #[.slice A G.length ca,v] a (Qg N a r):=by
 unfold Le at h;rw[J,L,D] at h;obtain⟨s,c,q,p,u⟩:=k8 h;clear h J L D;obtain⟨At,ct,rfl,-,V,hK⟩:=InT.mk_iff.1 hT;obtain⟨b,o,rfl,-,⟨Y,N6,O6,Z,O9,C⟩,⟨ax,Y7,Y6,Z2,aa,H⟩,mh,ma,ml,mg,mj,M⟩:=y20 hK x;rw[x];clear hT hK x;go_enter func166,ntmps166;go_wp2_with fail;generalize O:aN (aN a _) _=T;obtain⟨j,br,S⟩:=Yd O.symm z;have F:=hdq (both S (both (C.up j (aP _)) (both (H.up j (aP _)) (M.up j (aP _)))));have X:=xr T;have Q:=F.out _ X.off;clear S z O C H M;refine(Tt y _ _ Q.1.1 _ _ Q.2.1.i _ q.out).mono ?_;rintro e w2 ⟨rfl,e⟩;replace X:=X.trans e;replace Q:=F.out _ X.off;simp only;obtain⟨m,t⟩ |rfl:=cz c
 · go_wp2_with fail
   refine(y15 _ 2 s.num).mono ?_;rintro e U ⟨rfl,e⟩;replace X:=X.trans e;replace Q:=F.out _ X.off;have R:=cbn (X.blk br);go_wp2_with fail;exact Ua (by simp[aQ,results166,go_sem,R]) (F5 _ _ 2 s.num) (Tk (u.out m.out) m.out) (j.trans X) (aP _) rfl
 obtain⟨c,B,E,I⟩:=Mc (p.out rfl);clear q p u;go_wp2_with fail;refine rgn (a.heap.size+1) (by kernel_rfl) X ?_;replace X:=X.drew;refine W2 [0,1,2,3,4,5,6,7,8] 2 (by kernel_rfl) X.off (fun _ _ _ _ _ h=> h) ?_
 iterate 9 (refine tk rfl (by rfl) (by intro w X;have Q:=F.out _ X;go_simp;(try with_reducible rfl)) ?_;try simp only[I3])
 replace Q:=F.out _ X.off;refine H0 9 (by kernel_rfl) rfl rfl (fun K hK=> ?_)
 go_simp
 go_at_call 116
 refine(cl y _ _ Q.1.1 (kd ks 1) _ _ _ Q.2.2.1.i Q.2.1.l c B.out).mono ?_;rintro e U ⟨rfl,e⟩;replace X:=X.trans e;replace Q:=F.out _ X.off;refine hK.out _ _ X.off (fun _=> ?_);clear hK K;refine W2 [10] 0 (by kernel_rfl) X.off (fun _ _ _ _ _ h=> h) ?_;refine tk rfl (by rfl) (by intro w X;go_simp;(try with_reducible rfl)) ?_
 try simp only[I3]
 refine bP (by kernel_rfl) ?_ _;obtain⟨m,t⟩ |rfl:=cz c
 · go_wp2_with fail
   refine(y15 _ 2 s.num).mono ?_;rintro e P ⟨rfl,e⟩;replace X:=X.trans e;replace Q:=F.out _ X.off;have R:=cbn (X.blk br);go_wp2_with fail;exact Ua (by simp[aQ,results166,go_sem,R]) (F5 _ _ 2 s.num) (Tk (I.out m.out) m.out) (j.trans X) (aP _) rfl
 obtain⟨d,q,p,u⟩:=Mc (E.out rfl);clear B E I;go_wp2_with fail;refine rgn (a.heap.size+1) (by kernel_rfl) X ?_;replace X:=X.drew;refine W2 [0,1,2,3,4,5,6,7,8] 2 (by kernel_rfl) X.off (fun _ _ _ _ _ h=> h) ?_
 iterate 9 (refine tk rfl (by rfl) (by intro w X;have Q:=F.out _ X;go_simp;(try with_reducible rfl)) ?_;try simp only[I3])
 replace Q:=F.out _ X.off;refine H0 9 (by kernel_rfl) rfl rfl (fun K hK=> ?_)
 go_simp
 go_at_call 116
 refine(cl y _ _ Q.1.1 (kd ks 2) _ _ _ Q.2.2.2.i Q.2.1.l d q.out).mono ?_;rintro e P ⟨rfl,e⟩;replace X:=X.trans e;replace Q:=F.out _ X.off;refine hK.out _ _ X.off (fun _=> ?_);clear hK K;refine W2 [10] 0 (by kernel_rfl) X.off (fun _ _ _ _ _ h=> h) ?_;refine tk rfl (by rfl) (by intro w X;go_simp;(try with_reducible rfl)) ?_
 try simp only[I3]
 refine bP (by kernel_rfl) ?_ _;go_wp2_with fail;refine(y15 _ 2 s.num).mono ?_;rintro e w5 ⟨rfl,e⟩;replace X:=X.trans e;replace Q:=F.out _ X.off;have R:=cbn (X.blk br);go_wp2_with fail;exact Ua (by simp[aQ,results166,go_sem,R]) (F5 _ _ 2 s.num) (Pk p.out u.out) (j.trans X) (aP _) rfl
theorem KE(t:Tr)(hv:j0 m0 t=true)(j:aK)(N:Nat->Prop)(hN: ∀b,j.heap.size<=b->N b)(v:aS)(m:Lies j t v):aV prog 190 #[v] j fun e w'=> ∃u,e= .returned u/\InT w' N (Wb t) u/\Ext j w':=by
 have p:=hdq hv;have o:=hdq (fun W (x:Ext j W)=> m.ext x);obtain⟨k,n,ks⟩:=t;obtain⟨At,ct,rfl,-⟩:=Lies.mk_iff.1 m;clear m hv;go_enter func190,ntmps190;go_wp2_with fail;generalize d:aN (aN j _) _=C;obtain⟨f,br,S⟩:=sE d.symm hN;have F:=hdq (S);have X:=xr C;have Q:=F.out _ X.off;clear S hN d;refine(y15 _ 6 0).mono ?_;rintro e z ⟨rfl,e⟩;replace X:=X.trans e;replace Q:=F.out _ X.off;go_wp2_with fail;generalize d:aN z _=B;obtain⟨i,e⟩:=nb d;replace F:=hdq (both (rb F.out (X.trans e)) (U9 i (X.ne br)));replace X:=X.trans e;replace br:=X.blk br;replace f:=f.trans X;replace X:=xr B;replace Q:=F.out _ X.off;clear d i e;refine(rv _ 1 p.out (by omega) (by omega) _ _ Q.1.1 _ (o.out _ (f.trans X))).mono ?_;rintro e I ⟨u,rfl,a,e⟩;replace X:=X.trans e;replace Q:=F.out _ X.off;obtain⟨_,_,_,_,_,rfl⟩:=a.three;go_wp2_with fail;refine(y15 _ 1 0).mono ?_;rintro e Z ⟨rfl,e⟩;replace a:=a.later e;replace X:=X.trans e;replace Q:=F.out _ X.off;go_wp2_with fail;obtain⟨e,c⟩:=k7 25 a (F5 _ _ 1 0) Q.1.1;replace X:=X.trans e;replace Q:=F.out _ X.off;refine(Ra 5 Q.1.1 c rfl).mono ?_;rintro e q ⟨H,J,rfl,l,e⟩;replace X:=X.trans e;replace Q:=F.out _ X.off;clear c;go_wp2_with fail;generalize d:aN q _=A;obtain⟨i,e⟩:=nb d;replace F:=hdq (both (rb F.out (X.trans e)) (both (U9 i (X.ne br)) (l.up e)));replace X:=X.trans e;replace br:=X.blk br;replace f:=f.trans X;replace X:=xr A;replace Q:=F.out _ X.off;clear d i e;clear a l;refine(rv _ 2 p.out (by omega) (by omega) _ _ Q.1.1.1 _ (o.out _ (f.trans X))).mono ?_;rintro e L ⟨u,rfl,a,e⟩;replace X:=X.trans e;replace Q:=F.out _ X.off;obtain⟨_,_,_,_,_,rfl⟩:=a.three;go_wp2_with fail;refine(y15 _ 1 1).mono ?_;rintro e M ⟨rfl,e⟩;replace a:=a.later e;replace X:=X.trans e;replace Q:=F.out _ X.off;go_wp2_with fail;obtain⟨e,c⟩:=Tc 25 (F5 _ _ 1 1) Q.1.1.1;replace a:=a.later e;replace X:=X.trans e;replace Q:=F.out _ X.off;refine(Ra 8 Q.1.1.1 c rfl).mono ?_;rintro e G ⟨U,T,rfl,l,e⟩;replace a:=a.later e;replace X:=X.trans e;replace Q:=F.out _ X.off;clear c;go_wp2_with fail;obtain⟨e,c⟩:=k7 25 a l Q.1.1.1;replace X:=X.trans e;replace Q:=F.out _ X.off;refine(Ra 5 Q.1.1.1 c rfl).mono ?_;rintro e y ⟨O,r,rfl,hc,e⟩;replace X:=X.trans e;replace Q:=F.out _ X.off;clear c;go_wp2_with fail;generalize d:aN y _=D;obtain⟨i,e⟩:=nb d;replace F:=hdq (both (rb F.out (X.trans e)) (both (U9 i (X.ne br)) (hc.up e)));replace X:=X.trans e;replace br:=X.blk br;replace f:=f.trans X;replace X:=xr D;replace Q:=F.out _ X.off;clear d i e;clear a l hc;refine rgn (j.heap.size+1) (by kernel_rfl) X ?_;replace X:=X.drew;refine W2 [0,1,2] 5 (by kernel_rfl) X.off (fun _ _ _ _ _ h=> h) ?_
 iterate 3 (refine tk rfl (by rfl) (by intro w X;have Q:=F.out _ X;go_simp;(try with_reducible rfl)) ?_;try simp only[I3])
 replace Q:=F.out _ X.off;refine H0 3 (by kernel_rfl) rfl rfl (fun K hK=> ?_)
 go_simp
 obtain⟨e,c⟩:=k7 25 Q.1.2.2 Q.2.2 Q.1.1.1.1;replace X:=X.trans e;replace Q:=F.out _ X.off;refine hK.out _ _ X.off (fun _=> ?_);clear hK K;refine H0 4 (by kernel_rfl) rfl rfl (fun K hK=> ?_)
 go_simp
 go_at_call 60
 refine(Ra 3 Q.1.1.1.1 c rfl).mono ?_;rintro e V ⟨P,E,rfl,hx,e⟩;replace X:=X.trans e;replace Q:=F.out _ X.off;refine hK.out _ _ X.off (fun _=> ?_);clear hK K;refine H0 5 (by kernel_rfl) rfl rfl (fun K hK=> ?_)
 go_simp
 obtain⟨e,c⟩:=k7 25 (F5 _ _ 6 0) hx Q.1.1.1.1;replace X:=X.trans e;replace Q:=F.out _ X.off;refine hK.out _ _ X.off (fun _=> ?_);clear hK K;refine H0 6 (by kernel_rfl) rfl rfl (fun K hK=> ?_)
 go_simp
 go_at_call 60
 refine(Ra 3 Q.1.1.1.1 c rfl).mono ?_;rintro e xa ⟨A6,Y,rfl,s,e⟩;replace X:=X.trans e;replace Q:=F.out _ X.off;refine hK.out _ _ X.off (fun _=> ?_);clear hK K;have R:=cbn (X.blk br);refine H0 7 (by kernel_rfl) rfl rfl (fun K hK=> ?_)
 go_simp
 refine hK.out _ _ (X.off.set3 _ _ _) (fun _=> ?_);clear hK K;refine bP (by kernel_rfl) ?_ _;go_wp2_with fail;exact bodyPost_ret (v:= .agg #[.int .i64 3,.int .i64 0,.slice _ _ _]) (by simp[aQ,results190,go_sem,R]) rfl ⟨_,rfl,s.ret _ _ _,(f.trans X).set3 (aP _) _ _ _⟩
theorem OF:(prog.info? 25).map (fun i=>(i.zero,i.size,i.bytes))=some (some (.agg #[.int .i64 0,.int .i64 0,.slice none 0 0]),3,40):=by kernel_rfl
theorem rI{P:Program}(w:aK){o:Oper}{a:Act}{K:Act->aK->Prop}{Q:Exit->Act->aK->Prop}(s x:Operand)(t:TypeId)
 (R:o.op= .call {callee:= .builtin .append,args:=#[s,x],argTypes:=#[t,t]})
 (e:TypeId) (i:TypeInfo) (z:aS) (ht:P.underlying t=some (.slice e)) (hi:P.info? e=some i) (L:i.zero=some z) (l:i.size=3) (D:i.bytes=40) (C:z.cells.size=3)
 {W:aK} {v:aS} {A:Option Addr} {cap:Nat} {ks:List Tr} (hs:a.eval s=v) (d:w.ownsRow W.heap.size e 3 v 0 []) (q:Ext W w) (hx:a.eval x= .slice A ks.length cap) (X:A=none->cap=0) {S:Nat->Prop} (hS: ∀b,S b->b < W.heap.size) (hK:InK w S A ks) (hn:ks.length<=1048576)
 (h: ∀f w' c,w'.ownsRow W.heap.size e 3 f ks.length c->W0 w' S c ks->Ext W w'->(∀b,b < w.heap.size->v.ownBlock≠some b->w'.heap[b]? =w.heap[b]?)->K (a.put o.dst f) w'):o.wp P a w K Q:=by
 have fin: ∀f w' c,(Builtin.append_ #[t,t] o.type #[v,.slice A ks.length cap]).run P w= .ok f w'->w'.ownsRow W.heap.size e 3 f ks.length c->W0 w' S c ks->Ext W w'->(∀b,b < w.heap.size->v.ownBlock≠some b->w'.heap[b]? =w.heap[b]?)->o.wp P a w K Q:=by
  intro f w' c hr M U V O;unfold Oper.wp execOp;simp only[R,resolve,invoke,builtin,Sem.run_bind,Sem.run_pure,Result.andThen_ok,List.map_toArray,List.map_cons,List.map_nil,hs,hx,hr];exact h f w' c M U V O
 have I: ∀(m:Addr) (c:List aS),A=some m->c.length=ks.length*3->(∀j u,c[j]? =some u->w.cell? (m.add j)=some u)->(∀u∈c,u.oneCell'=true)->W0 w S c ks->o.wp P a w K Q:=by
  rintro m c rfl r y G F;obtain⟨f,w',hr,H,J,Z⟩:=Mn (P:=P) w W.heap.size t o.type e i z 3 40 ht hi L l D C (by decide) v 0 [] d m ks.length cap c r y G (by unfold maxLen;omega) (by omega) q.size;have hx:=q.grown J (fun k hk=>(d.lt k hk).1);rw[Nat.zero_add,List.nil_append] at H;exact fin f w' c hr H (F.mono (fun _ n=> n) (fun b n=>(hx.heap b (hS b n)).trans (q.heap b (hS b n)).symm)) hx (fun b n E=> J.block b n (fun h=> E h.symm))
 cases A with
 |none=>
  obtain rfl:=X rfl;have p:ks= []:=by
   rcases hK with h|⟨b,o,h,_⟩
   · exact h
   · cases h
  subst p;exact fin v w [] (run_append_owned_none (P:=P) w W.heap.size t o.type e i 3 ht hi v 0 [] d) d W0.nil q (fun _ _ _=> rfl)
 |some m=>
  rcases hK with rfl|⟨b,Y,B,T,hl⟩
  · exact I m [] rfl rfl (fun _ _ h=> by cases h) (fun _ h=> by cases h) W0.nil
  · obtain rfl:=bZ B
    obtain⟨c,r,y,G,F⟩:=hl.rowL;exact I _ c rfl r (fun j u N=> by rw[Addr.add_lit];exact y j u N) G F
theorem FE{G:List Tr}{A:Option Addr}{ca:Nat}(p:aK)(N:Nat->Prop)(hJ:SJ p N A G ca)(et:G.length<=20)(t:Tr)(Ch:j0 m0 t=true)(v:aS)(ht:InT p N t v):
 aV prog 186 #[.slice A G.length ca,v] p fun e w'=> ∃B c,e= .returned (.slice B (G.length+1) c)/\SJ w' N B (G++ [t]) c/\Ext p w':=by
 obtain⟨k,n,ks⟩:=t;have Ha:=hdq Ch;clear Ch;obtain⟨At,ct,rfl,-⟩:=InT.mk_iff.1 ht;obtain⟨i0,hi,E,D,z⟩:=fM OF;have HT:=hdq ht.bound;have y:=hdq hJ;have l:=(xr p).alloc (.cells #[.int .i64 k,.int .i64 n,.slice At ks.length ct] 25);have B1:=aR p (.cells #[.int .i64 k,.int .i64 n,.slice At ks.length ct] 25);obtain⟨d,d9⟩: ∃x,x=p.alloc (.cells #[.int .i64 k,.int .i64 n,.slice At ks.length ct] 25):=⟨_,rfl⟩;rw[<-d9] at l B1;clear ht hJ;go_enter func186,ntmps186;go_wp2_with fail;rw[<-d9];clear d9;have X:Ext d d.drew:=(xr d).drew;have Z1:=cb3 B1;have F:=hdq (show∀w',Ext d w'->w'.cell? ⟨p.heap.size,0,none⟩=some (.int .i64 k)/\w'.cell? ⟨p.heap.size,1,none⟩=some (.int .i64 n)/\w'.cell? ⟨p.heap.size,2,none⟩=some (.slice At ks.length ct) from fun w' h=>⟨h.cell Z1.1,h.cell Z1.2.1,h.cell Z1.2.2.1⟩);have Gy:=hdq (show∀w',Ext d w'->InK w' (fun b=> N b/\b < p.heap.size) A G from fun w' h=> InK.mono (fun _ a=> a) (fun b a=>(l.trans h).heap b a.2) y.out.hG.bound);have M:=hdq (show∀b,N b/\b < p.heap.size->b < d.heap.size from fun b a=> by have:=l.size;omega);clear Z1 B1;refine wp_region_held_drew (S:=fun w'=> w'.cell? ⟨p.heap.size,0,none⟩=some (.int .i64 k)/\w'.cell? ⟨p.heap.size,1,none⟩=some (.int .i64 n)/\w'.cell? ⟨p.heap.size,2,none⟩=some (.slice At ks.length ct)) (by kernel_rfl) (F.out _ X) (fun _=> ?_);refine gS (i:=1) (v:= ?v1) rfl (by kernel_rfl) (by kernel_rfl) (by kernel_rfl) (fun _ _ _ h=> h) (Or.inl ⟨by rfl, ?hy1⟩) (by assumption) ?rest1
 case hy1=>(intro w j;(try dsimp only at j);go_simp;(try with_reducible rfl))
 try simp only[eQ,bU,bO,bN,aT,bM,bL]
 refine gS (i:=3) (v:= ?v3) rfl (by kernel_rfl) (by kernel_rfl) (by kernel_rfl) (fun _ _ _ h=> h) (Or.inl ⟨by rfl, ?hy3⟩) (by assumption) ?rest3
 case hy3=>(intro w j;(try dsimp only at j);go_simp;(try with_reducible rfl))
 try simp only[eQ,bU,bO,bN,aT,bM,bL]
 refine fO (rs:= [0,4]) (by kernel_rfl) (by simp) ?_;refine dS rfl (fun K hK=> ?_) (dS rfl (fun K hK=> ?_) eW)
 ·
  go_simp
  refine hK.out _ _ (F.out _ (X.alloc _)) (fun f=> ?_);clear hK K
  try simp only[eQ,bU,bO,bN,aT,bM,bL]
  have XA:Ext d (d.drew.alloc (.cells #[] 25)):=X.alloc _;have OA:(d.drew.alloc (.cells #[] 25)).ownsRow d.drew.heap.size 25 3 (.slice (some ⟨d.drew.heap.size,0,none⟩) 0 0) 0 []:=fL (size:=3) d.drew #[] 0 (aM _) (Nat.zero_le _) rfl;refine fO (rs:= [2,4]) (by kernel_rfl) (by simp) ?_;refine dS rfl (fun K hK=> ?_) (dS rfl (fun K hK=> ?_) eW)
  · refine rI _ (.tmp 5) (.tmp 6) _ (by rfl) 25 i0 _ underlying23 hi E D z (W:=d.drew) rfl (by rfl) OA ((xr _).alloc _) (by rfl) y.out.hA M.out (Gy.out _ XA) (by omega) ?_
    intro v2 w2 xs hO O hx2 q;have C:=X.trans hx2;refine hK.out _ _ (F.out _ C) (fun f=> ?_);clear hK K
    try simp only[eQ,bU,bO,bN,aT,bM,bL]
    refine fO (rs:= [4]) (by kernel_rfl) (by simp) ?_;refine dS rfl (fun K hK=> ?_) eW
    go_simp
    refine hK.out _ _ (F.out _ (C.alloc _)) (fun f=> ?_);clear hK K
    try simp only[eQ,bU,bO,bN,aT,bM,bL]
    have u:=aR w2 (.cells #[.int .i64 k,.int .i64 n,.slice At ks.length ct] 25);have s:=(World.ownsRow.alloc hO (.cells #[.int .i64 k,.int .i64 n,.slice At ks.length ct] 25));have R:=(O.mono (fun _ a=> a) (fun b a=> Below.heap_alloc w2 (.cells #[.int .i64 k,.int .i64 n,.slice At ks.length ct] 25) b (aX (M.out b a) C.size)));have r:Ext d _:=C.alloc (.cells #[.int .i64 k,.int .i64 n,.slice At ks.length ct] 25);have m:=r.size;have T:i9 (fun b=> b < d.heap.size/\ ¬N b) d _ 25 v2 G:=⟨xs,s,W0.mono (fun b a=>⟨aX (M.out b a) m,fun e=> iW _ (aX (M.out b a) (s.lt b e).1),fun e=> e.2 a.1⟩) (fun _ _=> rfl) R⟩;clear hO O hx2 q C R m;refine fO (rs:= [5]) (by kernel_rfl) (by simp) ?_;refine dS rfl (fun K hK=> ?_) eW;have U:=l.trans r;refine Uu _ (.tmp 7) (.tmp 9) _ (by rfl) 25 i0 _ underlying23 hi E D z rfl (by rfl) T r.size (tr:= .mk k n ks) (InT.mono (fun b a=>⟨by have:=a.2;have:=U.size;omega,fun e=> iW _ (aX (aX a.2 l.size) (s.lt b e).1),fun e=> e.2 a.1⟩) (fun b a=> U.heap b a.2) HT.out) (by rfl) u (by omega) ?_ (fun b a=> a.1);intro v5 L Q V;have I:Ext d L:=Ext.trans' r V (aM _);refine hK.out _ _ (F.out _ I) (fun f=> ?_);clear hK K;obtain⟨H,Z,rfl,q1,Y,P,-⟩:=Q.lies (fun b a=> a.1);have J:InK L N H (G++ [.mk k n ks]):=InK.mono (fun b a=> by
     by_cases e:N b
     · exact e
     · exact y.out.hN b (by have:=l.size;exact bK this (Nat.not_lt.1 fun h=> a.2 ⟨h,e⟩))) (fun _ _=> rfl) P
    have HQ:=hdq (show SJ L N H (G++ [.mk k n ks]) Z from⟨fun b a=> y.out.hN b (by have:=(l.trans I).size;omega),q1,Y,J,by rw[cL,cO];omega,fun h=> by
     subst h;rcases J with h|⟨b,o,h,-⟩
     · simp at h
     · exact absurd h (by simp),fun x hx=>(List.mem_append.1 hx).elim (y.out.hv x) fun e=>(List.mem_singleton.1 e)▸Ha.out⟩)
    rw[cL,cO] at*;clear J P Q V T q1 Y s
    try simp only[eQ,bU,bO,bN,aT,bM,bL]
    refine gS (i:=6) (v:= ?vc6_1) rfl (by kernel_rfl) (by kernel_rfl) (by kernel_rfl) (fun _ _ _ h=> h) (Or.inl ⟨by rfl, ?hyc6_1⟩) (by assumption) ?restc6_1
    case hyc6_1=>(intro w j;(try dsimp only at j);go_simp;(try with_reducible rfl))
    try simp only[eQ,bU,bO,bN,aT,bM,bL]
    refine bP (by kernel_rfl) ?_ _;go_wp2_with fail;go_ret;exact⟨H,Z,rfl,HQ.out,l.trans I⟩
  · go_simp
    refine hK.out _ _ (F.out _ (XA.alloc _)) (fun f=> ?_);clear hK K
    try simp only[eQ,bU,bO,bN,aT,bM,bL]
    have u:=aR (d.drew.alloc (.cells #[] 25)) (.cells #[.int .i64 k,.int .i64 n,.slice At ks.length ct] 25);refine fO (rs:= [2]) (by kernel_rfl) (by simp) ?_;refine dS rfl (fun K hK=> ?_) eW;refine rI _ (.tmp 5) (.tmp 6) _ (by rfl) 25 i0 _ underlying23 hi E D z (W:=d.drew) rfl (by rfl) (OA.alloc _) (((xr _).alloc _).alloc _) (by rfl) y.out.hA M.out (Gy.out _ (XA.alloc _)) (by omega) ?_;intro v2 w2 xs hO O hx2 q;have C:=X.trans hx2;have h4:=(q _ (O1 u) (by simp[Value.ownBlock])).trans u;clear u;refine hK.out _ _ (F.out _ C) (fun f=> ?_);clear hK K
    try simp only[eQ,bU,bO,bN,aT,bM,bL]
    have u:=h4;have s:=hO;have R:=O;have r:Ext d _:=C;have m:=r.size;have T:i9 (fun b=> b < d.heap.size/\ ¬N b) d _ 25 v2 G:=⟨xs,s,W0.mono (fun b a=>⟨aX (M.out b a) m,fun e=> iW _ (aX (M.out b a) (s.lt b e).1),fun e=> e.2 a.1⟩) (fun _ _=> rfl) R⟩;clear hO O hx2 q C R m;rw[show(d.drew.alloc (.cells #[] 25)).heap.size=d.heap.size+1 from dU ..] at u;refine fO (rs:= [5]) (by kernel_rfl) (by simp) ?_;refine dS rfl (fun K hK=> ?_) eW;have U:=l.trans r;refine Uu _ (.tmp 7) (.tmp 9) _ (by rfl) 25 i0 _ underlying23 hi E D z rfl (by rfl) T r.size (tr:= .mk k n ks) (InT.mono (fun b a=>⟨by have:=a.2;have:=U.size;omega,fun e=> iW _ (aX (aX a.2 l.size) (s.lt b e).1),fun e=> e.2 a.1⟩) (fun b a=> U.heap b a.2) HT.out) (by rfl) u (by omega) ?_ (fun b a=> a.1);intro v5 L Q V;have I:Ext d L:=Ext.trans' r V (aM _);refine hK.out _ _ (F.out _ I) (fun f=> ?_);clear hK K;obtain⟨H,Z,rfl,q1,Y,P,-⟩:=Q.lies (fun b a=> a.1);have J:InK L N H (G++ [.mk k n ks]):=InK.mono (fun b a=> by
     by_cases e:N b
     · exact e
     · exact y.out.hN b (by have:=l.size;exact bK this (Nat.not_lt.1 fun h=> a.2 ⟨h,e⟩))) (fun _ _=> rfl) P
    have HQ:=hdq (show SJ L N H (G++ [.mk k n ks]) Z from⟨fun b a=> y.out.hN b (by have:=(l.trans I).size;omega),q1,Y,J,by rw[cL,cO];omega,fun h=> by
     subst h;rcases J with h|⟨b,o,h,-⟩
     · simp at h
     · exact absurd h (by simp),fun x hx=>(List.mem_append.1 hx).elim (y.out.hv x) fun e=>(List.mem_singleton.1 e)▸Ha.out⟩)
    rw[cL,cO] at*;clear J P Q V T q1 Y s
    try simp only[eQ,bU,bO,bN,aT,bM,bL]
    refine gS (i:=6) (v:= ?vc6_2) rfl (by kernel_rfl) (by kernel_rfl) (by kernel_rfl) (fun _ _ _ h=> h) (Or.inl ⟨by rfl, ?hyc6_2⟩) (by assumption) ?restc6_2
    case hyc6_2=>(intro w j;(try dsimp only at j);go_simp;(try with_reducible rfl))
    try simp only[eQ,bU,bO,bN,aT,bM,bL]
    refine bP (by kernel_rfl) ?_ _;go_wp2_with fail;go_ret;exact⟨H,Z,rfl,HQ.out,l.trans I⟩
 · go_simp
   refine hK.out _ _ (F.out _ (X.alloc _)) (fun f=> ?_);clear hK K
   try simp only[eQ,bU,bO,bN,aT,bM,bL]
   have XB:Ext d (d.drew.alloc (.cells #[.int .i64 k,.int .i64 n,.slice At ks.length ct] 25)):=X.alloc _;have u:=aR d.drew (.cells #[.int .i64 k,.int .i64 n,.slice At ks.length ct] 25);refine fO (rs:= [0]) (by kernel_rfl) (by simp) ?_;refine dS rfl (fun K hK=> ?_) eW
   go_simp
   refine hK.out _ _ (F.out _ (XB.alloc _)) (fun f=> ?_);clear hK K
   try simp only[eQ,bU,bO,bN,aT,bM,bL]
   have OA:((d.drew.alloc (.cells #[.int .i64 k,.int .i64 n,.slice At ks.length ct] 25)).alloc (.cells #[] 25)).ownsRow d.drew.heap.size 25 3 (.slice (some ⟨d.heap.size+1,0,none⟩) 0 0) 0 []:=by
    have:=fL (base:=d.drew.heap.size) (size:=3) (e:=25) (d.drew.alloc (.cells #[.int .i64 k,.int .i64 n,.slice At ks.length ct] 25)) #[] 0 ((xr d.drew).alloc (.cells #[.int .i64 k,.int .i64 n,.slice At ks.length ct] 25)).size (Nat.zero_le _) rfl
    rwa [show(d.drew.alloc (.cells #[.int .i64 k,.int .i64 n,.slice At ks.length ct] 25)).heap.size=d.heap.size+1 from dU ..] at this
   refine fO (rs:= [2]) (by kernel_rfl) (by simp) ?_;refine dS rfl (fun K hK=> ?_) eW;refine rI _ (.tmp 5) (.tmp 6) _ (by rfl) 25 i0 _ underlying23 hi E D z (W:=d.drew) rfl (by rfl) OA (((xr _).alloc _).alloc _) (by rfl) y.out.hA M.out (Gy.out _ (XB.alloc _)) (by omega) ?_;intro v2 w2 xs hO O hx2 q;have C:=X.trans hx2;have h4:=(q _ (O1 (((xr (d.drew.alloc (.cells #[.int .i64 k,.int .i64 n,.slice At ks.length ct] 25))).alloc (.cells #[] 25)).blk u)) (by show some (d.heap.size+1)≠some d.heap.size;simp)).trans (((xr (d.drew.alloc (.cells #[.int .i64 k,.int .i64 n,.slice At ks.length ct] 25))).alloc (.cells #[] 25)).blk u);clear u;refine hK.out _ _ (F.out _ C) (fun f=> ?_);clear hK K
   try simp only[eQ,bU,bO,bN,aT,bM,bL]
   have u:=h4;have s:=hO;have R:=O;have r:Ext d _:=C;have m:=r.size;have T:i9 (fun b=> b < d.heap.size/\ ¬N b) d _ 25 v2 G:=⟨xs,s,W0.mono (fun b a=>⟨aX (M.out b a) m,fun e=> iW _ (aX (M.out b a) (s.lt b e).1),fun e=> e.2 a.1⟩) (fun _ _=> rfl) R⟩;clear hO O hx2 q C R m;refine fO (rs:= [5]) (by kernel_rfl) (by simp) ?_;refine dS rfl (fun K hK=> ?_) eW;have U:=l.trans r;refine Uu _ (.tmp 7) (.tmp 9) _ (by rfl) 25 i0 _ underlying23 hi E D z rfl (by rfl) T r.size (tr:= .mk k n ks) (InT.mono (fun b a=>⟨by have:=a.2;have:=U.size;omega,fun e=> iW _ (aX (aX a.2 l.size) (s.lt b e).1),fun e=> e.2 a.1⟩) (fun b a=> U.heap b a.2) HT.out) (by rfl) u (by omega) ?_ (fun b a=> a.1);intro v5 L Q V;have I:Ext d L:=Ext.trans' r V (aM _);refine hK.out _ _ (F.out _ I) (fun f=> ?_);clear hK K;obtain⟨H,Z,rfl,q1,Y,P,-⟩:=Q.lies (fun b a=> a.1);have J:InK L N H (G++ [.mk k n ks]):=InK.mono (fun b a=> by
    by_cases e:N b
    · exact e
    · exact y.out.hN b (by have:=l.size;exact bK this (Nat.not_lt.1 fun h=> a.2 ⟨h,e⟩))) (fun _ _=> rfl) P
   have HQ:=hdq (show SJ L N H (G++ [.mk k n ks]) Z from⟨fun b a=> y.out.hN b (by have:=(l.trans I).size;omega),q1,Y,J,by rw[cL,cO];omega,fun h=> by
    subst h;rcases J with h|⟨b,o,h,-⟩
    · simp at h
    · exact absurd h (by simp),fun x hx=>(List.mem_append.1 hx).elim (y.out.hv x) fun e=>(List.mem_singleton.1 e)▸Ha.out⟩)
   rw[cL,cO] at*;clear J P Q V T q1 Y s
   try simp only[eQ,bU,bO,bN,aT,bM,bL]
   refine gS (i:=6) (v:= ?vc6_3) rfl (by kernel_rfl) (by kernel_rfl) (by kernel_rfl) (fun _ _ _ h=> h) (Or.inl ⟨by rfl, ?hyc6_3⟩) (by assumption) ?restc6_3
   case hyc6_3=>(intro w j;(try dsimp only at j);go_simp;(try with_reducible rfl))
   try simp only[eQ,bU,bO,bN,aT,bM,bL]
   refine bP (by kernel_rfl) ?_ _;go_wp2_with fail;go_ret;exact⟨H,Z,rfl,HQ.out,l.trans I⟩
theorem KD{T:Tr}{F:Tr->An}{r:Tr×Int}(h:thn (some (d4 T 13)) F=some r): ∃X d,Sa T=(X,d)/\(d≠0->r=(E2,d))/\(d=0->X.kind≠13->r=(E2,1))/\(d=0->X.kind=13->F X=some r/\X.kids.length=2/\j0 m0 X=true):=by
 obtain⟨s,c,i,l,f⟩:=Xd h;obtain⟨X,d,a,b,m⟩:=Mx (bZ i);refine⟨X,d,a,fun hd=> ?_,fun hd hk=> ?_,fun hd hk=> ?_⟩
 · obtain⟨rfl,rfl⟩:=Prod.mk.inj (m hd)
   exact f hd
 · obtain⟨rfl,rfl⟩:=Prod.mk.inj ((b hd).2 hk)
   exact f (by decide)
 · obtain⟨rfl,rfl⟩:=Prod.mk.inj ((b hd).1 hk)
   refine⟨l rfl, ?_⟩;subst hd;have j:d7 T 200=(s,0):=by
    unfold Sa at a
    split at a
    · exact absurd (Prod.mk.inj a).2 (by decide)
    · obtain⟨o,-⟩:=Prod.mk.inj a
      exact Prod.ext o (Decidable.of_not_not ‹¬_›)
   obtain⟨-,-,-,hv⟩:=Qw j;refine⟨?_,hv⟩;obtain⟨k,n,ks⟩:=s;have e:(ks.length:Int)=O0 k:=(Z4 (Z3 hv).1).1.symm;simp only[Tr.kind] at hk;subst hk;have:O0 13=2:=rfl;simp only[Tr.kids];omega
theorem MD{T:Tr}{F:Tr->An}{r:Tr×Int}(h:thn (some (d4 T 13)) F=some r): ∃k n ks d,Hid (Sa T=(.mk k n ks,d))/\Hid (d≠0->r=(E2,d))/\Hid (d=0->k≠13->r=(E2,1))/\Hid (d=0->k=13->F (.mk k n ks)=some r/\ks.length=2/\j0 m0 (.mk k n ks)=true):=by
 obtain⟨⟨k,n,ks⟩,c,b,e,f,a⟩:=KD h;exact⟨k,n,ks,c,hdq b,hdq e,hdq f,hdq a⟩
theorem WE{f:Nat}(I:k9 f){G:List Tr}{A:Option Addr}{ca:Nat}(p:aK)(N:Nat->Prop)(L:SJ p N A G ca)(k n:Int)(ks:List Tr)(H:ks.length=3)(D1:j0 m0 (kd ks 1)=true)(v:aS)(hT:InT p N (.mk k n ks) v)(ty:Nat->An)(h0:ty 0=M0 f G (kd ks 0))(h1:ty 1=M0 f G (kd ks 1))(T:ty 2=M0 f G (kd ks 2))(r:Tr×Int)(h:Ro ty (kd ks 0) (kd ks 1)=some r):aV prog 168 #[.slice A G.length ca,v] p (Qg N p r):=by
 unfold Ro at h;rw[h0,h1,T] at h;obtain⟨s,c,x,q,y⟩:=k8 h;clear h h0 h1 T;have nc:=hdq D1;clear D1;obtain⟨At,ct,rfl,-,l8,hK⟩:=InT.mk_iff.1 hT;obtain⟨b,o,rfl,-,⟨O3,N6,O6,O7,O9,P⟩,⟨ax,Y7,Y6,Z2,aa,Z⟩,mh,ma,ml,mg,mj,K2⟩:=y20 hK H;rw[H];clear hT hK H;go_enter func168,ntmps168;go_wp2_with fail;generalize z:aN (aN p _) _=w1;obtain⟨j,br,S⟩:=Yd z.symm L;have F:=hdq (both S (both (P.up j (aP _)) (both (Z.up j (aP _)) (K2.up j (aP _)))));have X:=xr w1;have Q:=F.out _ X.off;clear S L z P Z K2;refine(Tt I _ _ Q.1.1 _ _ Q.2.1.i _ x.out).mono ?_;rintro e w2 ⟨rfl,e⟩;replace X:=X.trans e;replace Q:=F.out _ X.off;simp only;obtain⟨a,t⟩ |rfl:=cz c
 · have R:=cbn (X.blk br)
   go_wp2_with fail;exact Zf (by simp[aQ,results168,go_sem,R]) (y.out a.out) a.out ((j.trans X).set3 (aP _) _ _ _) rfl
 obtain⟨kx,nx,gy,d,B,C,D,O⟩:=MD (q.out rfl);clear x q y;go_wp2_with fail;refine(Qj B.out _ _ Q.1.1.hN _ Q.2.1.l).mono ?_;rintro e w3 ⟨A1,c1,rfl,-,hK,e⟩;replace X:=X.trans e;replace Q:=F.out _ X.off;simp only;obtain⟨a,t⟩ |rfl:=cz d
 · have R:=cbn (X.blk br)
   have E:=fun o=> cbn ((X.alloc o).blk br)
   go_wp2_with fail;exact Zf (by simp[aQ,results168,go_sem,R,E]) (C.out a.out) a.out (((j.trans X).alloc _).set3 (aP _) _ _ _) rfl
 obtain⟨a,t⟩ |rfl:=czk kx 13
 · have R:=cbn (X.blk br)
   have E:=fun o=> cbn ((X.alloc o).blk br)
   go_wp2_with fail;exact Zf (by simp[aQ,results168,go_sem,R,E]) (D.out (by trivial) a.out) (by decide) (((j.trans X).alloc _).set3 (aP _) _ _ _) rfl
 obtain⟨Y,m,hv⟩:=O.out rfl rfl;have Y3:=hdq (show j0 m0 (kd gy 1)=true from Cd hv (i:=1) (by simp only[Tr.kids];omega));clear B C D O hv;obtain⟨c,x,q,y⟩:=Mc Y;clear Y;obtain⟨b2,o2,rfl,J,⟨ul,sk,si,ui,un,M⟩,f11,f12,f13,f14,f15,V⟩:=q17 hK m;rw[m];clear hK m;go_wp2_with fail;generalize z:aN w3 _=w4;obtain⟨U,e⟩:=nb z;replace F:=hdq (both (rb F.out (X.trans e)) (both (U9 U (X.ne br)) (both (M.fm J e) (V.fm J e))));replace X:=X.trans e;replace br:=X.blk br;replace j:=j.trans X;replace X:=xr w4;replace Q:=F.out _ X.off;clear z U e;clear M V J;refine rgn (p.heap.size+1) (by kernel_rfl) X ?_;replace X:=X.drew;refine W2 [0,1,2,3,4,5,6,7,8] 2 (by kernel_rfl) X.off (fun _ _ _ _ _ h=> h) ?_
 iterate 9 (refine tk rfl (by rfl) (by intro w X;have Q:=F.out _ X;go_simp;(try with_reducible rfl)) ?_;try simp only[I3])
 replace Q:=F.out _ X.off;refine H0 9 (by kernel_rfl) rfl rfl (fun K hK=> ?_)
 go_simp
 go_at_call 116
 refine(cl I _ _ Q.1.1.1 (kd ks 1) _ _ _ Q.1.2.2.1.i Q.2.2.1.l c x.out).mono ?_;rintro e w5 ⟨rfl,e⟩;replace X:=X.trans e;replace Q:=F.out _ X.off;refine hK.out _ _ X.off (fun _=> ?_);clear hK K;refine W2 [10] 0 (by kernel_rfl) X.off (fun _ _ _ _ _ h=> h) ?_;refine tk rfl (by rfl) (by intro w X;go_simp;(try with_reducible rfl)) ?_
 try simp only[I3]
 refine bP (by kernel_rfl) ?_ _;obtain⟨a,t⟩ |rfl:=cz c
 · have R:=cbn (X.blk br)
   go_wp2_with fail;exact Ua (by simp[aQ,results168,go_sem,R]) (Q.1.2.1.i) (Tk (y.out a.out) a.out) (j.trans X) (aP _) rfl
 obtain⟨c,B,C,D⟩:=Mc (q.out rfl);clear x q y;go_wp2_with fail;refine rgn (p.heap.size+1) (by kernel_rfl) X ?_;replace X:=X.drew;refine W2 [0,1,2,3,4,5,6,7,8,9,10,11,12] 3 (by kernel_rfl) X.off (fun _ _ _ _ _ h=> h) ?_
 iterate 13 (refine tk rfl (by rfl) (by intro w X;have Q:=F.out _ X;go_simp;(try with_reducible rfl)) ?_;try simp only[I3])
 replace Q:=F.out _ X.off;refine H0 13 (by kernel_rfl) rfl rfl (fun K hK=> ?_)
 go_simp
 go_at_call 121
 refine(Rs _ _ Y3.out nc.out _ _ Q.1.1.1.hN _ _ Q.2.2.2.l Q.1.2.2.1.l).mono ?_;rintro e w6 ⟨u,rfl,hu,e⟩;replace X:=X.trans e;replace Q:=F.out _ X.off;refine hK.out _ _ X.off (fun _=> ?_);clear hK K;obtain⟨_,_,_,_,_,rfl⟩:=hu.three;refine H0 14 (by kernel_rfl) rfl rfl (fun K hK=> ?_)
 go_simp
 go_at_call 116
 refine(cl I _ _ Q.1.1.1 (kd ks 2) _ _ _ Q.1.2.2.2.i hu.lies' c B.out).mono ?_;rintro e w7 ⟨rfl,e⟩;replace X:=X.trans e;replace Q:=F.out _ X.off;refine hK.out _ _ X.off (fun _=> ?_);clear hK K;refine W2 [15] 0 (by kernel_rfl) X.off (fun _ _ _ _ _ h=> h) ?_;refine tk rfl (by rfl) (by intro w X;go_simp;(try with_reducible rfl)) ?_
 try simp only[I3]
 refine bP (by kernel_rfl) ?_ _;have R:=cbn (X.blk br);go_wp2_with fail;exact Ua (by simp[aQ,results168,go_sem,R]) (Q.1.2.1.i) (Pk C.out D.out) (j.trans X) (aP _) rfl
theorem wE{f:Nat}(Z:k9 f){G:List Tr}{A:Option Addr}{ca:Nat}(d:aK)(N:Nat->Prop)(C:SJ d N A G ca)(k n:Int)(ks:List Tr)(z:ks.length=1)(m:j0 m0 (.mk 15 0 [kd ks 0])=true)(v:aS)(hT:InT d N (.mk k n ks) v)(ty:Nat->An)(M:ty 0=M0 f G (kd ks 0))(r:Tr×Int)(h:bj ty k (kd ks 0)=some r):aV prog 191 #[.slice A G.length ca,v] d (N9 N d r):=by
 unfold bj at h;rw[M] at h;obtain⟨s,c,q,J,L⟩:=k8 h;clear h M;have P:=hdq m;clear m;obtain⟨At,ct,rfl,-,l8,hK⟩:=InT.mk_iff.1 hT;obtain⟨b,o,rfl,-,O3,N6,O6,O7,O9,D⟩:=j15 hK z;rw[z];clear hT hK z;go_enter func191,ntmps191;go_wp2_with fail;generalize p:aN (aN d _) _=w1;obtain⟨j,br,S⟩:=Yd p.symm C;have F:=hdq (both S (D.up j (aP _)));have X:=xr w1;have Q:=F.out _ X.off;clear S C p D;refine(DD Z _ _ Q.1.1 _ _ Q.2.i 13 _ q.out).mono ?_;rintro e V ⟨u,rfl,hT,e⟩;replace X:=X.trans e;replace Q:=F.out _ X.off;simp only at hT⊢;obtain⟨ka,na,I⟩:=s;obtain⟨A1,c1,rfl,-,-,hK⟩:=InT.mk_iff.1 hT;clear hT;obtain⟨HC,t⟩ |rfl:=cz c
 · have R:=cbn (X.blk br)
   have y:=fun o=> cbn ((X.alloc o).blk br)
   go_wp2_with fail;exact ya (by simp[aQ,results191,go_sem,R,y]) (L.out HC.out) (((j.trans X).alloc _).set3 (aP _) _ _ _) rfl
 obtain⟨-,a,hv⟩:=sm q.out;have hr:=bZ (J.out rfl);simp only[Tr.kids] at a hv hr;have a:I.length=2:=by have:O0 13=2:=rfl;omega
 have Y3:=hdq (show j0 m0 (kd I 1)=true from Cd hv (i:=1) (by simp only[Tr.kids];omega));clear q J L hv;obtain⟨b2,o2,rfl,B,⟨ul,sk,si,ui,un,x⟩,T,Y,f13,f14,f15,H⟩:=q17 hK a;rw[a];clear hK a;by_cases hk:k=15
 · rw[if_pos hk] at hr
   have O:(k==15)=true:=by simp[hk]
   clear hk;have R:=cbn (X.blk br);have y:=fun o=> cbn ((X.alloc o).blk br)
   go_wp2_with fail;exact n7 (by simp[aQ,results191,go_sem,R,y]) ((x.i).later ((xr _).alloc _)) (hr.symm) ((j.trans X).alloc _) (aP _) rfl
 rw[if_neg hk] at hr;have O:(k==15)=false:=by simp[hk]
 clear hk;go_wp2_with fail;generalize p:aN V _=w3;obtain⟨E,e⟩:=nb p;replace F:=hdq (both (rb F.out (X.trans e)) (both (U9 E (X.ne br)) (both (x.fm B e) (H.fm B e))));replace X:=X.trans e;replace br:=X.blk br;replace j:=j.trans X;replace X:=xr w3;replace Q:=F.out _ X.off;clear p E e;clear x H B;refine rgn (d.heap.size+1) (by kernel_rfl) X ?_;replace X:=X.drew;refine W2 [0,1,2,3,4,5,6,7] 5 (by kernel_rfl) X.off (fun _ _ _ _ _ h=> h) ?_
 iterate 8 (refine tk rfl (by rfl) (by intro w X;have Q:=F.out _ X;go_simp;(try with_reducible rfl)) ?_;try simp only[I3])
 replace Q:=F.out _ X.off;refine H0 8 (by kernel_rfl) rfl rfl (fun K hK=> ?_)
 go_simp
 obtain⟨e,U⟩:=Tc 25 Q.1.2.i Q.1.1.1.hN;replace X:=X.trans e;replace Q:=F.out _ X.off;refine hK.out _ _ X.off (fun _=> ?_);clear hK K;refine H0 9 (by kernel_rfl) rfl rfl (fun K hK=> ?_)
 go_simp
 go_at_call 60
 refine(Ra 15 Q.1.1.1.hN U rfl).mono ?_;rintro e w4 ⟨A9,c9,rfl,hu,e⟩;replace X:=X.trans e;replace Q:=F.out _ X.off;refine hK.out _ _ X.off (fun _=> ?_);clear hK K;refine H0 10 (by kernel_rfl) rfl rfl (fun K hK=> ?_)
 go_simp
 go_at_call 121
 refine(Rs _ _ Y3.out P.out _ _ Q.1.1.1.hN _ _ Q.2.2.2.l hu.lies').mono ?_;rintro e w5 ⟨u,rfl,hx,e⟩;replace X:=X.trans e;replace Q:=F.out _ X.off;refine hK.out _ _ X.off (fun _=> ?_);clear hK K;obtain⟨_,_,_,_,_,rfl⟩:=hx.three;have R:=cbn (X.blk br);refine H0 11 (by kernel_rfl) rfl rfl (fun K hK=> ?_)
 go_simp
 refine hK.out _ _ (X.off.set3 _ _ _) (fun _=> ?_);clear hK K;refine W2 [12] 0 (by kernel_rfl) (X.off.set3 _ _ _) (fun _ _ _ _ _ h=> h) ?_;refine tk rfl (by rfl) (by intro w X;go_simp;(try with_reducible rfl)) ?_
 try simp only[I3]
 refine bP (by kernel_rfl) ?_ _;go_wp2_with fail;exact n7 (by simp[aQ,results191,go_sem,R]) (hx) (hr.symm) (j.trans X) (aP _) rfl
end Go.Proofs.YtckhbnmfnpolgaaGreat
namespace Go.Proofs.YtckhbnmfnpolgaaGreat
open Go.RowKit
theorem qv{k:Int}{m:Nat}(h:O0 k=(m:Int)):(k=1/\m=0)\/(k=2/\m=0)\/(k=3/\m=2)\/(k=4/\m=2)\/(k=5/\m=2)\/(k=6/\m=0)\/(k=7/\m=0)\/(k=8/\m=1)\/(k=9/\m=4)\/(k=10/\m=3)\/(k=11/\m=1)\/(k=12/\m=3)\/(k=13/\m=2)\/(k=14/\m=3)\/(k=15/\m=1)\/(k=16/\m=1):=by
 by_cases hk:1<=k/\k<=16
 · rcases(by omega:k=1\/k=2\/k=3\/k=4\/k=5\/k=6\/k=7\/k=8\/k=9\/k=10\/k=11\/k=12\/k=13\/k=14\/k=15\/k=16) with rfl|rfl|rfl|rfl|rfl|rfl|rfl|rfl|rfl|rfl|rfl|rfl|rfl|rfl|rfl|rfl
   all_goals(simp[O0] at h⊢;omega)
 · have e:O0 k= -1:=by
    unfold O0
    repeat rw[if_neg (by omega)]
   omega
theorem RH{q:aK}{u p:Nat}{A:Option Addr}{G:List Tr}{At:Option Addr}{ks:List Tr}{ty:Nat->An}(k n:Int)(ca ct:Nat)(a:ks.length<=ct)(b:ct<=maxLen)(d:aK)(N:Nat->Prop)(e:Rb q d N u p A G At ks ty)(f:Tr->An)(B:Ce q A ca G f)(l:j0 m0 (.mk k n ks)=true)(ii: ∀x∈G,j0 m0 x=true)(C:G.length<=ca)(o:ca<=maxLen)(D: ∀i s,i < ks.length->ty i=some (s,0)->j0 m0 s=true)
 (r:Tr×Int) (h:Vb G f ty k n ks=some r):aV prog 107 #[.agg #[.slice A G.length ca,.int .i64 k,.int .i64 n,.slice At ks.length ct,.func (.func 105) #[] #[.pointer (some ⟨u,0,none⟩),.pointer (some ⟨p,0,none⟩)]]] d (N9 N d r):=by
 obtain⟨E,y,z,-⟩:=Z4 (Z3 l).1;have m: ∀i,i < ks.length->j0 m0 (kd ks i)=true:=fun i hi=> Cd (t:= .mk k n ks) l hi
 unfold Vb at h;rcases qv (show O0 k=(ks.length:Int) from E) with⟨rfl,hm⟩ |⟨rfl,hm⟩ |⟨rfl,hm⟩ |⟨rfl,hm⟩ |⟨rfl,hm⟩ |⟨rfl,hm⟩ |⟨rfl,hm⟩ |⟨rfl,hm⟩ |⟨rfl,hm⟩ |⟨rfl,hm⟩ |⟨rfl,hm⟩ |⟨rfl,hm⟩ |⟨rfl,hm⟩ |⟨rfl,hm⟩ |⟨rfl,hm⟩ |⟨rfl,hm⟩
 · exact TD n ca ct a b d N e y z ii C o r (by simpa using h)
 · exact YG n ca ct a b d N e y z r (by simpa using h)
 · exact Un 3 n ca ct a b d N e (by decide) r fun c hc w M j=> by subst hc;exact KB 3 n ca ct a b w M j (by omega) r (by simpa using h)
 · exact Un 4 n ca ct a b d N e (by decide) r fun c hc w M j=> by subst hc;exact IF 4 n ca ct a b w M j f B hm r (by simpa using h)
 · exact yG n ca ct a b d N e hm (m 1 (by omega)) r (by simpa using h)
 · exact LH n ca ct a b d N e r (by simpa using h)
 · exact bI n ca ct a b d N e r (by simpa using h)
 · exact RG n ca ct a b d N e hm r (by simpa using h)
 · exact Un 9 n ca ct a b d N e (by decide) r fun c hc w M j=> by subst hc;exact CI 9 n ca ct a b w M j hm (m 0 (by omega)) r (by simpa using h)
 · exact Un 10 n ca ct a b d N e (by decide) r fun c hc w M j=> by subst hc;exact oI 10 n ca ct a b w M j hm r (by simpa using h)
 · exact jI n ca ct a b d N e f B hm (fun s hs=> D 0 s (by omega) hs) r (by simpa using h)
 · exact Un 12 n ca ct a b d N e (by decide) r fun c hc w M j=> by subst hc;exact YD 12 n ca ct a b w M j hm r (by simpa using h)
 · exact Un 13 n ca ct a b d N e (by decide) r fun c hc w M j=> by subst hc;exact KB 13 n ca ct a b w M j (by omega) r (by simpa using h)
 · exact Un 14 n ca ct a b d N e (by decide) r fun c hc w M j=> by subst hc;exact wG 14 n ca ct a b w M j hm (m 0 (by omega)) (m 1 (by omega)) r (by simpa using h)
 · exact Un 15 n ca ct a b d N e (by decide) r fun c hc w M j=> by subst hc;exact WC 15 n ca ct a b w M j (by decide) hm l r (by simpa using h)
 · exact Un 16 n ca ct a b d N e (by decide) r fun c hc w M j=> by subst hc;exact WC 16 n ca ct a b w M j (by decide) hm l r (by simpa using h)
