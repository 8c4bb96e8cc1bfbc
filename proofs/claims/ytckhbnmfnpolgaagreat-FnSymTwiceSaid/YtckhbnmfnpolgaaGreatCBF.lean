/-
  Lemmas towards the law, 32: Gt, SInfB, SPush, SInfP, InfJ.
-/
import Derived.Test.YtckhbnmfnpolgaaGreatC00
import Derived.Test.YtckhbnmfnpolgaaGreatCBE
open Go renaming World->aL,Value->aT,heap_alloc_new->aS,info_parts->fS,Calls->aX,results->aR,wpAnyH_done->bP,wpAnyH_take->iN,wpAnyH_ready->fQ
open Nat renaming le_trans->bL,le_succ->aQ,le_refl->aN,lt_of_lt_of_le->aY,lt_irrefl->iZ
open Go.World renaming alloc->aO,ownsRow_lit->fR,size_alloc->eM
open Option.some renaming inj->bY
open Go.Act renaming put->eT
open List renaming getElem_toArray->bW,getElem_cons_succ->bR,getElem_cons_zero->bQ,setIfInBounds_toArray->aU,set_cons_zero->bN,set_cons_succ->bM,length_append->cR,length_singleton->cT
open Go.AllReadyH renaming cons->dS,nil->fM
open Go.Proofs.Tryz
set_option linter.all false
set_option maxHeartbeats 8000000
set_option maxRecDepth 100000
namespace Go.Proofs.YtckhbnmfnpolgaaGreat
open Go Go.RowKit
theorem Bk:(prog.info? 25).map (fun i=>(i.zero,i.size,i.bytes))=some (some (M0 0 0 none 0 0),3,40):=by kernel_rfl
def kb(W w:aL)(v:aT)(ks:List Tr):Prop:=T8 (fun b=> b < W.heap.size) W w 25 v ks
section
variable {W w w' : aL} {v : aT} {ks : List Tr} {tr : Tr} {v0 v1 v2 : aT} {g : Nat}
theorem kb.ext(h:kb W w v ks)(e:Ext w w'):kb W w' v ks:=T8.ext h e
theorem kb.on(h:kb W w v ks)(o:D1 [g] w w')(c:g < W.heap.size):kb W w' v ks:=T8.only h o (fun b a=> by rw[List.mem_singleton.1 a];exact c) fun b a=> a
theorem kb.lit(e:Ext W w):kb W (w.alloc (.cells #[] 25)) (.slice (some ⟨w.heap.size,0,none⟩) 0 0) []:=T8.lit (aS w _) e.size
theorem kb.row(h:kb W w v ks): ∃A c,v= .slice A ks.length c/\ks.length<=c/\c<=maxLen/\(A=none->c=0)/\xb W.heap.size w A ks:=by
 have hK:=h.lies (fun b a=> a);obtain⟨l,k,-⟩:=h;obtain⟨A,c,hv,i,j,e,-⟩:=hK;refine⟨A,c,hv,i,j,fun hA=> ?_,InK.mono (fun b a=>⟨by have:=a.2;omega,a.1⟩) (fun _ _=> rfl) e⟩;rcases k.2 with⟨d,-⟩ |⟨q,cap,f,d,-⟩
 · rw[d] at hv
   simp only[Value.slice.injEq] at hv;exact hv.2.2.symm
 · rw[d,hA] at hv
   simp at hv
theorem kb.row'{A:Option Addr}{n c:Nat}(h:kb W w (.slice A n c) ks):n=ks.length/\(n<=c/\c<=maxLen/\(A=none->c=0))/\xb W.heap.size w A ks:=by
 obtain⟨i,f,hv,e,b,d,a⟩:=kb.row h;simp only[Value.slice.injEq] at hv;obtain⟨rfl,rfl,rfl⟩:=hv;exact⟨rfl,⟨e,b,d⟩,a⟩
theorem yH{ops:Array Oper}{rest:List Oper}{o:Oper}{a:Act}{Q:Exit->Act->aL->Prop}{p:Nat}(s x:Operand)(hG:kb W w v ks)(e:Ext w w')(n:Ext W w)(hT:Y1 w.heap.size w' tr (.agg #[v0,v1,v2]))(hn:ks.length < 1000)
 (r:o.op= .call {callee:= .builtin .append,args:=#[s,x],argTypes:=#[23,23]}) (k:o.guard=none) (hs:a.eval s=v) (hx:a.eval x= .slice (some ⟨p,0,none⟩) 1 1) (i:w'.heap[p]? =some (.cells #[v0,v1,v2] 25 (0,0)))
 (h: ∀A c f,kb W f (.slice A (ks++ [tr]).length c) (ks++ [tr])->Below W.heap.size w' f->wpList prog ops Q rest (a.put o.dst (.slice A (ks++ [tr]).length c)) f):wpList prog ops Q (o::rest) a w':=by
 obtain⟨t,hi,j,m,l⟩:=fS Bk;have z:InT w' (fun b=> b < w'.heap.size/\v.ownBlock≠some b/\ ¬b < W.heap.size) tr (.agg #[v0,v1,v2]):=by
  obtain⟨D,y,C⟩:=hG;have:=n.size;exact InT.mono (fun b d=>⟨d.2,fun u=> by have:=(y.lt b u).2;have:=d.1;omega,by have:=d.1;omega⟩) (fun _ _=> rfl) hT
 refine KE _ k s x 23 r 25 t _ underlying23 hi j m l rfl hs (hG.ext e) (bL n.size e.size) z hx i (by omega) (fun B f q hB=> ?_) (fun b d=> d);obtain⟨A,c,rfl,-⟩:=kb.row q;exact h A c f q hB
theorem pK{n:aL}{ops:Array Oper}{o:Oper}{a:Act}{K:Act->aL->Prop}{Q:Exit->Act->aL->Prop}{E:Prop}{q:Nat}(s x:Operand)(hG:kb W w v ks)(d:D1 [g] w n)(u:g < W.heap.size)(e:Ext n w')(H:W.heap.size<=w.heap.size)(hT:Y1 w.heap.size n tr (.agg #[v0,v1,v2]))(hn:ks.length < 1000)
 (y:o.op= .call {callee:= .builtin .append,args:=#[s,x],argTypes:=#[23,23]}) (l:o.guard=none) (hs:a.eval s=v) (hx:a.eval x= .slice (some ⟨q,0,none⟩) 1 1) (j:w'.heap[q]? =some (.cells #[v0,v1,v2] 25 (0,0)))
 (h: ∀A c i,kb W i (.slice A (ks++ [tr]).length c) (ks++ [tr])->Below W.heap.size w' i->K (a.put o.dst (.slice A (ks++ [tr]).length c)) i):if Region.wanted o (yielded ops a.tmps)=true then Oper.wp prog o a w' K Q else E:=by
 obtain⟨B,hi,k,p,m⟩:=fS Bk;have z:=d.size;have t:=e.size;have F:InT w' (fun b=> b < w'.heap.size/\v.ownBlock≠some b/\ ¬b < W.heap.size) tr (.agg #[v0,v1,v2]):=by
  obtain⟨J,D,I⟩:=hG;exact InT.mono (fun b f=>⟨f.2,fun C=> by have:=(D.lt b C).2;have:=f.1;omega,by have:=f.1;omega⟩) (fun _ _=> rfl) (hT.ext e)
 refine aK _ l s x 23 y 25 B _ underlying23 hi k p m rfl hs ((hG.on d u).ext e) (by omega) F hx j (by omega) (fun G i r hB=> ?_) (fun b f=> f);obtain⟨A,c,rfl,-⟩:=kb.row r;exact h A c i r hB
theorem IJ{q:aL}{ops:Array Oper}{rest:List Oper}{o:Oper}{a:Act}{Q:Exit->Act->aL->Prop}{p:Nat}(s x:Operand)(hG:kb W w v ks)(d:D1 [g] w q)(u:g < W.heap.size)(e:Ext q w')(G:W.heap.size<=w.heap.size)(hT:Y1 w.heap.size w' tr (.agg #[v0,v1,v2]))(hn:ks.length < 1000)
 (y:o.op= .call {callee:= .builtin .append,args:=#[s,x],argTypes:=#[23,23]}) (l:o.guard=none) (hs:a.eval s=v) (hx:a.eval x= .slice (some ⟨p,0,none⟩) 1 1) (j:w'.heap[p]? =some (.cells #[v0,v1,v2] 25 (0,0)))
 (h: ∀A c i,kb W i (.slice A (ks++ [tr]).length c) (ks++ [tr])->Below W.heap.size w' i->wpList prog ops Q rest (a.put o.dst (.slice A (ks++ [tr]).length c)) i):wpList prog ops Q (o::rest) a w':=by
 obtain⟨B,hi,k,n,m⟩:=fS Bk;have z:=d.size;have t:=e.size;have E:InT w' (fun b=> b < w'.heap.size/\v.ownBlock≠some b/\ ¬b < W.heap.size) tr (.agg #[v0,v1,v2]):=by
  obtain⟨I,D,H⟩:=hG;exact InT.mono (fun b f=>⟨f.2,fun C=> by have:=(D.lt b C).2;have:=f.1;omega,by have:=f.1;omega⟩) (fun _ _=> rfl) hT
 refine KE _ l s x 23 y 25 B _ underlying23 hi k n m rfl hs ((hG.on d u).ext e) (by omega) E hx j (by omega) (fun F i r hB=> ?_) (fun b f=> f);obtain⟨A,c,rfl,-⟩:=kb.row r;exact h A c i r hB
end
end Go.Proofs.YtckhbnmfnpolgaaGreat
namespace Go.Proofs.YtckhbnmfnpolgaaGreat
open Go.RowKit
attribute [local go_sem ↓] Go.wp_at_zero Go.wp_at_succ
theorem pG{f:Nat}(L:a9 f){G:List Tr}{A:Option Addr}{ca:Nat}(d:aL)(N:Nat->Prop)(E:SJ d N A G ca)(k n:Int)(ks:List Tr)(p:ks.length=2)(Y:j0 D0 (kd ks 1)=true)(v:aT)(hT:InT d N (.mk k n ks) v)(ty:Nat->An)(T:ty 0=Q0 f G (kd ks 0))(M:ty 1=Q0 f G (kd ks 1))(r:Tr×Int)(h:On ty (kd ks 1)=some r):aX prog 164 #[.slice A G.length ca,v] d (q8 N d r):=by
 unfold On at h;rw[T,M] at h;obtain⟨s,c,x,H,V⟩:=a7 h;clear h T M;have rr:=hdq Y;clear Y;obtain⟨At,ct,rfl,-,l8,hK⟩:=InT.mk_iff.1 hT;obtain⟨b,o,rfl,-,⟨O8,Q6,O7,P5,P4,U⟩,ah,bm,aj,dc,df,C⟩:=q17 hK p;rw[p];clear hT hK p;go_enter func164,ntmps164;go_wp2_with fail;generalize m:aO (aO d _) _=w1;obtain⟨j,br,S⟩:=ie m.symm E;have F:=hdq (both S (both (U.up j (aQ _)) (C.up j (aQ _))));have X:=xr w1;have Q:=F.out _ X.off;clear S E m U C;refine(vE L _ _ Q.1.1 _ _ Q.2.1.i 3 _ x.out).mono ?_;rintro e w2 ⟨u,rfl,hT,e⟩;replace X:=X.trans e;replace Q:=F.out _ X.off;simp only at hT⊢;obtain⟨ka,na,B⟩:=s;obtain⟨A1,c1,rfl,-,-,hK⟩:=InT.mk_iff.1 hT;clear hT;obtain⟨q,t⟩ |rfl:=cz c
 · have R:=cbn (X.blk br)
   have R':=fun o=> cbn ((X.alloc o).blk br)
   go_wp2_with fail;exact D9 (by simp[aR,results164,go_sem,R,R']) (V.out q.out) (((j.trans X).alloc _).set3 (aQ _) _ _ _) rfl
 obtain⟨-,a,hv⟩:=vp x.out;have z:=H.out rfl;simp only[Tr.kids] at a hv z;have a:B.length=2:=by have:U0 3=2:=rfl;omega
 have ae:=hdq (show j0 D0 (kd B 1)=true from Vc hv (i:=1) (by simp only[Tr.kids];omega));clear x H V hv;obtain⟨b2,o2,rfl,y,⟨jm,jw,jq,jl,jk,J⟩,f11,f12,f13,f14,f15,I⟩:=q17 hK a;rw[a];clear hK a;obtain⟨c,P,Z,O⟩:=Sc z;clear z;go_wp2_with fail;generalize m:aO w2 _=w3;obtain⟨D,e⟩:=nb m;replace F:=hdq (both (rb F.out (X.trans e)) (both (m7 D (X.ne br)) (both (J.fm y e) (I.fm y e))));replace X:=X.trans e;replace br:=X.blk br;replace j:=j.trans X;replace X:=xr w3;replace Q:=F.out _ X.off;clear m D e;clear J I y;refine rgn (d.heap.size+1) (by kernel_rfl) X ?_;replace X:=X.drew;refine O2 [0,1,2,3,4,5,6,7,8] 2 (by kernel_rfl) X.off (fun _ _ _ _ _ h=> h) ?_
 iterate 9 (refine tk rfl (by rfl) (by intro w X;have Q:=F.out _ X;go_simp;(try with_reducible rfl)) ?_;try simp only[N2])
 replace Q:=F.out _ X.off;refine O0 9 (by kernel_rfl) rfl rfl (fun K hK=> ?_)
 go_simp
 go_at_call 116
 refine(Ml L _ _ Q.1.1.1 (kd ks 1) _ _ _ Q.1.2.2.i Q.2.2.1.l c P.out).mono ?_;rintro e w4 ⟨rfl,e⟩;replace X:=X.trans e;replace Q:=F.out _ X.off;refine hK.out _ _ X.off (fun _=> ?_);clear hK K;refine O2 [10] 0 (by kernel_rfl) X.off (fun _ _ _ _ _ h=> h) ?_;refine tk rfl (by rfl) (by intro w X;go_simp;(try with_reducible rfl)) ?_
 try simp only[N2]
 refine bP (by kernel_rfl) ?_ _;obtain⟨q,t⟩ |rfl:=cz c
 · have R:=cbn (X.blk br)
   go_wp2_with fail;exact D9 (by simp[aR,results164,go_sem,R]) (O.out q.out) ((j.trans X).set3 (aQ _) _ _ _) rfl
 have hr:=bY (Z.out rfl);clear P Z O;go_wp2_with fail;refine rgn (d.heap.size+1) (by kernel_rfl) X ?_;replace X:=X.drew;refine O2 [0,1,2,3,4,5,6,7] 3 (by kernel_rfl) X.off (fun _ _ _ _ _ h=> h) ?_
 iterate 8 (refine tk rfl (by rfl) (by intro w X;have Q:=F.out _ X;go_simp;(try with_reducible rfl)) ?_;try simp only[N2])
 replace Q:=F.out _ X.off;refine O0 8 (by kernel_rfl) rfl rfl (fun K hK=> ?_)
 go_simp
 go_at_call 121
 refine(Gw _ _ ae.out rr.out _ _ Q.1.1.1.hN _ _ Q.2.2.2.l Q.1.2.2.l).mono ?_;rintro e w5 ⟨u,rfl,hx,e⟩;replace X:=X.trans e;replace Q:=F.out _ X.off;refine hK.out _ _ X.off (fun _=> ?_);clear hK K;obtain⟨_,_,_,_,_,rfl⟩:=hx.three;have R:=cbn (X.blk br);refine O0 9 (by kernel_rfl) rfl rfl (fun K hK=> ?_)
 go_simp
 refine hK.out _ _ (X.off.set3 _ _ _) (fun _=> ?_);clear hK K;refine O2 [10] 0 (by kernel_rfl) (X.off.set3 _ _ _) (fun _ _ _ _ _ h=> h) ?_;refine tk rfl (by rfl) (by intro w X;go_simp;(try with_reducible rfl)) ?_
 try simp only[N2]
 refine bP (by kernel_rfl) ?_ _;go_wp2_with fail;exact R6 (by simp[aR,results164,go_sem,R]) (hx) (hr.symm) (j.trans X) (aQ _) rfl
theorem GG{f:Nat}(y:a9 f){G:List Tr}{A:Option Addr}{ca:Nat}(a:aL)(N:Nat->Prop)(C:SJ a N A G ca)(k n:Int)(ks:List Tr)(x:ks.length=3)(v:aT)(hT:InT a N (.mk k n ks) v)(ty:Nat->An)(L:ty 0=Q0 f G (kd ks 0))(H:ty 1=Q0 f G (kd ks 1))(B:ty 2=Q0 f G (kd ks 2))(r:Tr×Int)(h:Oe ty (kd ks 0)=some r):aX prog 166 #[.slice A G.length ca,v] a (Ug N a r):=by
 unfold Oe at h;rw[L,H,B] at h;obtain⟨s,c,q,u,p⟩:=a7 h;clear h L H B;obtain⟨At,ct,rfl,-,l8,hK⟩:=InT.mk_iff.1 hT;obtain⟨b,o,rfl,-,⟨O8,V,O7,Z,P4,M⟩,⟨ah,bm,aj,dc,df,z⟩,pk,oo,ot,po,pg,I⟩:=j19 hK x;rw[x];clear hT hK x;go_enter func166,ntmps166;go_wp2_with fail;generalize E:aO (aO a _) _=U;obtain⟨j,br,S⟩:=ie E.symm C;have F:=hdq (both S (both (M.up j (aQ _)) (both (z.up j (aQ _)) (I.up j (aQ _)))));have X:=xr U;have Q:=F.out _ X.off;clear S C E M z I;refine(wv y _ _ Q.1.1 _ _ Q.2.1.i _ q.out).mono ?_;rintro e w2 ⟨rfl,e⟩;replace X:=X.trans e;replace Q:=F.out _ X.off;simp only;obtain⟨m,t⟩ |rfl:=cz c
 · go_wp2_with fail
   refine(q15 _ 2 s.num).mono ?_;rintro e P ⟨rfl,e⟩;replace X:=X.trans e;replace Q:=F.out _ X.off;have R:=cbn (X.blk br);go_wp2_with fail;exact Va (by simp[aR,results166,go_sem,R]) (d5 _ _ 2 s.num) (Tl (p.out m.out) m.out) (j.trans X) (aQ _) rfl
 obtain⟨c,J,D,O⟩:=Sc (u.out rfl);clear q u p;go_wp2_with fail;refine rgn (a.heap.size+1) (by kernel_rfl) X ?_;replace X:=X.drew;refine O2 [0,1,2,3,4,5,6,7,8] 2 (by kernel_rfl) X.off (fun _ _ _ _ _ h=> h) ?_
 iterate 9 (refine tk rfl (by rfl) (by intro w X;have Q:=F.out _ X;go_simp;(try with_reducible rfl)) ?_;try simp only[N2])
 replace Q:=F.out _ X.off;refine O0 9 (by kernel_rfl) rfl rfl (fun K hK=> ?_)
 go_simp
 go_at_call 116
 refine(Ml y _ _ Q.1.1 (kd ks 1) _ _ _ Q.2.2.1.i Q.2.1.l c J.out).mono ?_;rintro e P ⟨rfl,e⟩;replace X:=X.trans e;replace Q:=F.out _ X.off;refine hK.out _ _ X.off (fun _=> ?_);clear hK K;refine O2 [10] 0 (by kernel_rfl) X.off (fun _ _ _ _ _ h=> h) ?_;refine tk rfl (by rfl) (by intro w X;go_simp;(try with_reducible rfl)) ?_
 try simp only[N2]
 refine bP (by kernel_rfl) ?_ _;obtain⟨m,t⟩ |rfl:=cz c
 · go_wp2_with fail
   refine(q15 _ 2 s.num).mono ?_;rintro e T ⟨rfl,e⟩;replace X:=X.trans e;replace Q:=F.out _ X.off;have R:=cbn (X.blk br);go_wp2_with fail;exact Va (by simp[aR,results166,go_sem,R]) (d5 _ _ 2 s.num) (Tl (O.out m.out) m.out) (j.trans X) (aQ _) rfl
 obtain⟨d,q,u,p⟩:=Sc (D.out rfl);clear J D O;go_wp2_with fail;refine rgn (a.heap.size+1) (by kernel_rfl) X ?_;replace X:=X.drew;refine O2 [0,1,2,3,4,5,6,7,8] 2 (by kernel_rfl) X.off (fun _ _ _ _ _ h=> h) ?_
 iterate 9 (refine tk rfl (by rfl) (by intro w X;have Q:=F.out _ X;go_simp;(try with_reducible rfl)) ?_;try simp only[N2])
 replace Q:=F.out _ X.off;refine O0 9 (by kernel_rfl) rfl rfl (fun K hK=> ?_)
 go_simp
 go_at_call 116
 refine(Ml y _ _ Q.1.1 (kd ks 2) _ _ _ Q.2.2.2.i Q.2.1.l d q.out).mono ?_;rintro e T ⟨rfl,e⟩;replace X:=X.trans e;replace Q:=F.out _ X.off;refine hK.out _ _ X.off (fun _=> ?_);clear hK K;refine O2 [10] 0 (by kernel_rfl) X.off (fun _ _ _ _ _ h=> h) ?_;refine tk rfl (by rfl) (by intro w X;go_simp;(try with_reducible rfl)) ?_
 try simp only[N2]
 refine bP (by kernel_rfl) ?_ _;go_wp2_with fail;refine(q15 _ 2 s.num).mono ?_;rintro e Y ⟨rfl,e⟩;replace X:=X.trans e;replace Q:=F.out _ X.off;have R:=cbn (X.blk br);go_wp2_with fail;exact Va (by simp[aR,results166,go_sem,R]) (d5 _ _ 2 s.num) (Tk u.out p.out) (j.trans X) (aQ _) rfl
theorem bH(t:Tr)(hv:j0 D0 t=true)(j:aL)(N:Nat->Prop)(hN: ∀b,j.heap.size<=b->N b)(v:aT)(m:Lies j t v):aX prog 190 #[v] j fun e w'=> ∃u,e= .returned u/\InT w' N (Sb t) u/\Ext j w':=by
 have p:=hdq hv;have o:=hdq (fun W (x:Ext j W)=> m.ext x);obtain⟨k,n,ks⟩:=t;obtain⟨At,ct,rfl,-⟩:=Lies.mk_iff.1 m;clear m hv;go_enter func190,ntmps190;go_wp2_with fail;generalize d:aO (aO j _) _=C;obtain⟨f,br,S⟩:=sn2 d.symm hN;have F:=hdq (S);have X:=xr C;have Q:=F.out _ X.off;clear S hN d;refine(q15 _ 6 0).mono ?_;rintro e s ⟨rfl,e⟩;replace X:=X.trans e;replace Q:=F.out _ X.off;go_wp2_with fail;generalize d:aO s _=q;obtain⟨i,e⟩:=nb d;replace F:=hdq (both (rb F.out (X.trans e)) (m7 i (X.ne br)));replace X:=X.trans e;replace br:=X.blk br;replace f:=f.trans X;replace X:=xr q;replace Q:=F.out _ X.off;clear d i e;refine(Xo _ 1 p.out (by omega) (by omega) _ _ Q.1.1 _ (o.out _ (f.trans X))).mono ?_;rintro e Y ⟨u,rfl,a,e⟩;replace X:=X.trans e;replace Q:=F.out _ X.off;obtain⟨_,_,_,_,_,rfl⟩:=a.three;go_wp2_with fail;refine(q15 _ 1 0).mono ?_;rintro e M ⟨rfl,e⟩;replace a:=a.later e;replace X:=X.trans e;replace Q:=F.out _ X.off;go_wp2_with fail;obtain⟨e,c⟩:=K6 25 a (d5 _ _ 1 0) Q.1.1;replace X:=X.trans e;replace Q:=F.out _ X.off;refine(Qa 5 Q.1.1 c rfl).mono ?_;rintro e r ⟨L,P,rfl,l,e⟩;replace X:=X.trans e;replace Q:=F.out _ X.off;clear c;go_wp2_with fail;generalize d:aO r _=A;obtain⟨i,e⟩:=nb d;replace F:=hdq (both (rb F.out (X.trans e)) (both (m7 i (X.ne br)) (l.up e)));replace X:=X.trans e;replace br:=X.blk br;replace f:=f.trans X;replace X:=xr A;replace Q:=F.out _ X.off;clear d i e;clear a l;refine(Xo _ 2 p.out (by omega) (by omega) _ _ Q.1.1.1 _ (o.out _ (f.trans X))).mono ?_;rintro e w8 ⟨u,rfl,a,e⟩;replace X:=X.trans e;replace Q:=F.out _ X.off;obtain⟨_,_,_,_,_,rfl⟩:=a.three;go_wp2_with fail;refine(q15 _ 1 1).mono ?_;rintro e H ⟨rfl,e⟩;replace a:=a.later e;replace X:=X.trans e;replace Q:=F.out _ X.off;go_wp2_with fail;obtain⟨e,c⟩:=mc 25 (d5 _ _ 1 1) Q.1.1.1;replace a:=a.later e;replace X:=X.trans e;replace Q:=F.out _ X.off;refine(Qa 8 Q.1.1.1 c rfl).mono ?_;rintro e O ⟨Z,c9,rfl,l,e⟩;replace a:=a.later e;replace X:=X.trans e;replace Q:=F.out _ X.off;clear c;go_wp2_with fail;obtain⟨e,c⟩:=K6 25 a l Q.1.1.1;replace X:=X.trans e;replace Q:=F.out _ X.off;refine(Qa 5 Q.1.1.1 c rfl).mono ?_;rintro e D ⟨U,z,rfl,hc,e⟩;replace X:=X.trans e;replace Q:=F.out _ X.off;clear c;go_wp2_with fail;generalize d:aO D _=B;obtain⟨i,e⟩:=nb d;replace F:=hdq (both (rb F.out (X.trans e)) (both (m7 i (X.ne br)) (hc.up e)));replace X:=X.trans e;replace br:=X.blk br;replace f:=f.trans X;replace X:=xr B;replace Q:=F.out _ X.off;clear d i e;clear a l hc;refine rgn (j.heap.size+1) (by kernel_rfl) X ?_;replace X:=X.drew;refine O2 [0,1,2] 5 (by kernel_rfl) X.off (fun _ _ _ _ _ h=> h) ?_
 iterate 3 (refine tk rfl (by rfl) (by intro w X;have Q:=F.out _ X;go_simp;(try with_reducible rfl)) ?_;try simp only[N2])
 replace Q:=F.out _ X.off;refine O0 3 (by kernel_rfl) rfl rfl (fun K hK=> ?_)
 go_simp
 obtain⟨e,c⟩:=K6 25 Q.1.2.2 Q.2.2 Q.1.1.1.1;replace X:=X.trans e;replace Q:=F.out _ X.off;refine hK.out _ _ X.off (fun _=> ?_);clear hK K;refine O0 4 (by kernel_rfl) rfl rfl (fun K hK=> ?_)
 go_simp
 go_at_call 60
 refine(Qa 3 Q.1.1.1.1 c rfl).mono ?_;rintro e I ⟨J,G,rfl,hx,e⟩;replace X:=X.trans e;replace Q:=F.out _ X.off;refine hK.out _ _ X.off (fun _=> ?_);clear hK K;refine O0 5 (by kernel_rfl) rfl rfl (fun K hK=> ?_)
 go_simp
 obtain⟨e,c⟩:=K6 25 (d5 _ _ 6 0) hx Q.1.1.1.1;replace X:=X.trans e;replace Q:=F.out _ X.off;refine hK.out _ _ X.off (fun _=> ?_);clear hK K;refine O0 6 (by kernel_rfl) rfl rfl (fun K hK=> ?_)
 go_simp
 go_at_call 60
 refine(Qa 3 Q.1.1.1.1 c rfl).mono ?_;rintro e T ⟨V,E,rfl,y,e⟩;replace X:=X.trans e;replace Q:=F.out _ X.off;refine hK.out _ _ X.off (fun _=> ?_);clear hK K;have R:=cbn (X.blk br);refine O0 7 (by kernel_rfl) rfl rfl (fun K hK=> ?_)
 go_simp
 refine hK.out _ _ (X.off.set3 _ _ _) (fun _=> ?_);clear hK K;refine bP (by kernel_rfl) ?_ _;go_wp2_with fail;exact bodyPost_ret (v:= M0 3 0 _ _ _) (by simp[aR,results190,go_sem,R]) rfl ⟨_,rfl,y.ret _ _ _,(f.trans X).set3 (aQ _) _ _ _⟩
theorem qH:(prog.info? 25).map (fun i=>(i.zero,i.size,i.bytes))=some (some (M0 0 0 none 0 0),3,40):=by kernel_rfl
theorem fH{P:Program}(w:aL){o:Oper}{a:Act}{K:Act->aL->Prop}{Q:Exit->Act->aL->Prop}(s x:Operand)(t:TypeId)
 (O:o.op= .call {callee:= .builtin .append,args:=#[s,x],argTypes:=#[t,t]})
 (e:TypeId) (i:TypeInfo) (z:aT) (ht:P.underlying t=some (.slice e)) (hi:P.info? e=some i) (J:i.zero=some z) (l:i.size=3) (C:i.bytes=40) (F:z.cells.size=3)
 {W:aL} {v:aT} {A:Option Addr} {cap:Nat} {ks:List Tr} (hs:a.eval s=v) (d:w.ownsRow W.heap.size e 3 v 0 []) (hE:Ext W w) (hx:a.eval x= .slice A ks.length cap) (T:A=none->cap=0) {S:Nat->Prop} (hS: ∀b,S b->b < W.heap.size) (hK:InK w S A ks) (hn:ks.length<=1048576)
 (h: ∀f w' c,w'.ownsRow W.heap.size e 3 f ks.length c->I1 w' S c ks->Ext W w'->(∀b,b < w.heap.size->v.ownBlock≠some b->w'.heap[b]? =w.heap[b]?)->K (a.put o.dst f) w'):o.wp P a w K Q:=by
 have fin: ∀f w' c,(Builtin.append_ #[t,t] o.type #[v,.slice A ks.length cap]).run P w= .ok f w'->w'.ownsRow W.heap.size e 3 f ks.length c->I1 w' S c ks->Ext W w'->(∀b,b < w.heap.size->v.ownBlock≠some b->w'.heap[b]? =w.heap[b]?)->o.wp P a w K Q:=by
  intro f w' c hr V N L M;unfold Oper.wp execOp;simp only[O,resolve,invoke,builtin,Sem.run_bind,Sem.run_pure,Result.andThen_ok,List.map_toArray,List.map_cons,List.map_nil,hs,hx,hr];exact h f w' c V N L M
 have H: ∀(m:Addr) (c:List aT),A=some m->c.length=ks.length*3->(∀j u,c[j]? =some u->w.cell? (m.add j)=some u)->(∀u∈c,u.oneCell'=true)->I1 w S c ks->o.wp P a w K Q:=by
  rintro m c rfl r q D B;obtain⟨f,w',hr,I,G,X⟩:=cr (P:=P) w W.heap.size t o.type e i z 3 40 ht hi J l C F (by decide) v 0 [] d m ks.length cap c r q D (by unfold maxLen;omega) (by omega) hE.size;have hx:=hE.grown G (fun k hk=>(d.lt k hk).1);rw[Nat.zero_add,List.nil_append] at I;exact fin f w' c hr I (B.mono (fun _ n=> n) (fun b n=>(hx.heap b (hS b n)).trans (hE.heap b (hS b n)).symm)) hx (fun b n y=> G.block b n (fun h=> y h.symm))
 cases A with
 |none=>
  obtain rfl:=T rfl;have p:ks= []:=by
   rcases hK with h|⟨b,o,h,_⟩
   · exact h
   · cases h
  subst p;exact fin v w [] (run_append_owned_none (P:=P) w W.heap.size t o.type e i 3 ht hi v 0 [] d) d I1.nil hE (fun _ _ _=> rfl)
 |some m=>
  rcases hK with rfl|⟨b,Y,E,R,hl⟩
  · exact H m [] rfl rfl (fun _ _ h=> by cases h) (fun _ h=> by cases h) I1.nil
  · obtain rfl:=bY E
    obtain⟨c,r,q,D,B⟩:=hl.rowL;exact H _ c rfl r (fun j u U=> by rw[Addr.add_lit];exact q j u U) D B
theorem zJ{G:List Tr}{A:Option Addr}{ca:Nat}(p:aL)(N:Nat->Prop)(hJ:SJ p N A G ca)(fh:G.length<=20)(t:Tr)(Es:j0 D0 t=true)(v:aT)(ht:InT p N t v):
 aX prog 186 #[.slice A G.length ca,v] p fun e w'=> ∃B c,e= .returned (.slice B (G.length+1) c)/\SJ w' N B (G++ [t]) c/\Ext p w':=by
 obtain⟨k,n,ks⟩:=t;have He:=hdq Es;clear Es;obtain⟨At,ct,rfl,-⟩:=InT.mk_iff.1 ht;obtain⟨i0,hi,D,z,y⟩:=fS qH;have HT:=hdq ht.bound;have C:=hdq hJ;have l:=(xr p).alloc (.cells #[.int .i64 k,.int .i64 n,.slice At ks.length ct] 25);have B1:=aS p (.cells #[.int .i64 k,.int .i64 n,.slice At ks.length ct] 25);obtain⟨d,d9⟩: ∃x,x=p.alloc (.cells #[.int .i64 k,.int .i64 n,.slice At ks.length ct] 25):=⟨_,rfl⟩;rw[<-d9] at l B1;clear ht hJ;go_enter func186,ntmps186;go_wp2_with fail;rw[<-d9];clear d9;have X:Ext d d.drew:=(xr d).drew;have Z1:=cb3 B1;have E:=hdq (show∀w',Ext d w'->w'.cell? ⟨p.heap.size,0,none⟩=some (.int .i64 k)/\w'.cell? ⟨p.heap.size,1,none⟩=some (.int .i64 n)/\w'.cell? ⟨p.heap.size,2,none⟩=some (.slice At ks.length ct) from fun w' h=>⟨h.cell Z1.1,h.cell Z1.2.1,h.cell Z1.2.2.1⟩);have Kv:=hdq (show∀w',Ext d w'->InK w' (fun b=> N b/\b < p.heap.size) A G from fun w' h=> InK.mono (fun _ a=> a) (fun b a=>(l.trans h).heap b a.2) C.out.hG.bound);have L:=hdq (show∀b,N b/\b < p.heap.size->b < d.heap.size from fun b a=> by have:=l.size;omega);clear Z1 B1;refine wp_region_held_drew (S:=fun w'=> w'.cell? ⟨p.heap.size,0,none⟩=some (.int .i64 k)/\w'.cell? ⟨p.heap.size,1,none⟩=some (.int .i64 n)/\w'.cell? ⟨p.heap.size,2,none⟩=some (.slice At ks.length ct)) (by kernel_rfl) (E.out _ X) (fun _=> ?_);refine iN (i:=1) (v:= ?v1) rfl (by kernel_rfl) (by kernel_rfl) (by kernel_rfl) (fun _ _ _ h=> h) (Or.inl ⟨by rfl, ?hy1⟩) (by assumption) ?rest1
 case hy1=>(intro w j;(try dsimp only at j);go_simp;(try with_reducible rfl))
 try simp only[eT,bW,bR,bQ,aU,bN,bM]
 refine iN (i:=3) (v:= ?v3) rfl (by kernel_rfl) (by kernel_rfl) (by kernel_rfl) (fun _ _ _ h=> h) (Or.inl ⟨by rfl, ?hy3⟩) (by assumption) ?rest3
 case hy3=>(intro w j;(try dsimp only at j);go_simp;(try with_reducible rfl))
 try simp only[eT,bW,bR,bQ,aU,bN,bM]
 refine fQ (rs:= [0,4]) (by kernel_rfl) (by simp) ?_;refine dS rfl (fun K hK=> ?_) (dS rfl (fun K hK=> ?_) fM)
 ·
  go_simp
  refine hK.out _ _ (E.out _ (X.alloc _)) (fun f=> ?_);clear hK K
  try simp only[eT,bW,bR,bQ,aU,bN,bM]
  have XA:Ext d (d.drew.alloc (.cells #[] 25)):=X.alloc _;have OA:(d.drew.alloc (.cells #[] 25)).ownsRow d.drew.heap.size 25 3 (.slice (some ⟨d.drew.heap.size,0,none⟩) 0 0) 0 []:=fR (size:=3) d.drew #[] 0 (aN _) (Nat.zero_le _) rfl;refine fQ (rs:= [2,4]) (by kernel_rfl) (by simp) ?_;refine dS rfl (fun K hK=> ?_) (dS rfl (fun K hK=> ?_) fM)
  · refine fH _ (.tmp 5) (.tmp 6) _ (by rfl) 25 i0 _ underlying23 hi D z y (W:=d.drew) rfl (by rfl) OA ((xr _).alloc _) (by rfl) C.out.hA L.out (Kv.out _ XA) (by omega) ?_
    intro v2 w2 xs U Y hx2 q;have io:=X.trans hx2;refine hK.out _ _ (E.out _ io) (fun f=> ?_);clear hK K
    try simp only[eT,bW,bR,bQ,aU,bN,bM]
    refine fQ (rs:= [4]) (by kernel_rfl) (by simp) ?_;refine dS rfl (fun K hK=> ?_) fM
    go_simp
    refine hK.out _ _ (E.out _ (io.alloc _)) (fun f=> ?_);clear hK K
    try simp only[eT,bW,bR,bQ,aU,bN,bM]
    have u:=aS w2 (.cells #[.int .i64 k,.int .i64 n,.slice At ks.length ct] 25);have s:=(World.ownsRow.alloc U (.cells #[.int .i64 k,.int .i64 n,.slice At ks.length ct] 25));have P:=(Y.mono (fun _ a=> a) (fun b a=> Below.heap_alloc w2 (.cells #[.int .i64 k,.int .i64 n,.slice At ks.length ct] 25) b (aY (L.out b a) io.size)));have r:Ext d _:=io.alloc (.cells #[.int .i64 k,.int .i64 n,.slice At ks.length ct] 25);have m:=r.size;have T:T8 (fun b=> b < d.heap.size/\ ¬N b) d _ 25 v2 G:=⟨xs,s,I1.mono (fun b a=>⟨aY (L.out b a) m,fun e=> iZ _ (aY (L.out b a) (s.lt b e).1),fun e=> e.2 a.1⟩) (fun _ _=> rfl) P⟩;clear U Y hx2 q io P m;refine fQ (rs:= [5]) (by kernel_rfl) (by simp) ?_;refine dS rfl (fun K hK=> ?_) fM;have V:=l.trans r;refine Hw _ (.tmp 7) (.tmp 9) _ (by rfl) 25 i0 _ underlying23 hi D z y rfl (by rfl) T r.size (tr:= .mk k n ks) (InT.mono (fun b a=>⟨by have:=a.2;have:=V.size;omega,fun e=> iZ _ (aY (aY a.2 l.size) (s.lt b e).1),fun e=> e.2 a.1⟩) (fun b a=> V.heap b a.2) HT.out) (by rfl) u (by omega) ?_ (fun b a=> a.1);intro v5 F Z M;have H:Ext d F:=Ext.trans' r M (aN _);refine hK.out _ _ (E.out _ H) (fun f=> ?_);clear hK K;obtain⟨J,Q,rfl,q1,O,R,-⟩:=Z.lies (fun b a=> a.1);have I:InK F N J (G++ [.mk k n ks]):=InK.mono (fun b a=> by
     by_cases e:N b
     · exact e
     · exact C.out.hN b (by have:=l.size;exact bL this (Nat.not_lt.1 fun h=> a.2 ⟨h,e⟩))) (fun _ _=> rfl) R
    have HQ:=hdq (show SJ F N J (G++ [.mk k n ks]) Q from⟨fun b a=> C.out.hN b (by have:=(l.trans H).size;omega),q1,O,I,by rw[cR,cT];omega,fun h=> by
     subst h;rcases I with h|⟨b,o,h,-⟩
     · simp at h
     · exact absurd h (by simp),fun x hx=>(List.mem_append.1 hx).elim (C.out.hv x) fun e=>(List.mem_singleton.1 e)▸He.out⟩)
    rw[cR,cT] at*;clear I R Z M T q1 O s
    try simp only[eT,bW,bR,bQ,aU,bN,bM]
    refine iN (i:=6) (v:= ?vc6_1) rfl (by kernel_rfl) (by kernel_rfl) (by kernel_rfl) (fun _ _ _ h=> h) (Or.inl ⟨by rfl, ?hyc6_1⟩) (by assumption) ?restc6_1
    case hyc6_1=>(intro w j;(try dsimp only at j);go_simp;(try with_reducible rfl))
    try simp only[eT,bW,bR,bQ,aU,bN,bM]
    refine bP (by kernel_rfl) ?_ _;go_wp2_with fail;go_ret;exact⟨J,Q,rfl,HQ.out,l.trans H⟩
  · go_simp
    refine hK.out _ _ (E.out _ (XA.alloc _)) (fun f=> ?_);clear hK K
    try simp only[eT,bW,bR,bQ,aU,bN,bM]
    have u:=aS (d.drew.alloc (.cells #[] 25)) (.cells #[.int .i64 k,.int .i64 n,.slice At ks.length ct] 25);refine fQ (rs:= [2]) (by kernel_rfl) (by simp) ?_;refine dS rfl (fun K hK=> ?_) fM;refine fH _ (.tmp 5) (.tmp 6) _ (by rfl) 25 i0 _ underlying23 hi D z y (W:=d.drew) rfl (by rfl) (OA.alloc _) (((xr _).alloc _).alloc _) (by rfl) C.out.hA L.out (Kv.out _ (XA.alloc _)) (by omega) ?_;intro v2 w2 xs U Y hx2 q;have io:=X.trans hx2;have h4:=(q _ (O1 u) (by simp[Value.ownBlock])).trans u;clear u;refine hK.out _ _ (E.out _ io) (fun f=> ?_);clear hK K
    try simp only[eT,bW,bR,bQ,aU,bN,bM]
    have u:=h4;have s:=U;have P:=Y;have r:Ext d _:=io;have m:=r.size;have T:T8 (fun b=> b < d.heap.size/\ ¬N b) d _ 25 v2 G:=⟨xs,s,I1.mono (fun b a=>⟨aY (L.out b a) m,fun e=> iZ _ (aY (L.out b a) (s.lt b e).1),fun e=> e.2 a.1⟩) (fun _ _=> rfl) P⟩;clear U Y hx2 q io P m;rw[show(d.drew.alloc (.cells #[] 25)).heap.size=d.heap.size+1 from eM ..] at u;refine fQ (rs:= [5]) (by kernel_rfl) (by simp) ?_;refine dS rfl (fun K hK=> ?_) fM;have V:=l.trans r;refine Hw _ (.tmp 7) (.tmp 9) _ (by rfl) 25 i0 _ underlying23 hi D z y rfl (by rfl) T r.size (tr:= .mk k n ks) (InT.mono (fun b a=>⟨by have:=a.2;have:=V.size;omega,fun e=> iZ _ (aY (aY a.2 l.size) (s.lt b e).1),fun e=> e.2 a.1⟩) (fun b a=> V.heap b a.2) HT.out) (by rfl) u (by omega) ?_ (fun b a=> a.1);intro v5 F Z M;have H:Ext d F:=Ext.trans' r M (aN _);refine hK.out _ _ (E.out _ H) (fun f=> ?_);clear hK K;obtain⟨J,Q,rfl,q1,O,R,-⟩:=Z.lies (fun b a=> a.1);have I:InK F N J (G++ [.mk k n ks]):=InK.mono (fun b a=> by
     by_cases e:N b
     · exact e
     · exact C.out.hN b (by have:=l.size;exact bL this (Nat.not_lt.1 fun h=> a.2 ⟨h,e⟩))) (fun _ _=> rfl) R
    have HQ:=hdq (show SJ F N J (G++ [.mk k n ks]) Q from⟨fun b a=> C.out.hN b (by have:=(l.trans H).size;omega),q1,O,I,by rw[cR,cT];omega,fun h=> by
     subst h;rcases I with h|⟨b,o,h,-⟩
     · simp at h
     · exact absurd h (by simp),fun x hx=>(List.mem_append.1 hx).elim (C.out.hv x) fun e=>(List.mem_singleton.1 e)▸He.out⟩)
    rw[cR,cT] at*;clear I R Z M T q1 O s
    try simp only[eT,bW,bR,bQ,aU,bN,bM]
    refine iN (i:=6) (v:= ?vc6_2) rfl (by kernel_rfl) (by kernel_rfl) (by kernel_rfl) (fun _ _ _ h=> h) (Or.inl ⟨by rfl, ?hyc6_2⟩) (by assumption) ?restc6_2
    case hyc6_2=>(intro w j;(try dsimp only at j);go_simp;(try with_reducible rfl))
    try simp only[eT,bW,bR,bQ,aU,bN,bM]
    refine bP (by kernel_rfl) ?_ _;go_wp2_with fail;go_ret;exact⟨J,Q,rfl,HQ.out,l.trans H⟩
 · go_simp
   refine hK.out _ _ (E.out _ (X.alloc _)) (fun f=> ?_);clear hK K
   try simp only[eT,bW,bR,bQ,aU,bN,bM]
   have XB:Ext d (d.drew.alloc (.cells #[.int .i64 k,.int .i64 n,.slice At ks.length ct] 25)):=X.alloc _;have u:=aS d.drew (.cells #[.int .i64 k,.int .i64 n,.slice At ks.length ct] 25);refine fQ (rs:= [0]) (by kernel_rfl) (by simp) ?_;refine dS rfl (fun K hK=> ?_) fM
   go_simp
   refine hK.out _ _ (E.out _ (XB.alloc _)) (fun f=> ?_);clear hK K
   try simp only[eT,bW,bR,bQ,aU,bN,bM]
   have OA:((d.drew.alloc (.cells #[.int .i64 k,.int .i64 n,.slice At ks.length ct] 25)).alloc (.cells #[] 25)).ownsRow d.drew.heap.size 25 3 (.slice (some ⟨d.heap.size+1,0,none⟩) 0 0) 0 []:=by
    have:=fR (base:=d.drew.heap.size) (size:=3) (e:=25) (d.drew.alloc (.cells #[.int .i64 k,.int .i64 n,.slice At ks.length ct] 25)) #[] 0 ((xr d.drew).alloc (.cells #[.int .i64 k,.int .i64 n,.slice At ks.length ct] 25)).size (Nat.zero_le _) rfl
    rwa [show(d.drew.alloc (.cells #[.int .i64 k,.int .i64 n,.slice At ks.length ct] 25)).heap.size=d.heap.size+1 from eM ..] at this
   refine fQ (rs:= [2]) (by kernel_rfl) (by simp) ?_;refine dS rfl (fun K hK=> ?_) fM;refine fH _ (.tmp 5) (.tmp 6) _ (by rfl) 25 i0 _ underlying23 hi D z y (W:=d.drew) rfl (by rfl) OA (((xr _).alloc _).alloc _) (by rfl) C.out.hA L.out (Kv.out _ (XB.alloc _)) (by omega) ?_;intro v2 w2 xs U Y hx2 q;have io:=X.trans hx2;have h4:=(q _ (O1 (((xr (d.drew.alloc (.cells #[.int .i64 k,.int .i64 n,.slice At ks.length ct] 25))).alloc (.cells #[] 25)).blk u)) (by show some (d.heap.size+1)≠some d.heap.size;simp)).trans (((xr (d.drew.alloc (.cells #[.int .i64 k,.int .i64 n,.slice At ks.length ct] 25))).alloc (.cells #[] 25)).blk u);clear u;refine hK.out _ _ (E.out _ io) (fun f=> ?_);clear hK K
   try simp only[eT,bW,bR,bQ,aU,bN,bM]
   have u:=h4;have s:=U;have P:=Y;have r:Ext d _:=io;have m:=r.size;have T:T8 (fun b=> b < d.heap.size/\ ¬N b) d _ 25 v2 G:=⟨xs,s,I1.mono (fun b a=>⟨aY (L.out b a) m,fun e=> iZ _ (aY (L.out b a) (s.lt b e).1),fun e=> e.2 a.1⟩) (fun _ _=> rfl) P⟩;clear U Y hx2 q io P m;refine fQ (rs:= [5]) (by kernel_rfl) (by simp) ?_;refine dS rfl (fun K hK=> ?_) fM;have V:=l.trans r;refine Hw _ (.tmp 7) (.tmp 9) _ (by rfl) 25 i0 _ underlying23 hi D z y rfl (by rfl) T r.size (tr:= .mk k n ks) (InT.mono (fun b a=>⟨by have:=a.2;have:=V.size;omega,fun e=> iZ _ (aY (aY a.2 l.size) (s.lt b e).1),fun e=> e.2 a.1⟩) (fun b a=> V.heap b a.2) HT.out) (by rfl) u (by omega) ?_ (fun b a=> a.1);intro v5 F Z M;have H:Ext d F:=Ext.trans' r M (aN _);refine hK.out _ _ (E.out _ H) (fun f=> ?_);clear hK K;obtain⟨J,Q,rfl,q1,O,R,-⟩:=Z.lies (fun b a=> a.1);have I:InK F N J (G++ [.mk k n ks]):=InK.mono (fun b a=> by
    by_cases e:N b
    · exact e
    · exact C.out.hN b (by have:=l.size;exact bL this (Nat.not_lt.1 fun h=> a.2 ⟨h,e⟩))) (fun _ _=> rfl) R
   have HQ:=hdq (show SJ F N J (G++ [.mk k n ks]) Q from⟨fun b a=> C.out.hN b (by have:=(l.trans H).size;omega),q1,O,I,by rw[cR,cT];omega,fun h=> by
    subst h;rcases I with h|⟨b,o,h,-⟩
    · simp at h
    · exact absurd h (by simp),fun x hx=>(List.mem_append.1 hx).elim (C.out.hv x) fun e=>(List.mem_singleton.1 e)▸He.out⟩)
   rw[cR,cT] at*;clear I R Z M T q1 O s
   try simp only[eT,bW,bR,bQ,aU,bN,bM]
   refine iN (i:=6) (v:= ?vc6_3) rfl (by kernel_rfl) (by kernel_rfl) (by kernel_rfl) (fun _ _ _ h=> h) (Or.inl ⟨by rfl, ?hyc6_3⟩) (by assumption) ?restc6_3
   case hyc6_3=>(intro w j;(try dsimp only at j);go_simp;(try with_reducible rfl))
   try simp only[eT,bW,bR,bQ,aU,bN,bM]
   refine bP (by kernel_rfl) ?_ _;go_wp2_with fail;go_ret;exact⟨J,Q,rfl,HQ.out,l.trans H⟩
theorem sI{T:Tr}{F:Tr->An}{r:Tr×Int}(h:thn (some (i4 T 13)) F=some r): ∃X d,Ua T=(X,d)/\(d≠0->r=(j2,d))/\(d=0->X.kind≠13->r=(j2,1))/\(d=0->X.kind=13->F X=some r/\X.kids.length=2/\j0 D0 X=true):=by
 obtain⟨s,c,m,i,b⟩:=Ud h;obtain⟨X,d,a,f,j⟩:=ZB (bY m);refine⟨X,d,a,fun hd=> ?_,fun hd hk=> ?_,fun hd hk=> ?_⟩
 · obtain⟨rfl,rfl⟩:=Prod.mk.inj (j hd)
   exact b hd
 · obtain⟨rfl,rfl⟩:=Prod.mk.inj ((f hd).2 hk)
   exact b (by decide)
 · obtain⟨rfl,rfl⟩:=Prod.mk.inj ((f hd).1 hk)
   refine⟨i rfl, ?_⟩;subst hd;have l:W6 T 200=(s,0):=by
    unfold Ua at a
    split at a
    · exact absurd (Prod.mk.inj a).2 (by decide)
    · obtain⟨o,-⟩:=Prod.mk.inj a
      exact Prod.ext o (Decidable.of_not_not ‹¬_›)
   obtain⟨-,-,-,hv⟩:=Hx l;refine⟨?_,hv⟩;obtain⟨k,n,ks⟩:=s;have e:(ks.length:Int)=U0 k:=(Z4 (Z3 hv).1).1.symm;simp only[Tr.kind] at hk;subst hk;have:U0 13=2:=rfl;simp only[Tr.kids];omega
theorem nF{T:Tr}{F:Tr->An}{r:Tr×Int}(h:thn (some (i4 T 13)) F=some r): ∃k n ks d,Hid (Ua T=(.mk k n ks,d))/\Hid (d≠0->r=(j2,d))/\Hid (d=0->k≠13->r=(j2,1))/\Hid (d=0->k=13->F (.mk k n ks)=some r/\ks.length=2/\j0 D0 (.mk k n ks)=true):=by
 obtain⟨⟨k,n,ks⟩,c,f,b,e,a⟩:=sI h;exact⟨k,n,ks,c,hdq f,hdq b,hdq e,hdq a⟩
theorem iJ{f:Nat}(H:a9 f){G:List Tr}{A:Option Addr}{ca:Nat}(m:aL)(N:Nat->Prop)(P:SJ m N A G ca)(k n:Int)(ks:List Tr)(E:ks.length=3)(C4:j0 D0 (kd ks 1)=true)(v:aT)(hT:InT m N (.mk k n ks) v)(ty:Nat->An)(h0:ty 0=Q0 f G (kd ks 0))(Z:ty 1=Q0 f G (kd ks 1))(O:ty 2=Q0 f G (kd ks 2))(r:Tr×Int)(h:Xp ty (kd ks 0) (kd ks 1)=some r):aX prog 168 #[.slice A G.length ca,v] m (Ug N m r):=by
 unfold Xp at h;rw[h0,Z,O] at h;obtain⟨s,c,y,z,x⟩:=a7 h;clear h h0 Z O;have rr:=hdq C4;clear C4;obtain⟨At,ct,rfl,-,l8,hK⟩:=InT.mk_iff.1 hT;obtain⟨b,o,rfl,-,⟨O8,Q6,O7,P5,P4,K0⟩,⟨ah,bm,aj,dc,df,L⟩,pk,oo,ot,po,pg,K2⟩:=j19 hK E;rw[E];clear hT hK E;go_enter func168,ntmps168;go_wp2_with fail;generalize q:aO (aO m _) _=w1;obtain⟨j,br,S⟩:=ie q.symm P;have F:=hdq (both S (both (K0.up j (aQ _)) (both (L.up j (aQ _)) (K2.up j (aQ _)))));have X:=xr w1;have Q:=F.out _ X.off;clear S P q K0 L K2;refine(wv H _ _ Q.1.1 _ _ Q.2.1.i _ y.out).mono ?_;rintro e w2 ⟨rfl,e⟩;replace X:=X.trans e;replace Q:=F.out _ X.off;simp only;obtain⟨a,t⟩ |rfl:=cz c
 · have R:=cbn (X.blk br)
   go_wp2_with fail;exact Vg (by simp[aR,results168,go_sem,R]) (x.out a.out) a.out ((j.trans X).set3 (aQ _) _ _ _) rfl
 obtain⟨kx,nx,iv,d,C,B,D,M⟩:=nF (z.out rfl);clear y z x;go_wp2_with fail;refine(Si C.out _ _ Q.1.1.hN _ Q.2.1.l).mono ?_;rintro e w3 ⟨A1,c1,rfl,-,hK,e⟩;replace X:=X.trans e;replace Q:=F.out _ X.off;simp only;obtain⟨a,t⟩ |rfl:=cz d
 · have R:=cbn (X.blk br)
   have J:=fun o=> cbn ((X.alloc o).blk br)
   go_wp2_with fail;exact Vg (by simp[aR,results168,go_sem,R,J]) (B.out a.out) a.out (((j.trans X).alloc _).set3 (aQ _) _ _ _) rfl
 obtain⟨a,t⟩ |rfl:=czk kx 13
 · have R:=cbn (X.blk br)
   have J:=fun o=> cbn ((X.alloc o).blk br)
   go_wp2_with fail;exact Vg (by simp[aR,results168,go_sem,R,J]) (D.out (by trivial) a.out) (by decide) (((j.trans X).alloc _).set3 (aQ _) _ _ _) rfl
 obtain⟨hq,p,hv⟩:=M.out rfl rfl;have ae:=hdq (show j0 D0 (kd iv 1)=true from Vc hv (i:=1) (by simp only[Tr.kids];omega));clear C B D M hv;obtain⟨c,y,z,x⟩:=Sc hq;clear hq;obtain⟨b2,o2,rfl,I,⟨jm,jw,jq,jl,jk,V⟩,f11,f12,f13,f14,f15,U⟩:=q17 hK p;rw[p];clear hK p;go_wp2_with fail;generalize q:aO w3 _=w4;obtain⟨T,e⟩:=nb q;replace F:=hdq (both (rb F.out (X.trans e)) (both (m7 T (X.ne br)) (both (V.fm I e) (U.fm I e))));replace X:=X.trans e;replace br:=X.blk br;replace j:=j.trans X;replace X:=xr w4;replace Q:=F.out _ X.off;clear q T e;clear V U I;refine rgn (m.heap.size+1) (by kernel_rfl) X ?_;replace X:=X.drew;refine O2 [0,1,2,3,4,5,6,7,8] 2 (by kernel_rfl) X.off (fun _ _ _ _ _ h=> h) ?_
 iterate 9 (refine tk rfl (by rfl) (by intro w X;have Q:=F.out _ X;go_simp;(try with_reducible rfl)) ?_;try simp only[N2])
 replace Q:=F.out _ X.off;refine O0 9 (by kernel_rfl) rfl rfl (fun K hK=> ?_)
 go_simp
 go_at_call 116
 refine(Ml H _ _ Q.1.1.1 (kd ks 1) _ _ _ Q.1.2.2.1.i Q.2.2.1.l c y.out).mono ?_;rintro e w5 ⟨rfl,e⟩;replace X:=X.trans e;replace Q:=F.out _ X.off;refine hK.out _ _ X.off (fun _=> ?_);clear hK K;refine O2 [10] 0 (by kernel_rfl) X.off (fun _ _ _ _ _ h=> h) ?_;refine tk rfl (by rfl) (by intro w X;go_simp;(try with_reducible rfl)) ?_
 try simp only[N2]
 refine bP (by kernel_rfl) ?_ _;obtain⟨a,t⟩ |rfl:=cz c
 · have R:=cbn (X.blk br)
   go_wp2_with fail;exact Va (by simp[aR,results168,go_sem,R]) (Q.1.2.1.i) (Tl (x.out a.out) a.out) (j.trans X) (aQ _) rfl
 obtain⟨c,C,B,D⟩:=Sc (z.out rfl);clear y z x;go_wp2_with fail;refine rgn (m.heap.size+1) (by kernel_rfl) X ?_;replace X:=X.drew;refine O2 [0,1,2,3,4,5,6,7,8,9,10,11,12] 3 (by kernel_rfl) X.off (fun _ _ _ _ _ h=> h) ?_
 iterate 13 (refine tk rfl (by rfl) (by intro w X;have Q:=F.out _ X;go_simp;(try with_reducible rfl)) ?_;try simp only[N2])
 replace Q:=F.out _ X.off;refine O0 13 (by kernel_rfl) rfl rfl (fun K hK=> ?_)
 go_simp
 go_at_call 121
 refine(Gw _ _ ae.out rr.out _ _ Q.1.1.1.hN _ _ Q.2.2.2.l Q.1.2.2.1.l).mono ?_;rintro e w6 ⟨u,rfl,Y,e⟩;replace X:=X.trans e;replace Q:=F.out _ X.off;refine hK.out _ _ X.off (fun _=> ?_);clear hK K;obtain⟨_,_,_,_,_,rfl⟩:=Y.three;refine O0 14 (by kernel_rfl) rfl rfl (fun K hK=> ?_)
 go_simp
 go_at_call 116
 refine(Ml H _ _ Q.1.1.1 (kd ks 2) _ _ _ Q.1.2.2.2.i Y.lies' c C.out).mono ?_;rintro e w7 ⟨rfl,e⟩;replace X:=X.trans e;replace Q:=F.out _ X.off;refine hK.out _ _ X.off (fun _=> ?_);clear hK K;refine O2 [15] 0 (by kernel_rfl) X.off (fun _ _ _ _ _ h=> h) ?_;refine tk rfl (by rfl) (by intro w X;go_simp;(try with_reducible rfl)) ?_
 try simp only[N2]
 refine bP (by kernel_rfl) ?_ _;have R:=cbn (X.blk br);go_wp2_with fail;exact Va (by simp[aR,results168,go_sem,R]) (Q.1.2.1.i) (Tk B.out D.out) (j.trans X) (aQ _) rfl
theorem YG{f:Nat}(U:a9 f){G:List Tr}{A:Option Addr}{ca:Nat}(d:aL)(N:Nat->Prop)(E:SJ d N A G ca)(k n:Int)(ks:List Tr)(q:ks.length=1)(p:j0 D0 (.mk 15 0 [kd ks 0])=true)(v:aT)(hT:InT d N (.mk k n ks) v)(ty:Nat->An)(J:ty 0=Q0 f G (kd ks 0))(r:Tr×Int)(h:jj ty k (kd ks 0)=some r):aX prog 191 #[.slice A G.length ca,v] d (q8 N d r):=by
 unfold jj at h;rw[J] at h;obtain⟨s,c,y,H,M⟩:=a7 h;clear h J;have im:=hdq p;clear p;obtain⟨At,ct,rfl,-,l8,hK⟩:=InT.mk_iff.1 hT;obtain⟨b,o,rfl,-,O8,Q6,O7,P5,P4,L⟩:=q16 hK q;rw[q];clear hT hK q;go_enter func191,ntmps191;go_wp2_with fail;generalize m:aO (aO d _) _=w1;obtain⟨j,br,S⟩:=ie m.symm E;have F:=hdq (both S (L.up j (aQ _)));have X:=xr w1;have Q:=F.out _ X.off;clear S E m L;refine(vE U _ _ Q.1.1 _ _ Q.2.i 13 _ y.out).mono ?_;rintro e P ⟨u,rfl,hT,e⟩;replace X:=X.trans e;replace Q:=F.out _ X.off;simp only at hT⊢;obtain⟨ka,na,C⟩:=s;obtain⟨A1,c1,rfl,-,-,hK⟩:=InT.mk_iff.1 hT;clear hT;obtain⟨Y,t⟩ |rfl:=cz c
 · have R:=cbn (X.blk br)
   have B:=fun o=> cbn ((X.alloc o).blk br)
   go_wp2_with fail;exact D9 (by simp[aR,results191,go_sem,R,B]) (M.out Y.out) (((j.trans X).alloc _).set3 (aQ _) _ _ _) rfl
 obtain⟨-,a,hv⟩:=vp y.out;have hr:=bY (H.out rfl);simp only[Tr.kids] at a hv hr;have a:C.length=2:=by have:U0 13=2:=rfl;omega
 have ae:=hdq (show j0 D0 (kd C 1)=true from Vc hv (i:=1) (by simp only[Tr.kids];omega));clear y H M hv;obtain⟨b2,o2,rfl,z,⟨jm,jw,jq,jl,jk,x⟩,T,Z,f13,f14,f15,I⟩:=q17 hK a;rw[a];clear hK a;by_cases hk:k=15
 · rw[if_pos hk] at hr
   have t3:(k==15)=true:=by simp[hk]
   clear hk;have R:=cbn (X.blk br);have B:=fun o=> cbn ((X.alloc o).blk br)
   go_wp2_with fail;exact R6 (by simp[aR,results191,go_sem,R,B]) ((x.i).later ((xr _).alloc _)) (hr.symm) ((j.trans X).alloc _) (aQ _) rfl
 rw[if_neg hk] at hr;have t3:(k==15)=false:=by simp[hk]
 clear hk;go_wp2_with fail;generalize m:aO P _=O;obtain⟨D,e⟩:=nb m;replace F:=hdq (both (rb F.out (X.trans e)) (both (m7 D (X.ne br)) (both (x.fm z e) (I.fm z e))));replace X:=X.trans e;replace br:=X.blk br;replace j:=j.trans X;replace X:=xr O;replace Q:=F.out _ X.off;clear m D e;clear x I z;refine rgn (d.heap.size+1) (by kernel_rfl) X ?_;replace X:=X.drew;refine O2 [0,1,2,3,4,5,6,7] 5 (by kernel_rfl) X.off (fun _ _ _ _ _ h=> h) ?_
 iterate 8 (refine tk rfl (by rfl) (by intro w X;have Q:=F.out _ X;go_simp;(try with_reducible rfl)) ?_;try simp only[N2])
 replace Q:=F.out _ X.off;refine O0 8 (by kernel_rfl) rfl rfl (fun K hK=> ?_)
 go_simp
 obtain⟨e,o6⟩:=mc 25 Q.1.2.i Q.1.1.1.hN;replace X:=X.trans e;replace Q:=F.out _ X.off;refine hK.out _ _ X.off (fun _=> ?_);clear hK K;refine O0 9 (by kernel_rfl) rfl rfl (fun K hK=> ?_)
 go_simp
 go_at_call 60
 refine(Qa 15 Q.1.1.1.hN o6 rfl).mono ?_;rintro e w4 ⟨A9,c9,rfl,V,e⟩;replace X:=X.trans e;replace Q:=F.out _ X.off;refine hK.out _ _ X.off (fun _=> ?_);clear hK K;refine O0 10 (by kernel_rfl) rfl rfl (fun K hK=> ?_)
 go_simp
 go_at_call 121
 refine(Gw _ _ ae.out im.out _ _ Q.1.1.1.hN _ _ Q.2.2.2.l V.lies').mono ?_;rintro e w5 ⟨u,rfl,hx,e⟩;replace X:=X.trans e;replace Q:=F.out _ X.off;refine hK.out _ _ X.off (fun _=> ?_);clear hK K;obtain⟨_,_,_,_,_,rfl⟩:=hx.three;have R:=cbn (X.blk br);refine O0 11 (by kernel_rfl) rfl rfl (fun K hK=> ?_)
 go_simp
 refine hK.out _ _ (X.off.set3 _ _ _) (fun _=> ?_);clear hK K;refine O2 [12] 0 (by kernel_rfl) (X.off.set3 _ _ _) (fun _ _ _ _ _ h=> h) ?_;refine tk rfl (by rfl) (by intro w X;go_simp;(try with_reducible rfl)) ?_
 try simp only[N2]
 refine bP (by kernel_rfl) ?_ _;go_wp2_with fail;exact R6 (by simp[aR,results191,go_sem,R]) (hx) (hr.symm) (j.trans X) (aQ _) rfl
end Go.Proofs.YtckhbnmfnpolgaaGreat
namespace Go.Proofs.YtckhbnmfnpolgaaGreat
open Go.RowKit
theorem Nu{k:Int}{m:Nat}(h:U0 k=(m:Int)):(k=1/\m=0)\/(k=2/\m=0)\/(k=3/\m=2)\/(k=4/\m=2)\/(k=5/\m=2)\/(k=6/\m=0)\/(k=7/\m=0)\/(k=8/\m=1)\/(k=9/\m=4)\/(k=10/\m=3)\/(k=11/\m=1)\/(k=12/\m=3)\/(k=13/\m=2)\/(k=14/\m=3)\/(k=15/\m=1)\/(k=16/\m=1):=by
 by_cases hk:1<=k/\k<=16
 · rcases(by omega:k=1\/k=2\/k=3\/k=4\/k=5\/k=6\/k=7\/k=8\/k=9\/k=10\/k=11\/k=12\/k=13\/k=14\/k=15\/k=16) with rfl|rfl|rfl|rfl|rfl|rfl|rfl|rfl|rfl|rfl|rfl|rfl|rfl|rfl|rfl|rfl
   all_goals(simp[U0] at h⊢;omega)
 · have e:U0 k= -1:=by
    unfold U0
    repeat rw[if_neg (by omega)]
   omega
theorem ZE{y:aL}{p z:Nat}{A:Option Addr}{G:List Tr}{At:Option Addr}{ks:List Tr}{ty:Nat->An}(k n:Int)(ca ct:Nat)(a:ks.length<=ct)(b:ct<=maxLen)(d:aL)(N:Nat->Prop)(e:Mb y d N p z A G At ks ty)(f:Tr->An)(o:ue y A ca G f)(ol:j0 D0 (.mk k n ks)=true)(E: ∀x∈G,j0 D0 x=true)(D:G.length<=ca)(m:ca<=maxLen)(B: ∀i s,i < ks.length->ty i=some (s,0)->j0 D0 s=true)
 (r:Tr×Int) (h:Ub G f ty k n ks=some r):aX prog 107 #[.agg #[.slice A G.length ca,m0 k,m0 n,.slice At ks.length ct,.func (.func 105) #[] #[.pointer (some ⟨p,0,none⟩),.pointer (some ⟨z,0,none⟩)]]] d (q8 N d r):=by
 obtain⟨C,u,q,-⟩:=Z4 (Z3 ol).1;have l: ∀i,i < ks.length->j0 D0 (kd ks i)=true:=fun i hi=> Vc (t:= .mk k n ks) ol hi
 unfold Ub at h;rcases Nu (show U0 k=(ks.length:Int) from C) with⟨rfl,hm⟩ |⟨rfl,hm⟩ |⟨rfl,hm⟩ |⟨rfl,hm⟩ |⟨rfl,hm⟩ |⟨rfl,hm⟩ |⟨rfl,hm⟩ |⟨rfl,hm⟩ |⟨rfl,hm⟩ |⟨rfl,hm⟩ |⟨rfl,hm⟩ |⟨rfl,hm⟩ |⟨rfl,hm⟩ |⟨rfl,hm⟩ |⟨rfl,hm⟩ |⟨rfl,hm⟩
 · exact jH n ca ct a b d N e u q E D m r (by simpa using h)
 · exact zG n ca ct a b d N e u q r (by simpa using h)
 · exact lo 3 n ca ct a b d N e (by decide) r fun c hc w M j=> by subst hc;exact Oz 3 n ca ct a b w M j (by omega) r (by simpa using h)
 · exact lo 4 n ca ct a b d N e (by decide) r fun c hc w M j=> by subst hc;exact YF 4 n ca ct a b w M j f o hm r (by simpa using h)
 · exact iG n ca ct a b d N e hm (l 1 (by omega)) r (by simpa using h)
 · exact QG n ca ct a b d N e r (by simpa using h)
 · exact jI n ca ct a b d N e r (by simpa using h)
 · exact IF n ca ct a b d N e hm r (by simpa using h)
 · exact lo 9 n ca ct a b d N e (by decide) r fun c hc w M j=> by subst hc;exact zF 9 n ca ct a b w M j hm (l 0 (by omega)) r (by simpa using h)
 · exact lo 10 n ca ct a b d N e (by decide) r fun c hc w M j=> by subst hc;exact OG 10 n ca ct a b w M j hm r (by simpa using h)
 · exact bG n ca ct a b d N e f o hm (fun s hs=> B 0 s (by omega) hs) r (by simpa using h)
 · exact lo 12 n ca ct a b d N e (by decide) r fun c hc w M j=> by subst hc;exact fI 12 n ca ct a b w M j hm r (by simpa using h)
 · exact lo 13 n ca ct a b d N e (by decide) r fun c hc w M j=> by subst hc;exact Oz 13 n ca ct a b w M j (by omega) r (by simpa using h)
 · exact lo 14 n ca ct a b d N e (by decide) r fun c hc w M j=> by subst hc;exact vI 14 n ca ct a b w M j hm (l 0 (by omega)) (l 1 (by omega)) r (by simpa using h)
 · exact lo 15 n ca ct a b d N e (by decide) r fun c hc w M j=> by subst hc;exact CC 15 n ca ct a b w M j (by decide) hm ol r (by simpa using h)
 · exact lo 16 n ca ct a b d N e (by decide) r fun c hc w M j=> by subst hc;exact CC 16 n ca ct a b w M j (by decide) hm ol r (by simpa using h)
