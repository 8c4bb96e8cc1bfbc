/- Lemmas towards the law. -/
import Derived.Test.YtckhbnmfnpolgaaGreatTBD
open Go renaming World->aN,Value->aU,heap_alloc_new->aT,info_parts->fX,Calls->aY,results->aS,wpAnyH_done->bO,wpAnyH_take->iT,wpAnyH_ready->fZ
open Nat renaming le_trans->bM,le_succ->aR,le_refl->aP,lt_of_lt_of_le->aZ,lt_irrefl->jO
open Go.World renaming alloc->aO,ownsRow_lit->fW,size_alloc->eQ
open Option.some renaming inj->cN
open Go.Act renaming put->eV
open List renaming getElem_toArray->bZ,getElem_cons_succ->bR,getElem_cons_zero->bQ,setIfInBounds_toArray->aV,set_cons_zero->bP,set_cons_succ->bN,length_append->cV,length_singleton->cW
open Go.AllReadyH renaming cons->eP,nil->fR
open Go.Proofs.Tryz
set_option linter.all false
set_option maxHeartbeats 8000000
set_option maxRecDepth 100000
namespace Go.Proofs.YtckhbnmfnpolgaaGreat
open Go Go.RowKit
theorem dk:(prog.info? 25).map (fun i=>(i.zero,i.size,i.bytes))=some (some (m0 0 0 none 0 0),3,40):=by kernel_rfl
def ec(W w:aN)(v:aU)(ks:List Tr):Prop:=ja (fun b=> b < W.heap.size) W w 25 v ks
section
variable {W w w' : aN} {v : aU} {ks : List Tr} {tr : Tr} {v0 v1 v2 : aU} {g : Nat}
theorem ec.ext(h:ec W w v ks)(e:Ext w w'):ec W w' v ks:=ja.ext h e
theorem ec.on(h:ec W w v ks)(o:i1 [g] w w')(c:g < W.heap.size):ec W w' v ks:=ja.only h o (fun b a=> by rw[List.mem_singleton.1 a];exact c) fun b a=> a
theorem ec.lit(e:Ext W w):ec W (w.alloc (.cells #[] 25)) (.slice (some ⟨w.heap.size,0,none⟩) 0 0) []:=ja.lit (aT w _) e.size
theorem ec.row(h:ec W w v ks): ∃A c,v= .slice A ks.length c/\ks.length<=c/\c<=maxLen/\(A=none->c=0)/\Tc W.heap.size w A ks:=by
 have hK:=h.lies (fun b a=> a);obtain⟨l,k,-⟩:=h;obtain⟨A,c,hv,e,f,j,-⟩:=hK;refine⟨A,c,hv,e,f,fun hA=> ?_,InK.mono (fun b a=>⟨by have:=a.2;omega,a.1⟩) (fun _ _=> rfl) j⟩;rcases k.2 with⟨d,-⟩ |⟨q,cap,i,d,-⟩
 · rw[d] at hv
   simp only[Value.slice.injEq] at hv;exact hv.2.2.symm
 · rw[d,hA] at hv
   simp at hv
theorem ec.row'{A:Option Addr}{n c:Nat}(h:ec W w (.slice A n c) ks):n=ks.length/\(n<=c/\c<=maxLen/\(A=none->c=0))/\Tc W.heap.size w A ks:=by
 obtain⟨f,i,hv,e,a,b,d⟩:=ec.row h;simp only[Value.slice.injEq] at hv;obtain⟨rfl,rfl,rfl⟩:=hv;exact⟨rfl,⟨e,a,b⟩,d⟩
theorem pJ{ops:Array Oper}{rest:List Oper}{o:Oper}{a:Act}{Q:Exit->Act->aN->Prop}{n:Nat}(s x:Operand)(hG:ec W w v ks)(e:Ext w w')(p:Ext W w)(hT:E2 w.heap.size w' tr (.agg #[v0,v1,v2]))(hn:ks.length < 1000)
 (r:o.op= .call {callee:= .builtin .append,args:=#[s,x],argTypes:=#[23,23]}) (m:o.guard=none) (hs:a.eval s=v) (hx:a.eval x= .slice (some ⟨n,0,none⟩) 1 1) (j:w'.heap[n]? =some (.cells #[v0,v1,v2] 25 (0,0)))
 (h: ∀A c f,ec W f (.slice A (ks++ [tr]).length c) (ks++ [tr])->Below W.heap.size w' f->wpList prog ops Q rest (a.put o.dst (.slice A (ks++ [tr]).length c)) f):wpList prog ops Q (o::rest) a w':=by
 obtain⟨u,hi,i,k,l⟩:=fX dk;have y:InT w' (fun b=> b < w'.heap.size/\v.ownBlock≠some b/\ ¬b < W.heap.size) tr (.agg #[v0,v1,v2]):=by
  obtain⟨C,z,D⟩:=hG;have:=p.size;exact InT.mono (fun b d=>⟨d.2,fun t=> by have:=(z.lt b t).2;have:=d.1;omega,by have:=d.1;omega⟩) (fun _ _=> rfl) hT
 refine JF _ m s x 23 r 25 u _ underlying23 hi i k l rfl hs (hG.ext e) (bM p.size e.size) y hx j (by omega) (fun E f q B=> ?_) (fun b d=> d);obtain⟨A,c,rfl,-⟩:=ec.row q;exact h A c f q B
theorem EL{k:aN}{ops:Array Oper}{o:Oper}{a:Act}{K:Act->aN->Prop}{Q:Exit->Act->aN->Prop}{E:Prop}{q:Nat}(s x:Operand)(hG:ec W w v ks)(d:i1 [g] w k)(B:g < W.heap.size)(e:Ext k w')(L:W.heap.size<=w.heap.size)(hT:E2 w.heap.size k tr (.agg #[v0,v1,v2]))(hn:ks.length < 1000)
 (u:o.op= .call {callee:= .builtin .append,args:=#[s,x],argTypes:=#[23,23]}) (p:o.guard=none) (hs:a.eval s=v) (hx:a.eval x= .slice (some ⟨q,0,none⟩) 1 1) (l:w'.heap[q]? =some (.cells #[v0,v1,v2] 25 (0,0)))
 (h: ∀A c i,ec W i (.slice A (ks++ [tr]).length c) (ks++ [tr])->Below W.heap.size w' i->K (a.put o.dst (.slice A (ks++ [tr]).length c)) i):if Region.wanted o (yielded ops a.tmps)=true then Oper.wp prog o a w' K Q else E:=by
 obtain⟨C,hi,j,m,n⟩:=fX dk;have z:=d.size;have t:=e.size;have D:InT w' (fun b=> b < w'.heap.size/\v.ownBlock≠some b/\ ¬b < W.heap.size) tr (.agg #[v0,v1,v2]):=by
  obtain⟨H,F,I⟩:=hG;exact InT.mono (fun b f=>⟨f.2,fun y=> by have:=(F.lt b y).2;have:=f.1;omega,by have:=f.1;omega⟩) (fun _ _=> rfl) (hT.ext e)
 refine XK _ p s x 23 u 25 C _ underlying23 hi j m n rfl hs ((hG.on d B).ext e) (by omega) D hx l (by omega) (fun J i r G=> ?_) (fun b f=> f);obtain⟨A,c,rfl,-⟩:=ec.row r;exact h A c i r G
theorem eL{p:aN}{ops:Array Oper}{rest:List Oper}{o:Oper}{a:Act}{Q:Exit->Act->aN->Prop}{q:Nat}(s x:Operand)(hG:ec W w v ks)(d:i1 [g] w p)(B:g < W.heap.size)(e:Ext p w')(J:W.heap.size<=w.heap.size)(hT:E2 w.heap.size w' tr (.agg #[v0,v1,v2]))(hn:ks.length < 1000)
 (u:o.op= .call {callee:= .builtin .append,args:=#[s,x],argTypes:=#[23,23]}) (n:o.guard=none) (hs:a.eval s=v) (hx:a.eval x= .slice (some ⟨q,0,none⟩) 1 1) (k:w'.heap[q]? =some (.cells #[v0,v1,v2] 25 (0,0)))
 (h: ∀A c i,ec W i (.slice A (ks++ [tr]).length c) (ks++ [tr])->Below W.heap.size w' i->wpList prog ops Q rest (a.put o.dst (.slice A (ks++ [tr]).length c)) i):wpList prog ops Q (o::rest) a w':=by
 obtain⟨C,hi,j,l,m⟩:=fX dk;have z:=d.size;have t:=e.size;have D:InT w' (fun b=> b < w'.heap.size/\v.ownBlock≠some b/\ ¬b < W.heap.size) tr (.agg #[v0,v1,v2]):=by
  obtain⟨G,E,H⟩:=hG;exact InT.mono (fun b f=>⟨f.2,fun y=> by have:=(E.lt b y).2;have:=f.1;omega,by have:=f.1;omega⟩) (fun _ _=> rfl) hT
 refine JF _ n s x 23 u 25 C _ underlying23 hi j l m rfl hs ((hG.on d B).ext e) (by omega) D hx k (by omega) (fun I i r F=> ?_) (fun b f=> f);obtain⟨A,c,rfl,-⟩:=ec.row r;exact h A c i r F
end
end Go.Proofs.YtckhbnmfnpolgaaGreat
namespace Go.Proofs.YtckhbnmfnpolgaaGreat
open Go.RowKit
attribute [local go_sem ↓] Go.wp_at_zero Go.wp_at_succ
theorem DI{f:Nat}(D:xa f){G:List Tr}{A:Option Addr}{ca:Nat}(j:aN)(N:Nat->Prop)(B:SJ j N A G ca)(k n:Int)(ks:List Tr)(q:ks.length=2)(Y:valid sigT (kd ks 1)=true)(v:aU)(hT:InT j N (.mk k n ks) v)(ty:Nat->An)(I:ty 0=O0 f G (kd ks 0))(J:ty 1=O0 f G (kd ks 1))(r:Tr×Int)(h:Vm ty (kd ks 1)=some r):aY prog 164 #[.slice A G.length ca,v] j (n9 N j r):=by
 unfold Vm at h;rw[I,J] at h;obtain⟨s,c,z,V,L⟩:=g8 h;clear h I J;have qi:=hdq Y;clear Y;obtain⟨At,ct,rfl,-,l9,hK⟩:=InT.mk_iff.1 hT;obtain⟨b,o,rfl,-,⟨O9,P3,P6,Q5,R6,O⟩,eh,ax,dv,df,bm,P⟩:=y17 hK q;rw[q];clear hT hK q;go_enter func164,ntmps164;go_wp2_with fail;generalize m:aO (aO j _) _=w1;obtain⟨d,br,S⟩:=Se m.symm B;have F:=hdq (both S (both (O.up d (aR _)) (P.up d (aR _))));have X:=xr w1;have Q:=F.out _ X.off;clear S B m O P;refine(MF D _ _ Q.1.1 _ _ Q.2.1.i 3 _ z.out).mono ?_;rintro e w2 ⟨u,rfl,hT,e⟩;replace X:=X.trans e;replace Q:=F.out _ X.off;simp only at hT⊢;obtain⟨ka,na,T⟩:=s;obtain⟨A1,c1,rfl,-,-,hK⟩:=InT.mk_iff.1 hT;clear hT;obtain⟨x,t⟩ |rfl:=cz c
 · have R:=cbn (X.blk br)
   have R':=fun o=> cbn ((X.alloc o).blk br)
   go_wp2_with fail;exact v9 (by simp[aS,results164,go_sem,R,R']) (L.out x.out) (((d.trans X).alloc _).set3 (aR _) _ _ _) rfl
 obtain⟨-,a,hv⟩:=Qs z.out;have p:=V.out rfl;simp only[Tr.kids] at a hv p;have a:T.length=2:=by have:S0 3=2:=rfl;omega
 have av:=hdq (show valid sigT (kd T 1)=true from qd hv (i:=1) (by simp only[Tr.kids];omega));clear z V L hv;obtain⟨b2,o2,rfl,y,⟨qq,pw,px,qs,rq,E⟩,f11,f12,f13,f14,f15,C⟩:=y17 hK a;rw[a];clear hK a;obtain⟨c,H,Z,M⟩:=yd p;clear p;go_wp2_with fail;generalize m:aO w2 _=w3;obtain⟨U,e⟩:=nb m;replace F:=hdq (both (rb F.out (X.trans e)) (both (k8 U (X.ne br)) (both (E.fm y e) (C.fm y e))));replace X:=X.trans e;replace br:=X.blk br;replace d:=d.trans X;replace X:=xr w3;replace Q:=F.out _ X.off;clear m U e;clear E C y;refine rgn (j.heap.size+1) (by kernel_rfl) X ?_;replace X:=X.drew;refine B3 [0,1,2,3,4,5,6,7,8] 2 (by kernel_rfl) X.off (fun _ _ _ _ _ h=> h) ?_
 iterate 9 (refine tk rfl (by rfl) (by intro w X;have Q:=F.out _ X;go_simp;(try with_reducible rfl)) ?_;try simp only[W2])
 replace Q:=F.out _ X.off;refine H0 9 (by kernel_rfl) rfl rfl (fun K hK=> ?_)
 go_simp
 go_at_call 116
 refine(Sm D _ _ Q.1.1.1 (kd ks 1) _ _ _ Q.1.2.2.i Q.2.2.1.l c H.out).mono ?_;rintro e w4 ⟨rfl,e⟩;replace X:=X.trans e;replace Q:=F.out _ X.off;refine hK.out _ _ X.off (fun _=> ?_);refine B3 [10] 0 (by kernel_rfl) X.off (fun _ _ _ _ _ h=> h) ?_;refine tk rfl (by rfl) (by intro w X;go_simp;(try with_reducible rfl)) ?_
 try simp only[W2]
 refine bO (by kernel_rfl) ?_ _;obtain⟨x,t⟩ |rfl:=cz c
 · have R:=cbn (X.blk br)
   go_wp2_with fail;exact v9 (by simp[aS,results164,go_sem,R]) (M.out x.out) ((d.trans X).set3 (aR _) _ _ _) rfl
 have hr:=cN (Z.out rfl);clear H Z M;go_wp2_with fail;refine rgn (j.heap.size+1) (by kernel_rfl) X ?_;replace X:=X.drew;refine B3 [0,1,2,3,4,5,6,7] 3 (by kernel_rfl) X.off (fun _ _ _ _ _ h=> h) ?_
 iterate 8 (refine tk rfl (by rfl) (by intro w X;have Q:=F.out _ X;go_simp;(try with_reducible rfl)) ?_;try simp only[W2])
 replace Q:=F.out _ X.off;refine H0 8 (by kernel_rfl) rfl rfl (fun K hK=> ?_)
 go_simp
 go_at_call 121
 refine(Vx _ _ av.out qi.out _ _ Q.1.1.1.hN _ _ Q.2.2.2.l Q.1.2.2.l).mono ?_;rintro e w5 ⟨u,rfl,hx,e⟩;replace X:=X.trans e;replace Q:=F.out _ X.off;refine hK.out _ _ X.off (fun _=> ?_);obtain⟨_,_,_,_,_,rfl⟩:=hx.three;have R:=cbn (X.blk br);refine H0 9 (by kernel_rfl) rfl rfl (fun K hK=> ?_)
 go_simp
 refine hK.out _ _ (X.off.set3 _ _ _) (fun _=> ?_);refine B3 [10] 0 (by kernel_rfl) (X.off.set3 _ _ _) (fun _ _ _ _ _ h=> h) ?_;refine tk rfl (by rfl) (by intro w X;go_simp;(try with_reducible rfl)) ?_
 try simp only[W2]
 refine bO (by kernel_rfl) ?_ _;go_wp2_with fail;exact L7 (by simp[aS,results164,go_sem,R]) (hx) (hr.symm) (d.trans X) (aR _) rfl
theorem xK{f:Nat}(y:xa f){G:List Tr}{A:Option Addr}{ca:Nat}(a:aN)(N:Nat->Prop)(z:SJ a N A G ca)(k n:Int)(ks:List Tr)(x:ks.length=3)(v:aU)(hT:InT a N (.mk k n ks) v)(ty:Nat->An)(C:ty 0=O0 f G (kd ks 0))(D:ty 1=O0 f G (kd ks 1))(M:ty 2=O0 f G (kd ks 2))(r:Tr×Int)(h:Ve ty (kd ks 0)=some r):aY prog 166 #[.slice A G.length ca,v] a (Ni N a r):=by
 unfold Ve at h;rw[C,D,M] at h;obtain⟨s,c,p,u,q⟩:=g8 h;clear h C D M;obtain⟨At,ct,rfl,-,l9,hK⟩:=InT.mk_iff.1 hT;obtain⟨b,o,rfl,-,⟨O9,P3,P6,Q5,R6,I⟩,⟨eh,ax,dv,df,bm,J⟩,Y,pn,oy,Z,V,B⟩:=j19 hK x;rw[x];clear hT hK x;go_enter func166,ntmps166;go_wp2_with fail;generalize H:aO (aO a _) _=P;obtain⟨j,br,S⟩:=Se H.symm z;have F:=hdq (both S (both (I.up j (aR _)) (both (J.up j (aR _)) (B.up j (aR _)))));have X:=xr P;have Q:=F.out _ X.off;clear S z H I J B;refine(Ow y _ _ Q.1.1 _ _ Q.2.1.i _ p.out).mono ?_;rintro e w2 ⟨rfl,e⟩;replace X:=X.trans e;replace Q:=F.out _ X.off;simp only;obtain⟨m,t⟩ |rfl:=cz c
 · go_wp2_with fail
   refine(y15 _ 2 s.num).mono ?_;rintro e T ⟨rfl,e⟩;replace X:=X.trans e;replace Q:=F.out _ X.off;have R:=cbn (X.blk br);go_wp2_with fail;exact pb (by simp[aS,results166,go_sem,R]) (Z5 _ _ 2 s.num) (um (q.out m.out) m.out) (j.trans X) (aR _) rfl
 obtain⟨c,O,L,E⟩:=yd (u.out rfl);clear p u q;go_wp2_with fail;refine rgn (a.heap.size+1) (by kernel_rfl) X ?_;replace X:=X.drew;refine B3 [0,1,2,3,4,5,6,7,8] 2 (by kernel_rfl) X.off (fun _ _ _ _ _ h=> h) ?_
 iterate 9 (refine tk rfl (by rfl) (by intro w X;have Q:=F.out _ X;go_simp;(try with_reducible rfl)) ?_;try simp only[W2])
 replace Q:=F.out _ X.off;refine H0 9 (by kernel_rfl) rfl rfl (fun K hK=> ?_)
 go_simp
 go_at_call 116
 refine(Sm y _ _ Q.1.1 (kd ks 1) _ _ _ Q.2.2.1.i Q.2.1.l c O.out).mono ?_;rintro e T ⟨rfl,e⟩;replace X:=X.trans e;replace Q:=F.out _ X.off;refine hK.out _ _ X.off (fun _=> ?_);refine B3 [10] 0 (by kernel_rfl) X.off (fun _ _ _ _ _ h=> h) ?_;refine tk rfl (by rfl) (by intro w X;go_simp;(try with_reducible rfl)) ?_
 try simp only[W2]
 refine bO (by kernel_rfl) ?_ _;obtain⟨m,t⟩ |rfl:=cz c
 · go_wp2_with fail
   refine(y15 _ 2 s.num).mono ?_;rintro e U ⟨rfl,e⟩;replace X:=X.trans e;replace Q:=F.out _ X.off;have R:=cbn (X.blk br);go_wp2_with fail;exact pb (by simp[aS,results166,go_sem,R]) (Z5 _ _ 2 s.num) (um (E.out m.out) m.out) (j.trans X) (aR _) rfl
 obtain⟨d,p,u,q⟩:=yd (L.out rfl);clear O L E;go_wp2_with fail;refine rgn (a.heap.size+1) (by kernel_rfl) X ?_;replace X:=X.drew;refine B3 [0,1,2,3,4,5,6,7,8] 2 (by kernel_rfl) X.off (fun _ _ _ _ _ h=> h) ?_
 iterate 9 (refine tk rfl (by rfl) (by intro w X;have Q:=F.out _ X;go_simp;(try with_reducible rfl)) ?_;try simp only[W2])
 replace Q:=F.out _ X.off;refine H0 9 (by kernel_rfl) rfl rfl (fun K hK=> ?_)
 go_simp
 go_at_call 116
 refine(Sm y _ _ Q.1.1 (kd ks 2) _ _ _ Q.2.2.2.i Q.2.1.l d p.out).mono ?_;rintro e U ⟨rfl,e⟩;replace X:=X.trans e;replace Q:=F.out _ X.off;refine hK.out _ _ X.off (fun _=> ?_);refine B3 [10] 0 (by kernel_rfl) X.off (fun _ _ _ _ _ h=> h) ?_;refine tk rfl (by rfl) (by intro w X;go_simp;(try with_reducible rfl)) ?_
 try simp only[W2]
 refine bO (by kernel_rfl) ?_ _;go_wp2_with fail;refine(y15 _ 2 s.num).mono ?_;rintro e w5 ⟨rfl,e⟩;replace X:=X.trans e;replace Q:=F.out _ X.off;have R:=cbn (X.blk br);go_wp2_with fail;exact pb (by simp[aS,results166,go_sem,R]) (Z5 _ _ 2 s.num) (Nl u.out q.out) (j.trans X) (aR _) rfl
theorem QI(t:Tr)(hv:valid sigT t=true)(j:aN)(N:Nat->Prop)(hN: ∀b,j.heap.size<=b->N b)(v:aU)(m:Lies j t v):aY prog 190 #[v] j fun e w'=> ∃u,e= .returned u/\InT w' N (Oc t) u/\Ext j w':=by
 have p:=hdq hv;have o:=hdq (fun W (A:Ext j W)=> m.ext A);obtain⟨k,n,ks⟩:=t;obtain⟨At,ct,rfl,-⟩:=Lies.mk_iff.1 m;clear m hv;go_enter func190,ntmps190;go_wp2_with fail;generalize d:aO (aO j _) _=s;obtain⟨f,br,S⟩:=sn2 d.symm hN;have F:=hdq (S);have X:=xr s;have Q:=F.out _ X.off;clear S hN d;refine(y15 _ 6 0).mono ?_;rintro e C ⟨rfl,e⟩;replace X:=X.trans e;replace Q:=F.out _ X.off;go_wp2_with fail;generalize d:aO C _=D;obtain⟨i,e⟩:=nb d;replace F:=hdq (both (rb F.out (X.trans e)) (k8 i (X.ne br)));replace X:=X.trans e;replace br:=X.blk br;replace f:=f.trans X;replace X:=xr D;replace Q:=F.out _ X.off;clear d i e;refine(so _ 1 p.out (by omega) (by omega) _ _ Q.1.1 _ (o.out _ (f.trans X))).mono ?_;rintro e H ⟨u,rfl,a,e⟩;replace X:=X.trans e;replace Q:=F.out _ X.off;obtain⟨_,_,_,_,_,rfl⟩:=a.three;go_wp2_with fail;refine(y15 _ 1 0).mono ?_;rintro e L ⟨rfl,e⟩;replace a:=a.later e;replace X:=X.trans e;replace Q:=F.out _ X.off;go_wp2_with fail;obtain⟨e,c⟩:=n7 25 a (Z5 _ _ 1 0) Q.1.1;replace X:=X.trans e;replace Q:=F.out _ X.off;refine(db 5 Q.1.1 c rfl).mono ?_;rintro e r ⟨A5,J,rfl,l,e⟩;replace X:=X.trans e;replace Q:=F.out _ X.off;clear c;go_wp2_with fail;generalize d:aO r _=z;obtain⟨i,e⟩:=nb d;replace F:=hdq (both (rb F.out (X.trans e)) (both (k8 i (X.ne br)) (l.up e)));replace X:=X.trans e;replace br:=X.blk br;replace f:=f.trans X;replace X:=xr z;replace Q:=F.out _ X.off;clear d i e;clear a l;refine(so _ 2 p.out (by omega) (by omega) _ _ Q.1.1.1 _ (o.out _ (f.trans X))).mono ?_;rintro e E ⟨u,rfl,a,e⟩;replace X:=X.trans e;replace Q:=F.out _ X.off;obtain⟨_,_,_,_,_,rfl⟩:=a.three;go_wp2_with fail;refine(y15 _ 1 1).mono ?_;rintro e O ⟨rfl,e⟩;replace a:=a.later e;replace X:=X.trans e;replace Q:=F.out _ X.off;go_wp2_with fail;obtain⟨e,c⟩:=Cd 25 (Z5 _ _ 1 1) Q.1.1.1;replace a:=a.later e;replace X:=X.trans e;replace Q:=F.out _ X.off;refine(db 8 Q.1.1.1 c rfl).mono ?_;rintro e M ⟨Z,c9,rfl,l,e⟩;replace a:=a.later e;replace X:=X.trans e;replace Q:=F.out _ X.off;clear c;go_wp2_with fail;obtain⟨e,c⟩:=n7 25 a l Q.1.1.1;replace X:=X.trans e;replace Q:=F.out _ X.off;refine(db 5 Q.1.1.1 c rfl).mono ?_;rintro e x ⟨V,q,rfl,hc,e⟩;replace X:=X.trans e;replace Q:=F.out _ X.off;clear c;go_wp2_with fail;generalize d:aO x _=B;obtain⟨i,e⟩:=nb d;replace F:=hdq (both (rb F.out (X.trans e)) (both (k8 i (X.ne br)) (hc.up e)));replace X:=X.trans e;replace br:=X.blk br;replace f:=f.trans X;replace X:=xr B;replace Q:=F.out _ X.off;clear d i e;clear a l hc;refine rgn (j.heap.size+1) (by kernel_rfl) X ?_;replace X:=X.drew;refine B3 [0,1,2] 5 (by kernel_rfl) X.off (fun _ _ _ _ _ h=> h) ?_
 iterate 3 (refine tk rfl (by rfl) (by intro w X;have Q:=F.out _ X;go_simp;(try with_reducible rfl)) ?_;try simp only[W2])
 replace Q:=F.out _ X.off;refine H0 3 (by kernel_rfl) rfl rfl (fun K hK=> ?_)
 go_simp
 obtain⟨e,c⟩:=n7 25 Q.1.2.2 Q.2.2 Q.1.1.1.1;replace X:=X.trans e;replace Q:=F.out _ X.off;refine hK.out _ _ X.off (fun _=> ?_);refine H0 4 (by kernel_rfl) rfl rfl (fun K hK=> ?_)
 go_simp
 go_at_call 60
 refine(db 3 Q.1.1.1.1 c rfl).mono ?_;rintro e T ⟨I,P,rfl,hx,e⟩;replace X:=X.trans e;replace Q:=F.out _ X.off;refine hK.out _ _ X.off (fun _=> ?_);refine H0 5 (by kernel_rfl) rfl rfl (fun K hK=> ?_)
 go_simp
 obtain⟨e,c⟩:=n7 25 (Z5 _ _ 6 0) hx Q.1.1.1.1;replace X:=X.trans e;replace Q:=F.out _ X.off;refine hK.out _ _ X.off (fun _=> ?_);refine H0 6 (by kernel_rfl) rfl rfl (fun K hK=> ?_)
 go_simp
 go_at_call 60
 refine(db 3 Q.1.1.1.1 c rfl).mono ?_;rintro e Y ⟨G,U,rfl,y,e⟩;replace X:=X.trans e;replace Q:=F.out _ X.off;refine hK.out _ _ X.off (fun _=> ?_);have R:=cbn (X.blk br);refine H0 7 (by kernel_rfl) rfl rfl (fun K hK=> ?_)
 go_simp
 refine hK.out _ _ (X.off.set3 _ _ _) (fun _=> ?_);refine bO (by kernel_rfl) ?_ _;go_wp2_with fail;exact bodyPost_ret (v:= m0 3 0 _ _ _) (by simp[aS,results190,go_sem,R]) rfl ⟨_,rfl,y.ret _ _ _,(f.trans X).set3 (aR _) _ _ _⟩
theorem NK:(prog.info? 25).map (fun i=>(i.zero,i.size,i.bytes))=some (some (m0 0 0 none 0 0),3,40):=by kernel_rfl
theorem kH{P:Program}(w:aN){o:Oper}{a:Act}{K:Act->aN->Prop}{Q:Exit->Act->aN->Prop}(s x:Operand)(t:TypeId)
 (O:o.op= .call {callee:= .builtin .append,args:=#[s,x],argTypes:=#[t,t]})
 (e:TypeId) (i:TypeInfo) (z:aU) (ht:P.underlying t=some (.slice e)) (hi:P.info? e=some i) (L:i.zero=some z) (l:i.size=3) (F:i.bytes=40) (E:z.cells.size=3)
 {W:aN} {v:aU} {A:Option Addr} {cap:Nat} {ks:List Tr} (hs:a.eval s=v) (d:w.ownsRow W.heap.size e 3 v 0 []) (hE:Ext W w) (hx:a.eval x= .slice A ks.length cap) (T:A=none->cap=0) {S:Nat->Prop} (hS: ∀b,S b->b < W.heap.size) (hK:InK w S A ks) (hn:ks.length<=1048576)
 (h: ∀f w' c,w'.ownsRow W.heap.size e 3 f ks.length c->W1 w' S c ks->Ext W w'->(∀b,b < w.heap.size->v.ownBlock≠some b->w'.heap[b]? =w.heap[b]?)->K (a.put o.dst f) w'):o.wp P a w K Q:=by
 have fin: ∀f w' c,(Builtin.append_ #[t,t] o.type #[v,.slice A ks.length cap]).run P w= .ok f w'->w'.ownsRow W.heap.size e 3 f ks.length c->W1 w' S c ks->Ext W w'->(∀b,b < w.heap.size->v.ownBlock≠some b->w'.heap[b]? =w.heap[b]?)->o.wp P a w K Q:=by
  intro f w' c hr V U J M;unfold Oper.wp execOp;simp only[O,resolve,invoke,builtin,Sem.run_bind,Sem.run_pure,Result.andThen_ok,List.map_toArray,List.map_cons,List.map_nil,hs,hx,hr];exact h f w' c V U J M
 have I: ∀(n:Addr) (c:List aU),A=some n->c.length=ks.length*3->(∀j u,c[j]? =some u->w.cell? (n.add j)=some u)->(∀u∈c,u.oneCell'=true)->W1 w S c ks->o.wp P a w K Q:=by
  rintro n c rfl q y C B;obtain⟨f,w',hr,G,H,Y⟩:=Oo (P:=P) w W.heap.size t o.type e i z 3 40 ht hi L l F E (by decide) v 0 [] d n ks.length cap c q y C (by unfold maxLen;omega) (by omega) hE.size;have hx:=hE.grown H (fun k hk=>(d.lt k hk).1);rw[Nat.zero_add,List.nil_append] at G;exact fin f w' c hr G (B.mono (fun _ m=> m) (fun b m=>(hx.heap b (hS b m)).trans (hE.heap b (hS b m)).symm)) hx (fun b m r=> H.block b m (fun h=> r h.symm))
 cases A with
 |none=>
  obtain rfl:=T rfl;have p:ks= []:=by
   rcases hK with h|⟨b,o,h,_⟩
   · exact h
   · cases h
  subst p;exact fin v w [] (run_append_owned_none (P:=P) w W.heap.size t o.type e i 3 ht hi v 0 [] d) d W1.nil hE (fun _ _ _=> rfl)
 |some n=>
  rcases hK with rfl|⟨b,X,D,R,hl⟩
  · exact I n [] rfl rfl (fun _ _ h=> by cases h) (fun _ h=> by cases h) W1.nil
  · obtain rfl:=cN D
    obtain⟨c,q,y,C,B⟩:=hl.rowL;exact I _ c rfl q (fun j u N=> by rw[Addr.add_lit];exact y j u N) C B
theorem AI{G:List Tr}{A:Option Addr}{ca:Nat}(q:aN)(N:Nat->Prop)(hJ:SJ q N A G ca)(ig:G.length<=20)(t:Tr)(Fg:valid sigT t=true)(v:aU)(ht:InT q N t v):
 aY prog 186 #[.slice A G.length ca,v] q fun e w'=> ∃B c,e= .returned (.slice B (G.length+1) c)/\SJ w' N B (G++ [t]) c/\Ext q w':=by
 obtain⟨k,n,ks⟩:=t;have Mf:=hdq Fg;clear Fg;obtain⟨At,ct,rfl,-⟩:=InT.mk_iff.1 ht;obtain⟨i0,hi,z,C,u⟩:=fX NK;have HT:=hdq ht.bound;have y:=hdq hJ;have l:=(xr q).alloc (.cells #[.int .i64 k,.int .i64 n,.slice At ks.length ct] 25);have B1:=aT q (.cells #[.int .i64 k,.int .i64 n,.slice At ks.length ct] 25);obtain⟨d,e9⟩: ∃x,x=q.alloc (.cells #[.int .i64 k,.int .i64 n,.slice At ks.length ct] 25):=⟨_,rfl⟩;rw[<-e9] at l B1;clear ht hJ;go_enter func186,ntmps186;go_wp2_with fail;rw[<-e9];clear e9;have X:Ext d d.drew:=(xr d).drew;have Z1:=cb3 B1;have E:=hdq (show∀w',Ext d w'->w'.cell? ⟨q.heap.size,0,none⟩=some (.int .i64 k)/\w'.cell? ⟨q.heap.size,1,none⟩=some (.int .i64 n)/\w'.cell? ⟨q.heap.size,2,none⟩=some (.slice At ks.length ct) from fun w' h=>⟨h.cell Z1.1,h.cell Z1.2.1,h.cell Z1.2.2.1⟩);have Jn:=hdq (show∀w',Ext d w'->InK w' (fun b=> N b/\b < q.heap.size) A G from fun w' h=> InK.mono (fun _ a=> a) (fun b a=>(l.trans h).heap b a.2) y.out.hG.bound);have L:=hdq (show∀b,N b/\b < q.heap.size->b < d.heap.size from fun b a=> by have:=l.size;omega);clear Z1 B1;refine wp_region_held_drew (S:=fun w'=> w'.cell? ⟨q.heap.size,0,none⟩=some (.int .i64 k)/\w'.cell? ⟨q.heap.size,1,none⟩=some (.int .i64 n)/\w'.cell? ⟨q.heap.size,2,none⟩=some (.slice At ks.length ct)) (by kernel_rfl) (E.out _ X) (fun _=> ?_);refine iT (i:=1) (v:= ?v1) rfl (by kernel_rfl) (by kernel_rfl) (by kernel_rfl) (fun _ _ _ h=> h) (Or.inl ⟨by rfl, ?hy1⟩) (by assumption) ?rest1
 case hy1=>(intro w j;(try dsimp only at j);go_simp;(try with_reducible rfl))
 try simp only[eV,bZ,bR,bQ,aV,bP,bN]
 refine iT (i:=3) (v:= ?v3) rfl (by kernel_rfl) (by kernel_rfl) (by kernel_rfl) (fun _ _ _ h=> h) (Or.inl ⟨by rfl, ?hy3⟩) (by assumption) ?rest3
 case hy3=>(intro w j;(try dsimp only at j);go_simp;(try with_reducible rfl))
 try simp only[eV,bZ,bR,bQ,aV,bP,bN]
 refine fZ (rs:= [0,4]) (by kernel_rfl) (by simp) ?_;refine eP rfl (fun K hK=> ?_) (eP rfl (fun K hK=> ?_) fR)
 ·
  go_simp
  refine hK.out _ _ (E.out _ (X.alloc _)) (fun f=> ?_)
  try simp only[eV,bZ,bR,bQ,aV,bP,bN]
  have XA:Ext d (d.drew.alloc (.cells #[] 25)):=X.alloc _;have OA:(d.drew.alloc (.cells #[] 25)).ownsRow d.drew.heap.size 25 3 (.slice (some ⟨d.drew.heap.size,0,none⟩) 0 0) 0 []:=fW (size:=3) d.drew #[] 0 (aP _) (Nat.zero_le _) rfl;refine fZ (rs:= [2,4]) (by kernel_rfl) (by simp) ?_;refine eP rfl (fun K hK=> ?_) (eP rfl (fun K hK=> ?_) fR)
  · refine kH _ (.tmp 5) (.tmp 6) _ (by rfl) 25 i0 _ underlying23 hi z C u (W:=d.drew) rfl (by rfl) OA ((xr _).alloc _) (by rfl) y.out.hA L.out (Jn.out _ XA) (by omega) ?_
    intro v2 w2 xs Z M hx2 p;have D:=X.trans hx2;refine hK.out _ _ (E.out _ D) (fun f=> ?_)
    try simp only[eV,bZ,bR,bQ,aV,bP,bN]
    refine fZ (rs:= [4]) (by kernel_rfl) (by simp) ?_;refine eP rfl (fun K hK=> ?_) fR
    go_simp
    refine hK.out _ _ (E.out _ (D.alloc _)) (fun f=> ?_)
    try simp only[eV,bZ,bR,bQ,aV,bP,bN]
    have r:=aT w2 (.cells #[.int .i64 k,.int .i64 n,.slice At ks.length ct] 25);have s:=(World.ownsRow.alloc Z (.cells #[.int .i64 k,.int .i64 n,.slice At ks.length ct] 25));have ul:=(M.mono (fun _ a=> a) (fun b a=> Below.heap_alloc w2 (.cells #[.int .i64 k,.int .i64 n,.slice At ks.length ct] 25) b (aZ (L.out b a) D.size)));have io:Ext d _:=D.alloc (.cells #[.int .i64 k,.int .i64 n,.slice At ks.length ct] 25);have m:=io.size;have Y:ja (fun b=> b < d.heap.size/\ ¬N b) d _ 25 v2 G:=⟨xs,s,W1.mono (fun b a=>⟨aZ (L.out b a) m,fun e=> jO _ (aZ (L.out b a) (s.lt b e).1),fun e=> e.2 a.1⟩) (fun _ _=> rfl) ul⟩;clear Z M hx2 p D ul m;refine fZ (rs:= [5]) (by kernel_rfl) (by simp) ?_;refine eP rfl (fun K hK=> ?_) fR;have Q:=l.trans io;refine By _ (.tmp 7) (.tmp 9) _ (by rfl) 25 i0 _ underlying23 hi z C u rfl (by rfl) Y io.size (tr:= .mk k n ks) (InT.mono (fun b a=>⟨by have:=a.2;have:=Q.size;omega,fun e=> jO _ (aZ (aZ a.2 l.size) (s.lt b e).1),fun e=> e.2 a.1⟩) (fun b a=> Q.heap b a.2) HT.out) (by rfl) r (by omega) ?_ (fun b a=> a.1);intro v5 H P U;have I:Ext d H:=Ext.trans' io U (aP _);refine hK.out _ _ (E.out _ I) (fun f=> ?_);obtain⟨J,O,rfl,R,V,T,-⟩:=P.lies (fun b a=> a.1);have F:InK H N J (G++ [.mk k n ks]):=InK.mono (fun b a=> by
     by_cases e:N b
     · exact e
     · exact y.out.hN b (by have:=l.size;exact bM this (Nat.not_lt.1 fun h=> a.2 ⟨h,e⟩))) (fun _ _=> rfl) T
    have HQ:=hdq (show SJ H N J (G++ [.mk k n ks]) O from⟨fun b a=> y.out.hN b (by have:=(l.trans I).size;omega),R,V,F,by rw[cV,cW];omega,fun h=> by
     subst h;rcases F with h|⟨b,o,h,-⟩
     · simp at h
     · exact absurd h (by simp),fun x hx=>(List.mem_append.1 hx).elim (y.out.hv x) fun e=>(List.mem_singleton.1 e)▸Mf.out⟩)
    rw[cV,cW] at*;clear F T P U Y R V s
    try simp only[eV,bZ,bR,bQ,aV,bP,bN]
    refine iT (i:=6) (v:= ?vc6_1) rfl (by kernel_rfl) (by kernel_rfl) (by kernel_rfl) (fun _ _ _ h=> h) (Or.inl ⟨by rfl, ?hyc6_1⟩) (by assumption) ?restc6_1
    case hyc6_1=>(intro w j;(try dsimp only at j);go_simp;(try with_reducible rfl))
    try simp only[eV,bZ,bR,bQ,aV,bP,bN]
    refine bO (by kernel_rfl) ?_ _;go_wp2_with fail;go_ret;exact⟨J,O,rfl,HQ.out,l.trans I⟩
  · go_simp
    refine hK.out _ _ (E.out _ (XA.alloc _)) (fun f=> ?_)
    try simp only[eV,bZ,bR,bQ,aV,bP,bN]
    have r:=aT (d.drew.alloc (.cells #[] 25)) (.cells #[.int .i64 k,.int .i64 n,.slice At ks.length ct] 25);refine fZ (rs:= [2]) (by kernel_rfl) (by simp) ?_;refine eP rfl (fun K hK=> ?_) fR;refine kH _ (.tmp 5) (.tmp 6) _ (by rfl) 25 i0 _ underlying23 hi z C u (W:=d.drew) rfl (by rfl) (OA.alloc _) (((xr _).alloc _).alloc _) (by rfl) y.out.hA L.out (Jn.out _ (XA.alloc _)) (by omega) ?_;intro v2 w2 xs Z M hx2 p;have D:=X.trans hx2;have h4:=(p _ (D1 r) (by simp[Value.ownBlock])).trans r;clear r;refine hK.out _ _ (E.out _ D) (fun f=> ?_)
    try simp only[eV,bZ,bR,bQ,aV,bP,bN]
    have r:=h4;have s:=Z;have ul:=M;have io:Ext d _:=D;have m:=io.size;have Y:ja (fun b=> b < d.heap.size/\ ¬N b) d _ 25 v2 G:=⟨xs,s,W1.mono (fun b a=>⟨aZ (L.out b a) m,fun e=> jO _ (aZ (L.out b a) (s.lt b e).1),fun e=> e.2 a.1⟩) (fun _ _=> rfl) ul⟩;clear Z M hx2 p D ul m;rw[show(d.drew.alloc (.cells #[] 25)).heap.size=d.heap.size+1 from eQ ..] at r;refine fZ (rs:= [5]) (by kernel_rfl) (by simp) ?_;refine eP rfl (fun K hK=> ?_) fR;have Q:=l.trans io;refine By _ (.tmp 7) (.tmp 9) _ (by rfl) 25 i0 _ underlying23 hi z C u rfl (by rfl) Y io.size (tr:= .mk k n ks) (InT.mono (fun b a=>⟨by have:=a.2;have:=Q.size;omega,fun e=> jO _ (aZ (aZ a.2 l.size) (s.lt b e).1),fun e=> e.2 a.1⟩) (fun b a=> Q.heap b a.2) HT.out) (by rfl) r (by omega) ?_ (fun b a=> a.1);intro v5 H P U;have I:Ext d H:=Ext.trans' io U (aP _);refine hK.out _ _ (E.out _ I) (fun f=> ?_);obtain⟨J,O,rfl,R,V,T,-⟩:=P.lies (fun b a=> a.1);have F:InK H N J (G++ [.mk k n ks]):=InK.mono (fun b a=> by
     by_cases e:N b
     · exact e
     · exact y.out.hN b (by have:=l.size;exact bM this (Nat.not_lt.1 fun h=> a.2 ⟨h,e⟩))) (fun _ _=> rfl) T
    have HQ:=hdq (show SJ H N J (G++ [.mk k n ks]) O from⟨fun b a=> y.out.hN b (by have:=(l.trans I).size;omega),R,V,F,by rw[cV,cW];omega,fun h=> by
     subst h;rcases F with h|⟨b,o,h,-⟩
     · simp at h
     · exact absurd h (by simp),fun x hx=>(List.mem_append.1 hx).elim (y.out.hv x) fun e=>(List.mem_singleton.1 e)▸Mf.out⟩)
    rw[cV,cW] at*;clear F T P U Y R V s
    try simp only[eV,bZ,bR,bQ,aV,bP,bN]
    refine iT (i:=6) (v:= ?vc6_2) rfl (by kernel_rfl) (by kernel_rfl) (by kernel_rfl) (fun _ _ _ h=> h) (Or.inl ⟨by rfl, ?hyc6_2⟩) (by assumption) ?restc6_2
    case hyc6_2=>(intro w j;(try dsimp only at j);go_simp;(try with_reducible rfl))
    try simp only[eV,bZ,bR,bQ,aV,bP,bN]
    refine bO (by kernel_rfl) ?_ _;go_wp2_with fail;go_ret;exact⟨J,O,rfl,HQ.out,l.trans I⟩
 · go_simp
   refine hK.out _ _ (E.out _ (X.alloc _)) (fun f=> ?_)
   try simp only[eV,bZ,bR,bQ,aV,bP,bN]
   have XB:Ext d (d.drew.alloc (.cells #[.int .i64 k,.int .i64 n,.slice At ks.length ct] 25)):=X.alloc _;have r:=aT d.drew (.cells #[.int .i64 k,.int .i64 n,.slice At ks.length ct] 25);refine fZ (rs:= [0]) (by kernel_rfl) (by simp) ?_;refine eP rfl (fun K hK=> ?_) fR
   go_simp
   refine hK.out _ _ (E.out _ (XB.alloc _)) (fun f=> ?_)
   try simp only[eV,bZ,bR,bQ,aV,bP,bN]
   have OA:((d.drew.alloc (.cells #[.int .i64 k,.int .i64 n,.slice At ks.length ct] 25)).alloc (.cells #[] 25)).ownsRow d.drew.heap.size 25 3 (.slice (some ⟨d.heap.size+1,0,none⟩) 0 0) 0 []:=by
    have:=fW (base:=d.drew.heap.size) (size:=3) (e:=25) (d.drew.alloc (.cells #[.int .i64 k,.int .i64 n,.slice At ks.length ct] 25)) #[] 0 ((xr d.drew).alloc (.cells #[.int .i64 k,.int .i64 n,.slice At ks.length ct] 25)).size (Nat.zero_le _) rfl
    rwa [show(d.drew.alloc (.cells #[.int .i64 k,.int .i64 n,.slice At ks.length ct] 25)).heap.size=d.heap.size+1 from eQ ..] at this
   refine fZ (rs:= [2]) (by kernel_rfl) (by simp) ?_;refine eP rfl (fun K hK=> ?_) fR;refine kH _ (.tmp 5) (.tmp 6) _ (by rfl) 25 i0 _ underlying23 hi z C u (W:=d.drew) rfl (by rfl) OA (((xr _).alloc _).alloc _) (by rfl) y.out.hA L.out (Jn.out _ (XB.alloc _)) (by omega) ?_;intro v2 w2 xs Z M hx2 p;have D:=X.trans hx2;have h4:=(p _ (D1 (((xr (d.drew.alloc (.cells #[.int .i64 k,.int .i64 n,.slice At ks.length ct] 25))).alloc (.cells #[] 25)).blk r)) (by show some (d.heap.size+1)≠some d.heap.size;simp)).trans (((xr (d.drew.alloc (.cells #[.int .i64 k,.int .i64 n,.slice At ks.length ct] 25))).alloc (.cells #[] 25)).blk r);clear r;refine hK.out _ _ (E.out _ D) (fun f=> ?_)
   try simp only[eV,bZ,bR,bQ,aV,bP,bN]
   have r:=h4;have s:=Z;have ul:=M;have io:Ext d _:=D;have m:=io.size;have Y:ja (fun b=> b < d.heap.size/\ ¬N b) d _ 25 v2 G:=⟨xs,s,W1.mono (fun b a=>⟨aZ (L.out b a) m,fun e=> jO _ (aZ (L.out b a) (s.lt b e).1),fun e=> e.2 a.1⟩) (fun _ _=> rfl) ul⟩;clear Z M hx2 p D ul m;refine fZ (rs:= [5]) (by kernel_rfl) (by simp) ?_;refine eP rfl (fun K hK=> ?_) fR;have Q:=l.trans io;refine By _ (.tmp 7) (.tmp 9) _ (by rfl) 25 i0 _ underlying23 hi z C u rfl (by rfl) Y io.size (tr:= .mk k n ks) (InT.mono (fun b a=>⟨by have:=a.2;have:=Q.size;omega,fun e=> jO _ (aZ (aZ a.2 l.size) (s.lt b e).1),fun e=> e.2 a.1⟩) (fun b a=> Q.heap b a.2) HT.out) (by rfl) r (by omega) ?_ (fun b a=> a.1);intro v5 H P U;have I:Ext d H:=Ext.trans' io U (aP _);refine hK.out _ _ (E.out _ I) (fun f=> ?_);obtain⟨J,O,rfl,R,V,T,-⟩:=P.lies (fun b a=> a.1);have F:InK H N J (G++ [.mk k n ks]):=InK.mono (fun b a=> by
    by_cases e:N b
    · exact e
    · exact y.out.hN b (by have:=l.size;exact bM this (Nat.not_lt.1 fun h=> a.2 ⟨h,e⟩))) (fun _ _=> rfl) T
   have HQ:=hdq (show SJ H N J (G++ [.mk k n ks]) O from⟨fun b a=> y.out.hN b (by have:=(l.trans I).size;omega),R,V,F,by rw[cV,cW];omega,fun h=> by
    subst h;rcases F with h|⟨b,o,h,-⟩
    · simp at h
    · exact absurd h (by simp),fun x hx=>(List.mem_append.1 hx).elim (y.out.hv x) fun e=>(List.mem_singleton.1 e)▸Mf.out⟩)
   rw[cV,cW] at*;clear F T P U Y R V s
   try simp only[eV,bZ,bR,bQ,aV,bP,bN]
   refine iT (i:=6) (v:= ?vc6_3) rfl (by kernel_rfl) (by kernel_rfl) (by kernel_rfl) (fun _ _ _ h=> h) (Or.inl ⟨by rfl, ?hyc6_3⟩) (by assumption) ?restc6_3
   case hyc6_3=>(intro w j;(try dsimp only at j);go_simp;(try with_reducible rfl))
   try simp only[eV,bZ,bR,bQ,aV,bP,bN]
   refine bO (by kernel_rfl) ?_ _;go_wp2_with fail;go_ret;exact⟨J,O,rfl,HQ.out,l.trans I⟩
theorem tH{T:Tr}{F:Tr->An}{r:Tr×Int}(h:thn (some (S4 T 13)) F=some r): ∃X d,Rb T=(X,d)/\(d≠0->r=(D2,d))/\(d=0->X.kind≠13->r=(D2,1))/\(d=0->X.kind=13->F X=some r/\X.kids.length=2/\valid sigT X=true):=by
 obtain⟨s,c,o,i,b⟩:=we h;obtain⟨X,d,a,f,j⟩:=QD (cN o);refine⟨X,d,a,fun hd=> ?_,fun hd hk=> ?_,fun hd hk=> ?_⟩
 · obtain⟨rfl,rfl⟩:=Prod.mk.inj (j hd)
   exact b hd
 · obtain⟨rfl,rfl⟩:=Prod.mk.inj ((f hd).2 hk)
   exact b (by decide)
 · obtain⟨rfl,rfl⟩:=Prod.mk.inj ((f hd).1 hk)
   refine⟨i rfl, ?_⟩;subst hd;have m:b8 T 200=(s,0):=by
    unfold Rb at a
    split at a
    · exact absurd (Prod.mk.inj a).2 (by decide)
    · obtain⟨l,-⟩:=Prod.mk.inj a
      exact Prod.ext l (Decidable.of_not_not ‹¬_›)
   obtain⟨-,-,-,hv⟩:=BA m;refine⟨?_,hv⟩;obtain⟨k,n,ks⟩:=s;have e:(ks.length:Int)=S0 k:=(m6 (N4 hv).1).1.symm;simp only[Tr.kind] at hk;subst hk;have:S0 13=2:=rfl;simp only[Tr.kids];omega
theorem wK{T:Tr}{F:Tr->An}{r:Tr×Int}(h:thn (some (S4 T 13)) F=some r): ∃k n ks d,Hid (Rb T=(.mk k n ks,d))/\Hid (d≠0->r=(D2,d))/\Hid (d=0->k≠13->r=(D2,1))/\Hid (d=0->k=13->F (.mk k n ks)=some r/\ks.length=2/\valid sigT (.mk k n ks)=true):=by
 obtain⟨⟨k,n,ks⟩,c,f,a,b,e⟩:=tH h;exact⟨k,n,ks,c,hdq f,hdq a,hdq b,hdq e⟩
theorem aH{f:Nat}(H:xa f){G:List Tr}{A:Option Addr}{ca:Nat}(m:aN)(N:Nat->Prop)(L:SJ m N A G ca)(k n:Int)(ks:List Tr)(E:ks.length=3)(B8:valid sigT (kd ks 1)=true)(v:aU)(hT:InT m N (.mk k n ks) v)(ty:Nat->An)(U:ty 0=O0 f G (kd ks 0))(V:ty 1=O0 f G (kd ks 1))(h2:ty 2=O0 f G (kd ks 2))(r:Tr×Int)(h:lo ty (kd ks 0) (kd ks 1)=some r):aY prog 168 #[.slice A G.length ca,v] m (Ni N m r):=by
 unfold lo at h;rw[U,V,h2] at h;obtain⟨s,c,q,z,y⟩:=g8 h;clear h U V h2;have qi:=hdq B8;clear B8;obtain⟨At,ct,rfl,-,l9,hK⟩:=InT.mk_iff.1 hT;obtain⟨b,o,rfl,-,⟨O9,P3,P6,Q5,R6,Y⟩,⟨eh,ax,dv,df,bm,Z⟩,ou,pn,oy,pq,pd,T⟩:=j19 hK E;rw[E];clear hT hK E;go_enter func168,ntmps168;go_wp2_with fail;generalize x:aO (aO m _) _=w1;obtain⟨a,br,S⟩:=Se x.symm L;have F:=hdq (both S (both (Y.up a (aR _)) (both (Z.up a (aR _)) (T.up a (aR _)))));have X:=xr w1;have Q:=F.out _ X.off;clear S L x Y Z T;refine(Ow H _ _ Q.1.1 _ _ Q.2.1.i _ q.out).mono ?_;rintro e w2 ⟨rfl,e⟩;replace X:=X.trans e;replace Q:=F.out _ X.off;simp only;obtain⟨j,t⟩ |rfl:=cz c
 · have R:=cbn (X.blk br)
   go_wp2_with fail;exact Yi (by simp[aS,results168,go_sem,R]) (y.out j.out) j.out ((a.trans X).set3 (aR _) _ _ _) rfl
 obtain⟨kx,nx,jd,d,D,C,B,H4⟩:=wK (z.out rfl);clear q z y;go_wp2_with fail;refine(cl D.out _ _ Q.1.1.hN _ Q.2.1.l).mono ?_;rintro e w3 ⟨A1,c1,rfl,-,hK,e⟩;replace X:=X.trans e;replace Q:=F.out _ X.off;simp only;obtain⟨j,t⟩ |rfl:=cz d
 · have R:=cbn (X.blk br)
   have I:=fun o=> cbn ((X.alloc o).blk br)
   go_wp2_with fail;exact Yi (by simp[aS,results168,go_sem,R,I]) (C.out j.out) j.out (((a.trans X).alloc _).set3 (aR _) _ _ _) rfl
 obtain⟨j,t⟩ |rfl:=czk kx 13
 · have R:=cbn (X.blk br)
   have I:=fun o=> cbn ((X.alloc o).blk br)
   go_wp2_with fail;exact Yi (by simp[aS,results168,go_sem,R,I]) (B.out (by trivial) j.out) (by decide) (((a.trans X).alloc _).set3 (aR _) _ _ _) rfl
 obtain⟨M,p,hv⟩:=H4.out rfl rfl;have av:=hdq (show valid sigT (kd jd 1)=true from qd hv (i:=1) (by simp only[Tr.kids];omega));clear D C B H4 hv;obtain⟨c,q,z,y⟩:=yd M;clear M;obtain⟨b2,o2,rfl,J,⟨qq,pw,px,qs,rq,P⟩,f11,f12,f13,f14,f15,O⟩:=y17 hK p;rw[p];clear hK p;go_wp2_with fail;generalize x:aO w3 _=w4;obtain⟨bq,e⟩:=nb x;replace F:=hdq (both (rb F.out (X.trans e)) (both (k8 bq (X.ne br)) (both (P.fm J e) (O.fm J e))));replace X:=X.trans e;replace br:=X.blk br;replace a:=a.trans X;replace X:=xr w4;replace Q:=F.out _ X.off;clear x bq e;clear P O J;refine rgn (m.heap.size+1) (by kernel_rfl) X ?_;replace X:=X.drew;refine B3 [0,1,2,3,4,5,6,7,8] 2 (by kernel_rfl) X.off (fun _ _ _ _ _ h=> h) ?_
 iterate 9 (refine tk rfl (by rfl) (by intro w X;have Q:=F.out _ X;go_simp;(try with_reducible rfl)) ?_;try simp only[W2])
 replace Q:=F.out _ X.off;refine H0 9 (by kernel_rfl) rfl rfl (fun K hK=> ?_)
 go_simp
 go_at_call 116
 refine(Sm H _ _ Q.1.1.1 (kd ks 1) _ _ _ Q.1.2.2.1.i Q.2.2.1.l c q.out).mono ?_;rintro e w5 ⟨rfl,e⟩;replace X:=X.trans e;replace Q:=F.out _ X.off;refine hK.out _ _ X.off (fun _=> ?_);refine B3 [10] 0 (by kernel_rfl) X.off (fun _ _ _ _ _ h=> h) ?_;refine tk rfl (by rfl) (by intro w X;go_simp;(try with_reducible rfl)) ?_
 try simp only[W2]
 refine bO (by kernel_rfl) ?_ _;obtain⟨j,t⟩ |rfl:=cz c
 · have R:=cbn (X.blk br)
   go_wp2_with fail;exact pb (by simp[aS,results168,go_sem,R]) (Q.1.2.1.i) (um (y.out j.out) j.out) (a.trans X) (aR _) rfl
 obtain⟨c,D,C,B⟩:=yd (z.out rfl);clear q z y;go_wp2_with fail;refine rgn (m.heap.size+1) (by kernel_rfl) X ?_;replace X:=X.drew;refine B3 [0,1,2,3,4,5,6,7,8,9,10,11,12] 3 (by kernel_rfl) X.off (fun _ _ _ _ _ h=> h) ?_
 iterate 13 (refine tk rfl (by rfl) (by intro w X;have Q:=F.out _ X;go_simp;(try with_reducible rfl)) ?_;try simp only[W2])
 replace Q:=F.out _ X.off;refine H0 13 (by kernel_rfl) rfl rfl (fun K hK=> ?_)
 go_simp
 go_at_call 121
 refine(Vx _ _ av.out qi.out _ _ Q.1.1.1.hN _ _ Q.2.2.2.l Q.1.2.2.1.l).mono ?_;rintro e w6 ⟨u,rfl,hu,e⟩;replace X:=X.trans e;replace Q:=F.out _ X.off;refine hK.out _ _ X.off (fun _=> ?_);obtain⟨_,_,_,_,_,rfl⟩:=hu.three;refine H0 14 (by kernel_rfl) rfl rfl (fun K hK=> ?_)
 go_simp
 go_at_call 116
 refine(Sm H _ _ Q.1.1.1 (kd ks 2) _ _ _ Q.1.2.2.2.i hu.lies' c D.out).mono ?_;rintro e w7 ⟨rfl,e⟩;replace X:=X.trans e;replace Q:=F.out _ X.off;refine hK.out _ _ X.off (fun _=> ?_);refine B3 [15] 0 (by kernel_rfl) X.off (fun _ _ _ _ _ h=> h) ?_;refine tk rfl (by rfl) (by intro w X;go_simp;(try with_reducible rfl)) ?_
 try simp only[W2]
 refine bO (by kernel_rfl) ?_ _;have R:=cbn (X.blk br);go_wp2_with fail;exact pb (by simp[aS,results168,go_sem,R]) (Q.1.2.1.i) (Nl C.out B.out) (a.trans X) (aR _) rfl
theorem AK{f:Nat}(O:xa f){G:List Tr}{A:Option Addr}{ca:Nat}(j:aN)(N:Nat->Prop)(C:SJ j N A G ca)(k n:Int)(ks:List Tr)(q:ks.length=1)(m:valid sigT (.mk 15 0 [kd ks 0])=true)(v:aU)(hT:InT j N (.mk k n ks) v)(ty:Nat->An)(E:ty 0=O0 f G (kd ks 0))(r:Tr×Int)(h:Zk ty k (kd ks 0)=some r):aY prog 191 #[.slice A G.length ca,v] j (n9 N j r):=by
 unfold Zk at h;rw[E] at h;obtain⟨s,c,B,M,H⟩:=g8 h;clear h E;have Y:=hdq m;clear m;obtain⟨At,ct,rfl,-,l9,hK⟩:=InT.mk_iff.1 hT;obtain⟨b,o,rfl,-,O9,P3,P6,Q5,R6,I⟩:=q16 hK q;rw[q];clear hT hK q;go_enter func191,ntmps191;go_wp2_with fail;generalize p:aO (aO j _) _=U;obtain⟨d,br,S⟩:=Se p.symm C;have F:=hdq (both S (I.up d (aR _)));have X:=xr U;have Q:=F.out _ X.off;clear S C p I;refine(MF O _ _ Q.1.1 _ _ Q.2.i 13 _ B.out).mono ?_;rintro e w2 ⟨u,rfl,hT,e⟩;replace X:=X.trans e;replace Q:=F.out _ X.off;simp only at hT⊢;obtain⟨ka,na,J⟩:=s;obtain⟨A1,c1,rfl,-,-,hK⟩:=InT.mk_iff.1 hT;clear hT;obtain⟨P,t⟩ |rfl:=cz c
 · have R:=cbn (X.blk br)
   have y:=fun o=> cbn ((X.alloc o).blk br)
   go_wp2_with fail;exact v9 (by simp[aS,results191,go_sem,R,y]) (H.out P.out) (((d.trans X).alloc _).set3 (aR _) _ _ _) rfl
 obtain⟨-,a,hv⟩:=Qs B.out;have hr:=cN (M.out rfl);simp only[Tr.kids] at a hv hr;have a:J.length=2:=by have:S0 13=2:=rfl;omega
 have av:=hdq (show valid sigT (kd J 1)=true from qd hv (i:=1) (by simp only[Tr.kids];omega));clear B M H hv;obtain⟨b2,o2,rfl,z,⟨qq,pw,px,qs,rq,x⟩,Z,f12,f13,f14,T,D⟩:=y17 hK a;rw[a];clear hK a;by_cases hk:k=15
 · rw[if_pos hk] at hr
   have t3:(k==15)=true:=by simp[hk]
   clear hk;have R:=cbn (X.blk br);have y:=fun o=> cbn ((X.alloc o).blk br)
   go_wp2_with fail;exact L7 (by simp[aS,results191,go_sem,R,y]) ((x.i).later ((xr _).alloc _)) (hr.symm) ((d.trans X).alloc _) (aR _) rfl
 rw[if_neg hk] at hr;have t3:(k==15)=false:=by simp[hk]
 clear hk;go_wp2_with fail;generalize p:aO w2 _=w3;obtain⟨L,e⟩:=nb p;replace F:=hdq (both (rb F.out (X.trans e)) (both (k8 L (X.ne br)) (both (x.fm z e) (D.fm z e))));replace X:=X.trans e;replace br:=X.blk br;replace d:=d.trans X;replace X:=xr w3;replace Q:=F.out _ X.off;clear p L e;clear x D z;refine rgn (j.heap.size+1) (by kernel_rfl) X ?_;replace X:=X.drew;refine B3 [0,1,2,3,4,5,6,7] 5 (by kernel_rfl) X.off (fun _ _ _ _ _ h=> h) ?_
 iterate 8 (refine tk rfl (by rfl) (by intro w X;have Q:=F.out _ X;go_simp;(try with_reducible rfl)) ?_;try simp only[W2])
 replace Q:=F.out _ X.off;refine H0 8 (by kernel_rfl) rfl rfl (fun K hK=> ?_)
 go_simp
 obtain⟨e,V⟩:=Cd 25 Q.1.2.i Q.1.1.1.hN;replace X:=X.trans e;replace Q:=F.out _ X.off;refine hK.out _ _ X.off (fun _=> ?_);refine H0 9 (by kernel_rfl) rfl rfl (fun K hK=> ?_)
 go_simp
 go_at_call 60
 refine(db 15 Q.1.1.1.hN V rfl).mono ?_;rintro e w4 ⟨A9,c9,rfl,hu,e⟩;replace X:=X.trans e;replace Q:=F.out _ X.off;refine hK.out _ _ X.off (fun _=> ?_);refine H0 10 (by kernel_rfl) rfl rfl (fun K hK=> ?_)
 go_simp
 go_at_call 121
 refine(Vx _ _ av.out Y.out _ _ Q.1.1.1.hN _ _ Q.2.2.2.l hu.lies').mono ?_;rintro e w5 ⟨u,rfl,hx,e⟩;replace X:=X.trans e;replace Q:=F.out _ X.off;refine hK.out _ _ X.off (fun _=> ?_);obtain⟨_,_,_,_,_,rfl⟩:=hx.three;have R:=cbn (X.blk br);refine H0 11 (by kernel_rfl) rfl rfl (fun K hK=> ?_)
 go_simp
 refine hK.out _ _ (X.off.set3 _ _ _) (fun _=> ?_);refine B3 [12] 0 (by kernel_rfl) (X.off.set3 _ _ _) (fun _ _ _ _ _ h=> h) ?_;refine tk rfl (by rfl) (by intro w X;go_simp;(try with_reducible rfl)) ?_
 try simp only[W2]
 refine bO (by kernel_rfl) ?_ _;go_wp2_with fail;exact L7 (by simp[aS,results191,go_sem,R]) (hx) (hr.symm) (d.trans X) (aR _) rfl
end Go.Proofs.YtckhbnmfnpolgaaGreat
namespace Go.Proofs.YtckhbnmfnpolgaaGreat
open Go.RowKit
theorem Py{k:Int}{m:Nat}(h:S0 k=(m:Int)):(k=1/\m=0)\/(k=2/\m=0)\/(k=3/\m=2)\/(k=4/\m=2)\/(k=5/\m=2)\/(k=6/\m=0)\/(k=7/\m=0)\/(k=8/\m=1)\/(k=9/\m=4)\/(k=10/\m=3)\/(k=11/\m=1)\/(k=12/\m=3)\/(k=13/\m=2)\/(k=14/\m=3)\/(k=15/\m=1)\/(k=16/\m=1):=by
 by_cases hk:1<=k/\k<=16
 · rcases(by omega:k=1\/k=2\/k=3\/k=4\/k=5\/k=6\/k=7\/k=8\/k=9\/k=10\/k=11\/k=12\/k=13\/k=14\/k=15\/k=16) with rfl|rfl|rfl|rfl|rfl|rfl|rfl|rfl|rfl|rfl|rfl|rfl|rfl|rfl|rfl|rfl
   all_goals(simp[S0] at h⊢;omega)
 · have e:S0 k= -1:=by
    unfold S0
    repeat rw[if_neg (by omega)]
   omega
theorem MJ{y:aN}{z B:Nat}{A:Option Addr}{G:List Tr}{At:Option Addr}{ks:List Tr}{ty:Nat->An}(k n:Int)(ca ct:Nat)(a:ks.length<=ct)(b:ct<=maxLen)(d:aN)(N:Nat->Prop)(e:zc y d N z B A G At ks ty)(f:Tr->An)(q:kf y A ca G f)(m:valid sigT (.mk k n ks)=true)(E: ∀x∈G,valid sigT x=true)(C:G.length<=ca)(o:ca<=maxLen)(F: ∀i s,i < ks.length->ty i=some (s,0)->valid sigT s=true)
 (r:Tr×Int) (h:Sc G f ty k n ks=some r):aY prog 107 #[.agg #[.slice A G.length ca,j0 k,j0 n,.slice At ks.length ct,.func (.func 105) #[] #[O2 z,O2 B]]] d (n9 N d r):=by
 obtain⟨D,p,u,-⟩:=m6 (N4 m).1;have l: ∀i,i < ks.length->valid sigT (kd ks i)=true:=fun i hi=> qd (t:= .mk k n ks) m hi
 unfold Sc at h;rcases Py (show S0 k=(ks.length:Int) from D) with⟨rfl,hm⟩ |⟨rfl,hm⟩ |⟨rfl,hm⟩ |⟨rfl,hm⟩ |⟨rfl,hm⟩ |⟨rfl,hm⟩ |⟨rfl,hm⟩ |⟨rfl,hm⟩ |⟨rfl,hm⟩ |⟨rfl,hm⟩ |⟨rfl,hm⟩ |⟨rfl,hm⟩ |⟨rfl,hm⟩ |⟨rfl,hm⟩ |⟨rfl,hm⟩ |⟨rfl,hm⟩
 · exact tI n ca ct a b d N e p u E C o r (by simpa using h)
 · exact wJ n ca ct a b d N e p u r (by simpa using h)
 · exact ar 3 n ca ct a b d N e (by decide) r fun c hc w M j=> by subst hc;exact WD 3 n ca ct a b w M j (by omega) r (by simpa using h)
 · exact ar 4 n ca ct a b d N e (by decide) r fun c hc w M j=> by subst hc;exact XI 4 n ca ct a b w M j f q hm r (by simpa using h)
 · exact LJ n ca ct a b d N e hm (l 1 (by omega)) r (by simpa using h)
 · exact XG n ca ct a b d N e r (by simpa using h)
 · exact pK n ca ct a b d N e r (by simpa using h)
 · exact gH n ca ct a b d N e hm r (by simpa using h)
 · exact ar 9 n ca ct a b d N e (by decide) r fun c hc w M j=> by subst hc;exact uJ 9 n ca ct a b w M j hm (l 0 (by omega)) r (by simpa using h)
 · exact ar 10 n ca ct a b d N e (by decide) r fun c hc w M j=> by subst hc;exact lI 10 n ca ct a b w M j hm r (by simpa using h)
 · exact yH n ca ct a b d N e f q hm (fun s hs=> F 0 s (by omega) hs) r (by simpa using h)
 · exact ar 12 n ca ct a b d N e (by decide) r fun c hc w M j=> by subst hc;exact LK 12 n ca ct a b w M j hm r (by simpa using h)
 · exact ar 13 n ca ct a b d N e (by decide) r fun c hc w M j=> by subst hc;exact WD 13 n ca ct a b w M j (by omega) r (by simpa using h)
 · exact ar 14 n ca ct a b d N e (by decide) r fun c hc w M j=> by subst hc;exact iG 14 n ca ct a b w M j hm (l 0 (by omega)) (l 1 (by omega)) r (by simpa using h)
 · exact ar 15 n ca ct a b d N e (by decide) r fun c hc w M j=> by subst hc;exact oD 15 n ca ct a b w M j (by decide) hm m r (by simpa using h)
 · exact ar 16 n ca ct a b d N e (by decide) r fun c hc w M j=> by subst hc;exact oD 16 n ca ct a b w M j (by decide) hm m r (by simpa using h)
