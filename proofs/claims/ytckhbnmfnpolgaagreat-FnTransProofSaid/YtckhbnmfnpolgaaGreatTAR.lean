/- Lemmas towards the law. -/
import Derived.Test.YtckhbnmfnpolgaaGreatTAQ
open Go renaming World->aN,Calls->aY,maxLen->aW,bodyPost_ret->aQ,results->aS,heap_alloc_new->aT,wpAnyH_take->iT,wpAnyH_ready->fZ
open Bool renaming true_and->bV
open Nat renaming one_mul->fU,add_assoc->dZ,reduceAdd->eM,zero_mul->dN,add_zero->cX,le_trans->bM,lt_of_lt_of_le->aZ
open Go.Act renaming put->eV
open List renaming getElem_toArray->bZ,getElem_cons_succ->bR,getElem_cons_zero->bQ,setIfInBounds_toArray->aV,set_cons_zero->bP,set_cons_succ->bN,length_append->cV,length_singleton->cW
open Go.AllReadyH renaming cons->eP,nil->fR
open Option.some renaming injEq->cM
open Go.Proofs.Tryz
set_option linter.all false
set_option maxHeartbeats 4000000
set_option maxRecDepth 100000
namespace Go.Proofs.YtckhbnmfnpolgaaGreat
open Go.RowKit
theorem Vc{a:List Tr}{j:Nat}{t:Tr}(h:j < a.length)(e:a[j]=t):kd a j=t:=by
 unfold kd;rw[List.getD_eq_getElem?_getD,List.getElem?_eq_getElem h,e]
 rfl
def Sg(w:aN)(t:Tr)(e:Ending)(a:aN):Prop:= ∃r,e= .returned (.tuple #[r,.bool (valid sigT t)])/\W0 w a 25 (okT t) r/\Ext w a
theorem fA{W w:aN}{t:Tr}{u:Value}(h:W0 W w 25 t u):aY prog 137 #[u] w fun e b=> ∃l j d f i,e= .returned (.tuple #[m0 l j d f i,.bool (valid sigT t)])/\W0 W b 25 (okT t) (m0 l j d f i)/\Ext w b:=by
 obtain⟨k,n,g⟩:=t;obtain⟨A,cap,rfl,hl,hc,hK⟩:=W0.mk_iff.1 h;refine(mw k n g A cap w h.lies).mono ?_;rintro e b ⟨a,c⟩;by_cases hv:valid sigT (.mk k n g)=true
 · rw[if_pos hv] at a
   refine⟨_,_,_,_,_,by rw[a,hv], ?_,c⟩;unfold okT;rw[if_pos hv];exact h.ext c
 · rw[if_neg hv] at a
   refine⟨0,0,none,0,0,by rw[a,Bool.eq_false_iff.2 hv], ?_,c⟩;unfold okT;rw[if_neg hv];exact W0.leaf _ _ _ 0 0
theorem yJ{t u d:Tr}(hT:d=X0 u t 0 0)(w:aN)(v a:Value)(n:Lies w t v)(hv:valid sigT t=true)(m:Lies w u a)(l:valid sigT u=true):
 aY prog 119 #[v,j0 0,a] w fun e b=> ∃j i c f g,e= .returned (.tuple #[m0 j i c f g,.bool (valid sigT d)])/\W0 w b 25 (okT d) (m0 j i c f g)/\Ext w b:=by
 subst hT;refine(BB t 0 u w v a n hv m l (by omega) (by omega)).mono ?_;rintro e b ⟨r,rfl,k,h⟩;obtain⟨j,i,c,f,g,rfl⟩:=k.three';exact⟨_,_,_,_,_,rfl,k,h⟩
theorem bG(n:Int)(a:List Tr)(hv:valid sigT (.mk 9 n a)=true)(w:aN)(A:Option Addr)(cap:Nat)(S:Lies w (.mk 9 n a) (m0 9 n A a.length cap))(hK:V8 w A a)(hl:a.length<=cap)(hc:cap<=aW)(o:(kd a 3).kind=7):
 aY prog 173 #[m0 9 n A a.length cap] w (Sg w (ctr 9 a)):=by
 obtain⟨hsh,D4⟩:=N4 hv;have U:S0 9=(a.length:Int):=(m6 hsh).1;have j7:a.length=4:=by have h9:(4:Int)=(a.length:Int):=U;omega
 have C:=(m6 hsh).2.2.2;have K5: ∀t∈a,valid sigT t=true:=fun t ht=> by
  have i:=C t ht;have E:=ya ht;simp only[cnt] at D4;unfold valid;rw[Tf i (by decide),bV,decide_eq_true_eq];omega
 have z:=hc;unfold aW at z;have B:=hdq (fun W (Z:Ext w W)=> Nt (.mk 9 n a) 30 hsh W _ (S.ext Z));obtain⟨g,l⟩: ∃g,g=(w.alloc (D0 9 n A a.length cap)).alloc M0:=⟨_,rfl⟩;have K:Ext w g:=l▸((xr w).alloc _).alloc _;have k:g.heap[w.heap.size]? =some (D0 9 n A a.length cap):=by rw[l];exact(blk2 (xr _)).1
 have b:g.heap[w.heap.size+1]? =some M0:=by rw[l];exact(blk2 (xr _)).2.1
 have hs0:w.heap.size+1 < g.heap.size:=D1 b;have M:1 < a.length:=by omega
 have gy:(1:Int) <(a.length:Int):=by omega
 obtain⟨b1,o1,s,r,A1,D3,q16,O3,N,d,f,c,Z4,ak,M6,L,O⟩:=hK.get (xr w) M;simp only[fU,dZ,eM] at d f c;have R:kd a 1= .mk s r q16:=Vc M N.out;subst O3;have Q:ctr 9 a= .mk s r q16:=(ru o).trans R;rw[Q];have J:rdx 9 a=2:=by unfold rdx;simp[o]
 obtain⟨TT,y⟩: ∃x,x=Tr.mk s r q16:=⟨_,rfl⟩;rw[<-y];have N8:=hdq y;clear y;have ug:cnt (.mk s r q16)<=400:=(N4 (K5 _ O)).2;clear Q;have m:J4 (.mk 9 n a)=2:=J;rw[m] at B;clear m J j7 U
 skip
 go_enter func173,ntmps173;go_wp2_with fail;rw[<-l];clear l;refine(B.out _ K).mono ?_;rintro e w1 ⟨rfl,i⟩;have j:=K.trans i;have T:=i.blk k;have D:=i.blk b;have hs1:w.heap.size+1 < w1.heap.size:=D1 D;obtain⟨z0,z1,z2,-,-,-⟩:=own3 T;clear k b B i;have Le:=j.cell d;have Em:=j.cell f;have Jc:=j.cell c;have X:=hdq (L.ext j);clear N R M6 L O d f c hK S;go_wp2_with fail;refine(Oi _ _ _ X.out (by omega)).mono ?_;rintro e w2 ⟨u,rfl,q,E⟩;obtain⟨u1,u2,u3,u4,u5,rfl⟩:=q.three';go_wp2_with fail;rw[<-N8.out] at q;refine(fA q).mono ?_;rintro e w3 ⟨V,I,G,P,H,rfl,hM,F⟩;have hE:=j.trans (E.trans F);obtain⟨s0,s1,Y,f0,f1,f2⟩:=own3 ((E.trans F).blk D);clear q T D Le Em Jc z0 z1 z2;go_wp2_with fail;have hsz:=j.size;refine aQ (v:= .tuple #[m0 V I G P H,.bool (valid sigT TT)]) (by simp[aS,results173,go_sem,s0,s1,Y]) rfl ⟨_,rfl,W0.since (hM.after ((((Ua.refl _ _).setCell (p:=⟨w.heap.size+1,0,none⟩) (by show w.heap.size+1 < _;omega) (j0 V)).setCell (p:=⟨w.heap.size+1,1,none⟩) (by show w.heap.size+1 < _;omega) (j0 I)).setCell (p:=⟨w.heap.size+1,2,none⟩) (by show w.heap.size+1 < _;omega) (.slice G P H))) (by omega),(((hE.setCell (p:=⟨w.heap.size+1,0,none⟩) (by show w.heap.size<=w.heap.size+1;omega) _).setCell (p:=⟨w.heap.size+1,1,none⟩) (by show w.heap.size<=w.heap.size+1;omega) _).setCell (p:=⟨w.heap.size+1,2,none⟩) (by show w.heap.size<=w.heap.size+1;omega) _)⟩
theorem NH(n:Int)(a:List Tr)(hv:valid sigT (.mk 12 n a)=true)(w:aN)(A:Option Addr)(cap:Nat)(T:Lies w (.mk 12 n a) (m0 12 n A a.length cap))(hK:V8 w A a)(hl:a.length<=cap)(hc:cap<=aW)(z:(kd a 1).kind=11):
 aY prog 173 #[m0 12 n A a.length cap] w (Sg w (ctr 12 a)):=by
 obtain⟨hsh,D4⟩:=N4 hv;have V:S0 12=(a.length:Int):=(m6 hsh).1;have j7:a.length=3:=by have h9:(3:Int)=(a.length:Int):=V;omega
 have D:=(m6 hsh).2.2.2;have K5: ∀t∈a,valid sigT t=true:=fun t ht=> by
  have g:=D t ht;have F:=ya ht;simp only[cnt] at D4;unfold valid;rw[Tf g (by decide),bV,decide_eq_true_eq];omega
 have B:=hc;unfold aW at B;have C:=hdq (fun W (hW:Ext w W)=> Nt (.mk 12 n a) 30 hsh W _ (T.ext hW));obtain⟨f,k⟩: ∃f,f=(w.alloc (D0 12 n A a.length cap)).alloc M0:=⟨_,rfl⟩;have M:Ext w f:=k▸((xr w).alloc _).alloc _;have j:f.heap[w.heap.size]? =some (D0 12 n A a.length cap):=by rw[k];exact(blk2 (xr _)).1
 have b:f.heap[w.heap.size+1]? =some M0:=by rw[k];exact(blk2 (xr _)).2.1
 have hs0:w.heap.size+1 < f.heap.size:=D1 b;have S:2 < a.length:=by omega
 have iw:(2:Int) <(a.length:Int):=by omega
 obtain⟨b2,o2,o,q,A2,G5,y17,iv,N,c,d,r,ic,gv,y,O,P⟩:=hK.get (xr w) S;simp only[Nat.reduceMul,dZ,eM] at c d r;have I:kd a 2= .mk o q y17:=Vc S N.out;subst iv;have R:ctr 12 a= .mk o q y17:=eA.trans I;rw[R];have L:rdx 12 a=4:=by unfold rdx;simp[z]
 obtain⟨TT,s⟩: ∃x,x=Tr.mk o q y17:=⟨_,rfl⟩;rw[<-s];have N8:=hdq s;clear s;have ug:cnt (.mk o q y17)<=400:=(N4 (K5 _ P)).2;clear R;have l:J4 (.mk 12 n a)=4:=L;rw[l] at C;clear l L j7 V
 skip
 go_enter func173,ntmps173;go_wp2_with fail;rw[<-k];clear k;refine(C.out _ M).mono ?_;rintro e w1 ⟨rfl,g⟩;have i:=M.trans g;have U:=g.blk j;have E:=g.blk b;have hs1:w.heap.size+1 < w1.heap.size:=D1 E;obtain⟨z0,z1,z2,-,-,-⟩:=own3 U;clear j b C g;have Ia:=i.cell c;have Kd:=i.cell d;have Kh:=i.cell r;have Y:=hdq (O.ext i);clear N I y O P c d r hK T;go_wp2_with fail;refine(Oi _ _ _ Y.out (by omega)).mono ?_;rintro e w2 ⟨u,rfl,m,F⟩;obtain⟨u1,u2,u3,u4,u5,rfl⟩:=m.three';go_wp2_with fail;rw[<-N8.out] at m;refine(fA m).mono ?_;rintro e w3 ⟨X,K,H,Q,J,rfl,hM,G⟩;have hE:=i.trans (F.trans G);obtain⟨s0,s1,Z,f0,f1,f2⟩:=own3 ((F.trans G).blk E);clear m U E Ia Kd Kh z0 z1 z2;go_wp2_with fail;have hsz:=i.size;refine aQ (v:= .tuple #[m0 X K H Q J,.bool (valid sigT TT)]) (by simp[aS,results173,go_sem,s0,s1,Z]) rfl ⟨_,rfl,W0.since (hM.after ((((Ua.refl _ _).setCell (p:=⟨w.heap.size+1,0,none⟩) (by show w.heap.size+1 < _;omega) (j0 X)).setCell (p:=⟨w.heap.size+1,1,none⟩) (by show w.heap.size+1 < _;omega) (j0 K)).setCell (p:=⟨w.heap.size+1,2,none⟩) (by show w.heap.size+1 < _;omega) (.slice H Q J))) (by omega),(((hE.setCell (p:=⟨w.heap.size+1,0,none⟩) (by show w.heap.size<=w.heap.size+1;omega) _).setCell (p:=⟨w.heap.size+1,1,none⟩) (by show w.heap.size<=w.heap.size+1;omega) _).setCell (p:=⟨w.heap.size+1,2,none⟩) (by show w.heap.size<=w.heap.size+1;omega) _)⟩
theorem KH(n:Int)(a:List Tr)(hv:valid sigT (.mk 15 n a)=true)(w:aN)(A:Option Addr)(cap:Nat)(d6:Lies w (.mk 15 n a) (m0 15 n A a.length cap))(hK:V8 w A a)(hl:a.length<=cap)(hc:cap<=aW)(m:(kd a 0).kind=14):
 aY prog 173 #[m0 15 n A a.length cap] w (Sg w (ctr 15 a)):=by
 obtain⟨hsh,D4⟩:=N4 hv;have a8:S0 15=(a.length:Int):=(m6 hsh).1;have j7:a.length=1:=by have h9:(1:Int)=(a.length:Int):=a8;omega
 have I:=(m6 hsh).2.2.2;have K5: ∀t∈a,valid sigT t=true:=fun t ht=> by
  have d:=I t ht;have q:=ya ht;simp only[cnt] at D4;unfold valid;rw[Tf d (by decide),bV,decide_eq_true_eq];omega
 have C:=hc;unfold aW at C;have H:=hdq (fun W (hW:Ext w W)=> Nt (.mk 15 n a) 30 hsh W _ (d6.ext hW));obtain⟨i,l⟩: ∃i,i=(w.alloc (D0 15 n A a.length cap)).alloc M0:=⟨_,rfl⟩;have R:Ext w i:=l▸((xr w).alloc _).alloc _;have j:i.heap[w.heap.size]? =some (D0 15 n A a.length cap):=by rw[l];exact(blk2 (xr _)).1
 have c:i.heap[w.heap.size+1]? =some M0:=by rw[l];exact(blk2 (xr _)).2.1
 have hs0:w.heap.size+1 < i.heap.size:=D1 c;have E8:0 < a.length:=by omega
 have W6:(0:Int) <(a.length:Int):=by omega
 obtain⟨b0,o0,k0,n0,A0,s8,f,ay,V,E,L,D,cm,fg,N5,B0,S⟩:=hK.get (xr w) E8;simp only[dN,cX] at E L D;have y:kd a 0= .mk k0 n0 f:=Vc E8 V.out;subst ay;rw[y] at m;have gm:k0=14:=m;subst gm;have k:=K5 _ S;have J0:S0 14=(f.length:Int):=(m6 (N4 k).1).1;have V6:f.length=3:=by have h9:(3:Int)=(f.length:Int):=J0;omega
 have E6:1 < f.length:=by omega
 have qj:(1:Int) <(f.length:Int):=by omega
 obtain⟨b3,o3,z,s,A3,G6,j19,W8,X,F,g,G,fw,af,K,U,q9⟩:=N5.get (xr w) E6;simp only[fU,dZ,eM] at F g G;have T:kd f 1= .mk z s j19:=Vc E6 X.out;subst W8;have Z:ctr 15 a= .mk z s j19:=by rw[Pt,y];exact T
 rw[Z];have Q:rdx 15 a=5:=by unfold rdx;rw[y];simp[Tr.kind]
 obtain⟨TT,B⟩: ∃x,x=Tr.mk z s j19:=⟨_,rfl⟩;rw[<-B];have N8:=hdq B;clear B;have ug:cnt (.mk z s j19)<=400:=by have d:=ya q9;have q:=(N4 k).2;simp only[cnt] at q;omega
 clear Z;have o:J4 (.mk 15 n a)=5:=Q;rw[o] at H;clear o Q j7 a8;clear V6;go_enter func173,ntmps173;go_wp2_with fail;rw[<-l];clear l;refine(H.out _ R).mono ?_;rintro e w1 ⟨rfl,d⟩;have b:=R.trans d;have u6:=d.blk j;have J:=d.blk c;have hs1:w.heap.size+1 < w1.heap.size:=D1 J;obtain⟨z0,z1,z2,-,-,-⟩:=own3 u6;clear j c H d;have ye:=b.cell E;have wj:=b.cell L;have vr:=b.cell D;have yj:=b.cell F;have yt:=b.cell g;have ry:=b.cell G;have O7:=hdq (U.ext b);clear V y N5 B0 S X T K U q9 E L D F g G hK d6 J0;go_wp2_with fail;refine(Oi _ _ _ O7.out (by omega)).mono ?_;rintro e w2 ⟨u,rfl,r,q⟩;obtain⟨u1,u2,u3,u4,u5,rfl⟩:=r.three';go_wp2_with fail;rw[<-N8.out] at r;refine(fA r).mono ?_;rintro e w3 ⟨a1,P,N,Y,O,rfl,hM,M⟩;have hE:=b.trans (q.trans M);obtain⟨s0,s1,s2,f0,f1,f2⟩:=own3 ((q.trans M).blk J);clear r u6 J ye wj vr yj yt ry z0 z1 z2;go_wp2_with fail;have hsz:=b.size;refine aQ (v:= .tuple #[m0 a1 P N Y O,.bool (valid sigT TT)]) (by simp[aS,results173,go_sem,s0,s1,s2]) rfl ⟨_,rfl,W0.since (hM.after ((((Ua.refl _ _).setCell (p:=⟨w.heap.size+1,0,none⟩) (by show w.heap.size+1 < _;omega) (j0 a1)).setCell (p:=⟨w.heap.size+1,1,none⟩) (by show w.heap.size+1 < _;omega) (j0 P)).setCell (p:=⟨w.heap.size+1,2,none⟩) (by show w.heap.size+1 < _;omega) (.slice N Y O))) (by omega),(((hE.setCell (p:=⟨w.heap.size+1,0,none⟩) (by show w.heap.size<=w.heap.size+1;omega) _).setCell (p:=⟨w.heap.size+1,1,none⟩) (by show w.heap.size<=w.heap.size+1;omega) _).setCell (p:=⟨w.heap.size+1,2,none⟩) (by show w.heap.size<=w.heap.size+1;omega) _)⟩
theorem oH(n:Int)(a:List Tr)(hv:valid sigT (.mk 16 n a)=true)(w:aN)(A:Option Addr)(cap:Nat)(d6:Lies w (.mk 16 n a) (m0 16 n A a.length cap))(hK:V8 w A a)(hl:a.length<=cap)(hc:cap<=aW)(m:(kd a 0).kind=14):
 aY prog 173 #[m0 16 n A a.length cap] w (Sg w (ctr 16 a)):=by
 obtain⟨hsh,D4⟩:=N4 hv;have a8:S0 16=(a.length:Int):=(m6 hsh).1;have j7:a.length=1:=by have h9:(1:Int)=(a.length:Int):=a8;omega
 have I:=(m6 hsh).2.2.2;have K5: ∀t∈a,valid sigT t=true:=fun t ht=> by
  have d:=I t ht;have q:=ya ht;simp only[cnt] at D4;unfold valid;rw[Tf d (by decide),bV,decide_eq_true_eq];omega
 have C:=hc;unfold aW at C;have H:=hdq (fun W (hW:Ext w W)=> Nt (.mk 16 n a) 30 hsh W _ (d6.ext hW));obtain⟨i,l⟩: ∃i,i=(w.alloc (D0 16 n A a.length cap)).alloc M0:=⟨_,rfl⟩;have R:Ext w i:=l▸((xr w).alloc _).alloc _;have j:i.heap[w.heap.size]? =some (D0 16 n A a.length cap):=by rw[l];exact(blk2 (xr _)).1
 have c:i.heap[w.heap.size+1]? =some M0:=by rw[l];exact(blk2 (xr _)).2.1
 have hs0:w.heap.size+1 < i.heap.size:=D1 c;have E8:0 < a.length:=by omega
 have W6:(0:Int) <(a.length:Int):=by omega
 obtain⟨b0,o0,k0,n0,A0,s8,f,ay,V,E,L,D,cm,fg,N5,B0,S⟩:=hK.get (xr w) E8;simp only[dN,cX] at E L D;have y:kd a 0= .mk k0 n0 f:=Vc E8 V.out;subst ay;rw[y] at m;have gm:k0=14:=m;subst gm;have k:=K5 _ S;have J0:S0 14=(f.length:Int):=(m6 (N4 k).1).1;have V6:f.length=3:=by have h9:(3:Int)=(f.length:Int):=J0;omega
 have E6:2 < f.length:=by omega
 have qj:(2:Int) <(f.length:Int):=by omega
 obtain⟨b3,o3,z,s,A3,G6,j19,W8,X,F,g,G,fw,af,K,U,q9⟩:=N5.get (xr w) E6;simp only[Nat.reduceMul,dZ,eM] at F g G;have T:kd f 2= .mk z s j19:=Vc E6 X.out;subst W8;have Z:ctr 16 a= .mk z s j19:=by rw[Wt,y];exact T
 rw[Z];have Q:rdx 16 a=6:=by unfold rdx;rw[y];simp[Tr.kind]
 obtain⟨TT,B⟩: ∃x,x=Tr.mk z s j19:=⟨_,rfl⟩;rw[<-B];have N8:=hdq B;clear B;have ug:cnt (.mk z s j19)<=400:=by have d:=ya q9;have q:=(N4 k).2;simp only[cnt] at q;omega
 clear Z;have o:J4 (.mk 16 n a)=6:=Q;rw[o] at H;clear o Q j7 a8;clear V6;go_enter func173,ntmps173;go_wp2_with fail;rw[<-l];clear l;refine(H.out _ R).mono ?_;rintro e w1 ⟨rfl,d⟩;have b:=R.trans d;have u6:=d.blk j;have J:=d.blk c;have hs1:w.heap.size+1 < w1.heap.size:=D1 J;obtain⟨z0,z1,z2,-,-,-⟩:=own3 u6;clear j c H d;have ye:=b.cell E;have wj:=b.cell L;have vr:=b.cell D;have yj:=b.cell F;have yt:=b.cell g;have ry:=b.cell G;have O7:=hdq (U.ext b);clear V y N5 B0 S X T K U q9 E L D F g G hK d6 J0;go_wp2_with fail;refine(Oi _ _ _ O7.out (by omega)).mono ?_;rintro e w2 ⟨u,rfl,r,q⟩;obtain⟨u1,u2,u3,u4,u5,rfl⟩:=r.three';go_wp2_with fail;rw[<-N8.out] at r;refine(fA r).mono ?_;rintro e w3 ⟨a1,P,N,Y,O,rfl,hM,M⟩;have hE:=b.trans (q.trans M);obtain⟨s0,s1,s2,f0,f1,f2⟩:=own3 ((q.trans M).blk J);clear r u6 J ye wj vr yj yt ry z0 z1 z2;go_wp2_with fail;have hsz:=b.size;refine aQ (v:= .tuple #[m0 a1 P N Y O,.bool (valid sigT TT)]) (by simp[aS,results173,go_sem,s0,s1,s2]) rfl ⟨_,rfl,W0.since (hM.after ((((Ua.refl _ _).setCell (p:=⟨w.heap.size+1,0,none⟩) (by show w.heap.size+1 < _;omega) (j0 a1)).setCell (p:=⟨w.heap.size+1,1,none⟩) (by show w.heap.size+1 < _;omega) (j0 P)).setCell (p:=⟨w.heap.size+1,2,none⟩) (by show w.heap.size+1 < _;omega) (.slice N Y O))) (by omega),(((hE.setCell (p:=⟨w.heap.size+1,0,none⟩) (by show w.heap.size<=w.heap.size+1;omega) _).setCell (p:=⟨w.heap.size+1,1,none⟩) (by show w.heap.size<=w.heap.size+1;omega) _).setCell (p:=⟨w.heap.size+1,2,none⟩) (by show w.heap.size<=w.heap.size+1;omega) _)⟩
theorem FG(n:Int)(b:List Tr)(hv:valid sigT (.mk 5 n b)=true)(w:aN)(A:Option Addr)(cap:Nat)(d6:Lies w (.mk 5 n b) (m0 5 n A b.length cap))(hK:V8 w A b)(hl:b.length<=cap)(hc:cap<=aW)(L:(kd b 0).kind=4):
 aY prog 173 #[m0 5 n A b.length cap] w (Sg w (ctr 5 b)):=by
 obtain⟨hsh,D4⟩:=N4 hv;have a8:S0 5=(b.length:Int):=(m6 hsh).1;have j7:b.length=2:=by have h9:(2:Int)=(b.length:Int):=a8;omega
 have hsk:=(m6 hsh).2.2.2;have K5: ∀t∈b,valid sigT t=true:=fun t ht=> by
  have d:=hsk t ht;have N:=ya ht;simp only[cnt] at D4;unfold valid;rw[Tf d (by decide),bV,decide_eq_true_eq];omega
 have U:=hc;unfold aW at U;have C9:=hdq (fun W (hW:Ext w W)=> Nt (.mk 5 n b) 30 hsh W _ (d6.ext hW));obtain⟨H,K⟩: ∃H,H=(w.alloc (D0 5 n A b.length cap)).alloc M0:=⟨_,rfl⟩;have hX:Ext w H:=K▸((xr w).alloc _).alloc _;have J:H.heap[w.heap.size]? =some (D0 5 n A b.length cap):=by rw[K];exact(blk2 (xr _)).1
 have u:H.heap[w.heap.size+1]? =some M0:=by rw[K];exact(blk2 (xr _)).2.1
 have hs0:w.heap.size+1 < H.heap.size:=D1 u;have E8:0 < b.length:=by omega
 have W6:(0:Int) <(b.length:Int):=by omega
 obtain⟨f,o0,k0,n0,A0,s8,l,ay,U7,Y,N7,X,cm,fg,N5,B0,z7⟩:=hK.get (xr w) E8;simp only[dN,cX] at Y N7 X;have R:kd b 0= .mk k0 n0 l:=Vc E8 U7.out;have B7:1 < b.length:=by omega
 have gy:(1:Int) <(b.length:Int):=by omega
 obtain⟨b1,o1,F,E,A1,D3,q16,S,E7,C,D,B,Z4,ak,M6,p6,l8⟩:=hK.get (xr w) B7;simp only[fU,dZ,eM] at C D B;have I9:kd b 1= .mk F E q16:=Vc B7 E7.out;subst ay
 injection S with S
 injection S with bi hC1 hD1
 subst bi hC1;rw[R] at L;have V:k0=4:=L;subst V;have s:=K5 _ z7;have J0:S0 4=(l.length:Int):=(m6 (N4 s).1).1;have V6:l.length=2:=by have h9:(2:Int)=(l.length:Int):=J0;omega
 have E6:1 < l.length:=by omega
 have qj:(1:Int) <(l.length:Int):=by omega
 obtain⟨j,o,I,G,A3,G6,j19,W8,U8,Q,z,Z,fw,af,hK3,F9,q9⟩:=N5.get (xr w) E6;simp only[fU,dZ,eM] at Q z Z;have C7:kd l 1= .mk I G j19:=Vc E6 U8.out;subst W8;have B8:=K5 _ l8;have hv3:valid sigT (.mk I G j19)=true:=by
  have d:=(m6 (N4 s).1).2.2.2 _ q9;have N:=ya q9;have h3:=(N4 s).2;simp only[cnt] at h3;unfold valid;rw[Tf d (by decide),bV,decide_eq_true_eq];omega
 have l9:ctr 5 b=X0 (.mk F E q16) (.mk I G j19) 0 0:=by rw[dt,R,I9];exact congrArg (fun t=> X0 (.mk F E q16) t 0 0) C7
 rw[l9];have I3:rdx 5 b=1:=by unfold rdx;rw[R];simp[Tr.kind]
 obtain⟨TT,T⟩: ∃x,x=X0 (.mk F E q16) (.mk I G j19) 0 0:=⟨_,rfl⟩;rw[<-T];have N8:=hdq T;clear T l9;have M:J4 (.mk 5 n b)=1:=I3;rw[M] at C9;clear M I3 j7 a8;clear V6;go_enter func173,ntmps173;go_wp2_with fail;rw[<-K];clear K;refine(C9.out _ hX).mono ?_;rintro e k ⟨rfl,d⟩;have g:=hX.trans d;have u6:=d.blk J;have o9:=d.blk u;have hs1:w.heap.size+1 < k.heap.size:=D1 o9;obtain⟨z0,z1,z2,-,-,-⟩:=own3 u6;clear J u C9 d;have Al:f < w.heap.size:=World.block_lt_of_cell? _ _ Y;have Ls:j < w.heap.size:=World.block_lt_of_cell? _ _ Q;have P:=hdq (show∀c:aN,(∀y,y < k.heap.size->y≠w.heap.size+1->c.heap[y]? =k.heap[y]?)->c.cell? ⟨w.heap.size,2,none⟩=some (.slice (some ⟨f,o0,none⟩) b.length cap)/\c.cell? ⟨f,o0+2,none⟩=some (.slice (some ⟨j,o,none⟩) l.length s8)/\c.cell? ⟨j,o+3,none⟩=some (j0 I)/\c.cell? ⟨j,o+4,none⟩=some (j0 G)/\c.cell? ⟨j,o+5,none⟩=some (.slice A3 j19.length G6)/\c.cell? ⟨f,o0+3,none⟩=some (j0 F)/\c.cell? ⟨f,o0+4,none⟩=some (j0 E)/\c.cell? ⟨f,o0+5,none⟩=some (.slice A1 q16.length D3) from fun c h=> by
  have m: ∀q i v,q < w.heap.size+1->k.cell? ⟨q,i,none⟩=some v->c.cell? ⟨q,i,none⟩=some v:=fun q i v hq hv=>(World.cell?_of_block (a:=⟨q,i,none⟩) (h q (by omega) (by omega))).trans hv
  exact⟨m _ _ _ (by omega) z2,m _ _ _ (by omega) (g.cell X),m _ _ _ (by omega) (g.cell Q),m _ _ _ (by omega) (g.cell z),m _ _ _ (by omega) (g.cell Z),m _ _ _ (by omega) (g.cell C),m _ _ _ (by omega) (g.cell D),m _ _ _ (by omega) (g.cell B)⟩)
 have r:Ext k k.drew:=(xr k).drew;have L3:=F9.ext g;have L1:=p6.ext g;clear U7 E7 U8 R I9 C7 N5 M6 hK3 B0 p6 F9 z7 l8 q9 hK d6 J0 Y N7 X C D B Q z Z z0 z1 z2 u6;go_wp2_with fail
 go_region_held3 (fun c=> c.cell? ⟨w.heap.size,2,none⟩=some (.slice (some ⟨f,o0,none⟩) b.length cap)/\c.cell? ⟨f,o0+2,none⟩=some (.slice (some ⟨j,o,none⟩) l.length s8)/\c.cell? ⟨j,o+3,none⟩=some (j0 I)/\c.cell? ⟨j,o+4,none⟩=some (j0 G)/\c.cell? ⟨j,o+5,none⟩=some (.slice A3 j19.length G6)/\c.cell? ⟨f,o0+3,none⟩=some (j0 F)/\c.cell? ⟨f,o0+4,none⟩=some (j0 E)/\c.cell? ⟨f,o0+5,none⟩=some (.slice A1 q16.length D3))
  (first|exact P.out _ (fun y d N=> by rw[Below.heap_setCell _ _ _ _ N,Below.heap_setCell _ _ _ _ N,Below.heap_setCell _ _ _ _ N];exact(r.trans O).heap y d) |exact P.out _ (fun y d _=>(r.trans O).heap y d) |exact P.out _ (fun y d _=> r.heap y d))
  (first|(go_at_call 119;refine(yJ N8.out _ _ _ (L3.ext r) hv3 (L1.ext r) B8).mono ?_;rintro e w2 ⟨a1,a2,a3,a4,a5,rfl,hM,O⟩;obtain⟨s0,s1,s2,f0,f1,f2⟩:=own3 ((r.trans O).blk o9)))
 have hE:=g.trans (r.trans O);have vn:k.heap.size<=k.drew.heap.size:=r.size;clear P o9;go_wp2_with fail;have hsz:=g.size;refine aQ (v:= .tuple #[m0 a1 a2 a3 a4 a5,.bool (valid sigT TT)]) (by simp[aS,results173,go_sem,s0,s1,s2]) rfl ⟨_,rfl,W0.since (hM.after ((((Ua.refl _ _).setCell (p:=⟨w.heap.size+1,0,none⟩) (by show w.heap.size+1 < _;omega) (j0 a1)).setCell (p:=⟨w.heap.size+1,1,none⟩) (by show w.heap.size+1 < _;omega) (j0 a2)).setCell (p:=⟨w.heap.size+1,2,none⟩) (by show w.heap.size+1 < _;omega) (.slice a3 a4 a5))) (by omega),(((hE.setCell (p:=⟨w.heap.size+1,0,none⟩) (by show w.heap.size<=w.heap.size+1;omega) _).setCell (p:=⟨w.heap.size+1,1,none⟩) (by show w.heap.size<=w.heap.size+1;omega) _).setCell (p:=⟨w.heap.size+1,2,none⟩) (by show w.heap.size<=w.heap.size+1;omega) _)⟩
end Go.Proofs.YtckhbnmfnpolgaaGreat
namespace Go.Proofs.YtckhbnmfnpolgaaGreat
open Go.RowKit
attribute [local go_sem ↓] Go.wp_at_zero Go.wp_at_succ
theorem RH(G:List Tr)(t:Tr)(a:aN)(N:Nat->Prop)(A:Option Addr)(ca:Nat)(v:Value)(ht:InT a N t v)(d:20<=G.length):
 aY prog 139 #[.slice A G.length ca,v] a fun e b=> e= .returned (.tuple #[.slice none 0 0,j0 2])/\Ext a b:=by
 obtain⟨k,n,c⟩:=t;obtain⟨At,ct,rfl,hl,hc,hK⟩:=InT.mk_iff.1 ht;have t1:decide ((20:Int)<=(G.length:Int))=true:=decide_eq_true (by omega);clear ht hK;go_enter func139,ntmps139;go_wp2_with fail;go_ret2;exact⟨rfl,(xr _).alloc _⟩
theorem BH(G:List Tr)(t:Tr)(f:aN)(N:Nat->Prop)(hN: ∀b,f.heap.size<=b->N b)(A:Option Addr)(ca:Nat)(v:Value)(hG:InK f N A G)(ht:InT f N t v)(hL:G.length < 20):
 aY prog 139 #[.slice A G.length ca,v] f fun e q=> ∃A' c',e= .returned (.tuple #[.slice A' (G.length+1) c',.int .i64 0])/\G.length+1<=c'/\c'<=aW/\InK q N A' (G++ [t])/\Ext f q:=by
 obtain⟨k,n,o⟩:=t;obtain⟨At,ct,rfl,hl,hc,hK⟩:=InT.mk_iff.1 ht;have t1:decide ((20:Int)<=(G.length:Int))=false:=decide_eq_false (by omega);obtain⟨i0,hi,L,P,F⟩:=info_parts xD;have HT:=hdq ht;have HG:=hdq hG;have HN:=hdq hN;have p:=(xr f).alloc (.cells #[.int .i64 k,.int .i64 n,.slice At o.length ct] 25);have B1:=aT f (.cells #[.int .i64 k,.int .i64 n,.slice At o.length ct] 25);obtain⟨r,V⟩: ∃x,x=f.alloc (.cells #[.int .i64 k,.int .i64 n,.slice At o.length ct] 25):=⟨_,rfl⟩;rw[<-V] at p B1;clear ht hK hG hN;go_enter func139,ntmps139;go_wp2_with fail;rw[<-V];clear V;obtain⟨z0,z1,z2,-,-,-⟩:=own3 B1;have u:=hdq (show∀q,Ext r q->q.cell? ⟨f.heap.size,0,none⟩=some (.int .i64 k)/\q.cell? ⟨f.heap.size,1,none⟩=some (.int .i64 n)/\q.cell? ⟨f.heap.size,2,none⟩=some (.slice At o.length ct) from fun q h=>⟨h.cell z0,h.cell z1,h.cell z2⟩);clear z0 z1 z2 B1;have hsz:=p.size;have j:Ext r r.drew:=(xr r).drew;have R:=hdq (show∀(wc l w3:aN) (v2:Value) (s:List Value) (g:Nat),Ext r wc->wc.heap.size<=l.heap.size->Ext l w3->l.ownsRow wc.heap.size 25 3 v2 G.length s->W1 l (fun b=> N b/\b < wc.heap.size) s G->ja (fun b=> b < wc.heap.size/\ ¬N b) wc w3 25 v2 G from fun wc l w3 v2 s g hc h1 h2 h3 h4=> by
  have:=ja.ext (X:=fun b=> b < wc.heap.size/\ ¬N b) (W:=wc) (w:=l) (e:=25) (v:=v2) (ks:=G) ⟨s,h3,h4.mono (fun b c=>⟨by omega,fun e=> by have:=(h3.lt b e).1;omega,fun e=> e.2 c.1⟩) (fun _ _=> rfl)⟩ h2;exact this)
 have I:=hdq HT.out.bound;refine wp_region_held_drew (S:=fun q=> q.cell? ⟨f.heap.size,0,none⟩=some (.int .i64 k)/\q.cell? ⟨f.heap.size,1,none⟩=some (.int .i64 n)/\q.cell? ⟨f.heap.size,2,none⟩=some (.slice At o.length ct)) (by kernel_rfl) (u.out _ j) (fun _=> ?_);refine iT (i:=0) (v:= ?v0) rfl (by kernel_rfl) (by kernel_rfl) (by kernel_rfl) (fun _ _ _ h=> h) (Or.inl ⟨by rfl, ?hy0⟩) (by assumption) ?rest0
 case hy0=>(intro w a;(try dsimp only at a);go_simp;(try with_reducible rfl))
 try simp only[eV,bZ,bR,bQ,aV,bP,bN]
 refine iT (i:=2) (v:= ?v2) rfl (by kernel_rfl) (by kernel_rfl) (by kernel_rfl) (fun _ _ _ h=> h) (Or.inl ⟨by rfl, ?hy2⟩) (by assumption) ?rest2
 case hy2=>(intro w a;(try dsimp only at a);go_simp;(try with_reducible rfl))
 try simp only[eV,bZ,bR,bQ,aV,bP,bN]
 refine fZ (rs:= [1,3]) (by kernel_rfl) (by simp) ?_;refine eP rfl (fun K hK=> ?_) (eP rfl (fun K hK=> ?_) fR)
 · (go_simp;go_at_call 179;refine(WA G _ N A ca (HG.out.later (p.trans j)) (by omega)).mono ?_;rintro e l ⟨v2,s,rfl,z,B,m⟩;dsimp only)
   refine hK.out _ _ (u.out _ (j.trans m)) (fun d=> ?_)
   try simp only[eV,bZ,bR,bQ,aV,bP,bN]
   refine fZ (rs:= [3]) (by kernel_rfl) (by simp) ?_;refine eP rfl (fun K hK=> ?_) fR
   go_simp
   refine hK.out _ _ (u.out _ ((j.trans m).alloc _)) (fun d=> ?_)
   try simp only[eV,bZ,bR,bQ,aV,bP,bN]
   have U:=R.out r.drew l (l.alloc (.cells #[.int .i64 k,.int .i64 n,.slice At o.length ct] 25)) _ s 0 j m.size ((xr l).alloc _) z B;have Z:f.heap.size<=(l.alloc (.cells #[.int .i64 k,.int .i64 n,.slice At o.length ct] 25)).heap.size:=((p.trans ((j.trans m).alloc _))).size;refine fZ (rs:= [4]) (by kernel_rfl) (by simp) ?_;refine eP rfl (fun K hK=> ?_) fR;have D:Ext f (l.alloc (.cells #[.int .i64 k,.int .i64 n,.slice At o.length ct] 25)):=p.trans ((j.trans m).alloc _);have y:f.heap.size<=(r.drew).heap.size:=(p.trans j).size;refine By _ (.tmp 10) (.tmp 12) _ (by rfl) 25 i0 _ underlying23 hi L P F rfl (by rfl) U (bM m.size ((xr l).alloc _).size) (tr:= .mk k n o) (InT.mono (fun b c=>⟨aZ c.2 D.size,fun e=> by have:=(z.lt b e).1;omega,fun e=> e.2 c.1⟩) (fun b c=> D.heap b c.2) I.out) (by rfl) (aT _ _) (by omega) ?_ (fun b c=> c.1);intro v5 E J Q;have H:Ext r E:=Ext.trans' ((j.trans m).alloc _) Q (j).size;refine hK.out _ _ (u.out _ H) (fun d=> ?_);obtain⟨T,Y,rfl,M,q2,O,-⟩:=J.lies (fun b c=> c.1);have C:InK E N T (G++ [.mk k n o]):=InK.mono (fun b c=> by
    by_cases e:N b
    · exact e
    · exact HN.out b (bM y (Nat.not_lt.1 fun h=> c.2 ⟨h,e⟩))) (fun _ _=> rfl) O
   rw[cV,cW] at M⊢;have Kp:=hdq C;clear C O J Q U B z
   try simp only[eV,bZ,bR,bQ,aV,bP,bN]
   refine iT (i:=5) (v:= ?vc5) rfl (by kernel_rfl) (by kernel_rfl) (by kernel_rfl) (fun _ _ _ h=> h) (Or.inl ⟨by rfl, ?hyc5⟩) (by assumption) ?restc5
   case hyc5=>(intro w a;(try dsimp only at a);go_simp;(try with_reducible rfl))
   try simp only[eV,bZ,bR,bQ,aV,bP,bN]
   refine iT (i:=6) (v:= ?vc6) rfl (by kernel_rfl) (by kernel_rfl) (by kernel_rfl) (fun _ _ _ h=> h) (Or.inl ⟨by rfl, ?hyc6⟩) (by assumption) ?restc6
   case hyc6=>(intro w a;(try dsimp only at a);go_simp;(try with_reducible rfl))
   try simp only[eV,bZ,bR,bQ,aV,bP,bN]
   refine wpAnyH_done (by kernel_rfl) ?_ _;go_wp2_with fail;go_ret2;exact⟨T,Y,rfl,M,q2,Kp.out,p.trans H⟩
 · go_simp
   refine hK.out _ _ (u.out _ (j.alloc _)) (fun d=> ?_)
   try simp only[eV,bZ,bR,bQ,aV,bP,bN]
   refine fZ (rs:= [1]) (by kernel_rfl) (by simp) ?_;refine eP rfl (fun K hK=> ?_) fR
   (go_simp;go_at_call 179;refine(WA G _ N A ca (HG.out.later (p.trans (j.alloc _))) (by omega)).mono ?_;rintro e l ⟨v2,s,rfl,z,B,m⟩;dsimp only)
   refine hK.out _ _ (u.out _ ((j.alloc _).trans m)) (fun d=> ?_)
   try simp only[eV,bZ,bR,bQ,aV,bP,bN]
   have U:=R.out _ l l _ s 0 (j.alloc _) m.size (xr _) z B;have Z:f.heap.size<=(l).heap.size:=(p.trans ((j.alloc _).trans m)).size;refine fZ (rs:= [4]) (by kernel_rfl) (by simp) ?_;refine eP rfl (fun K hK=> ?_) fR;have D:Ext f (l):=p.trans ((j.alloc _).trans m);have y:f.heap.size<=(r.drew.alloc (.cells #[.int .i64 k,.int .i64 n,.slice At o.length ct] 25)).heap.size:=(p.trans (j.alloc _)).size;refine By _ (.tmp 10) (.tmp 12) _ (by rfl) 25 i0 _ underlying23 hi L P F rfl (by rfl) U (m.size) (tr:= .mk k n o) (InT.mono (fun b c=>⟨aZ c.2 D.size,fun e=> by have:=(z.lt b e).1;omega,fun e=> e.2 c.1⟩) (fun b c=> D.heap b c.2) I.out) (by rfl) (m.blk (aT _ _)) (by omega) ?_ (fun b c=> c.1);intro v5 E J Q;have H:Ext r E:=Ext.trans' ((j.alloc _).trans m) Q ((j.alloc _)).size;refine hK.out _ _ (u.out _ H) (fun d=> ?_);obtain⟨T,Y,rfl,M,q2,O,-⟩:=J.lies (fun b c=> c.1);have C:InK E N T (G++ [.mk k n o]):=InK.mono (fun b c=> by
    by_cases e:N b
    · exact e
    · exact HN.out b (bM y (Nat.not_lt.1 fun h=> c.2 ⟨h,e⟩))) (fun _ _=> rfl) O
   rw[cV,cW] at M⊢;have Kp:=hdq C;clear C O J Q U B z
   try simp only[eV,bZ,bR,bQ,aV,bP,bN]
   refine iT (i:=5) (v:= ?vb5) rfl (by kernel_rfl) (by kernel_rfl) (by kernel_rfl) (fun _ _ _ h=> h) (Or.inl ⟨by rfl, ?hyb5⟩) (by assumption) ?restb5
   case hyb5=>(intro w a;(try dsimp only at a);go_simp;(try with_reducible rfl))
   try simp only[eV,bZ,bR,bQ,aV,bP,bN]
   refine iT (i:=6) (v:= ?vb6) rfl (by kernel_rfl) (by kernel_rfl) (by kernel_rfl) (fun _ _ _ h=> h) (Or.inl ⟨by rfl, ?hyb6⟩) (by assumption) ?restb6
   case hyb6=>(intro w a;(try dsimp only at a);go_simp;(try with_reducible rfl))
   try simp only[eV,bZ,bR,bQ,aV,bP,bN]
   refine wpAnyH_done (by kernel_rfl) ?_ _;go_wp2_with fail;go_ret2;exact⟨T,Y,rfl,M,q2,Kp.out,p.trans H⟩
end Go.Proofs.YtckhbnmfnpolgaaGreat
namespace Go.Proofs.YtckhbnmfnpolgaaGreat
open Go.RowKit
abbrev An:=Option (Tr×Int)
def thn(x:An)(f:Tr->An):An:=match x with
 |none=> none
 |some (s,c)=> if c=0 then f s else some (D2,c)
def mkV(t:Tr):Tr×Int:=if valid sigT t=true then(t,0) else(D2,2)
def W3(a b:Tr):Int:=if ge a b 200=1 then 0 else if ge a b 200=2 then 1 else 2
def S4(t:Tr)(kind:Int):Tr×Int:=if(b8 t 200).2≠0 then(D2,2) else if(b8 t 200).1.kind≠kind then(D2,1) else((b8 t 200).1,0)
def Q0(x:An)(kind:Int):An:=thn x fun s=> some (S4 s kind)
def E4(x:An)(a:Tr)(y:An):An:=thn x fun s=> if W3 s a=0 then y else some (D2,W3 s a)
def L6:Tr:= .mk 6 0 []
def m7(n:Int):Tr:= .mk 2 n []
def Qg(n:Int):Tr:= .mk 1 n []
def Oc(p:Tr):Tr:= .mk 3 0 [L6,.mk 3 0 [.mk 5 0 [shfT 1 p 0,Qg 0],.mk 5 0 [shfT 2 p 0,.mk 8 0 [Qg 1]]]]
def Ea(x:An)(T:Tr)(y:An):An:=thn (Q0 x 3) fun s=> if W3 (kd s.kids 0) T=0 then thn (some (S4 (kd s.kids 1) 2)) fun _=> y else some (D2,W3 (kd s.kids 0) T)
def tf(ty:Nat->An):An:=thn (Q0 (ty 0) 2) fun a=> thn (Q0 (ty 1) 2) fun b=> some (m7 (max a.num b.num),0)
def gr(a:Tr->An)(ty:Nat->An)(A:Tr):An:=thn (Q0 (ty 0) 2) fun _=> thn (ty 1) fun b=> thn (some (mkV (.mk 3 0 [A,b]))) fun out=> thn (a out) fun _=> some (out,0)
def Zl(ty:Nat->An)(a:Tr):An:=thn (Q0 (ty 0) 3) fun s=> E4 (ty 1) (kd s.kids 0) (some (mkV (X0 a (kd s.kids 1) 0 0)))
def Wm(ty:Nat->An)(p a:Tr):An:=Ea (ty 0) L6 (thn (some (mkV (.mk 5 0 [p,.mk 7 0 []]))) fun w=> E4 (ty 1) w (thn (some (mkV (Oc p))) fun b=> E4 (ty 2) b (E4 (ty 3) L6 (some (mkV (.mk 5 0 [p,a]))))))
def Ve(ty:Nat->An)(T:Tr):An:=thn (Q0 (ty 0) 2) fun s=> E4 (ty 1) T (E4 (ty 2) T (some (m7 s.num,0)))
def qn(b:Tr->An)(ty:Nat->An)(a:Tr):An:=thn (ty 0) fun s=> thn (Q0 (b s) 2) fun _=> some (mkV (.mk 10 0 [s,a,a]))
def kr(ty:Nat->An)(p:Tr):An:=thn (Q0 (ty 1) 10) fun e=> Ea (ty 0) (kd e.kids 0) (thn (some (mkV (.mk 5 0 [p,kd e.kids 1]))) fun w=> E4 (ty 2) w (some (mkV (.mk 5 0 [p,kd e.kids 2]))))
def No(ty:Nat->An)(T a:Tr):An:=thn (Q0 (ty 0) 2) fun _=> thn (some (S4 T 13)) fun s=> E4 (ty 1) (kd s.kids 0) (thn (some (mkV (X0 a (kd s.kids 1) 0 0))) fun w=> E4 (ty 2) w (some (T,0)))
def uk(ty:Nat->An)(k:Int)(a:Tr):An:=thn (Q0 (ty 0) 13) fun s=> if k=15 then some (kd s.kids 0,0) else some (mkV (X0 (.mk 15 0 [a]) (kd s.kids 1) 0 0))
def Oj(G:List Tr)(n:Int):Tr×Int:=if(G.length:Int)<=n then(D2,1) else mkV (shfT (n+1) (kd G (G.length - 1 - n.toNat)) 0)
def Sc(G:List Tr)(b:Tr->An)(ty:Nat->An)(k n:Int)(a:List Tr):An:=
 if k=1 then some (Oj G n)
 else if k=2 then some (if n=3 then(D2,1) else(m7 (n+1),0))
 else if k=6 then some (m7 0,0)
 else if k=7 then some (L6,0)
 else if k=8 then E4 (ty 0) L6 (some (L6,0))
 else if k=3\/k=13 then tf ty
 else if k=4 then gr b ty (kd a 0)
 else if k=5 then Zl ty (kd a 1)
 else if k=9 then Wm ty (kd a 0) (kd a 3)
 else if k=10 then Ve ty (kd a 0)
 else if k=11 then qn b ty (kd a 0)
 else if k=12 then kr ty (kd a 0)
 else if k=14 then No ty (kd a 0) (kd a 1)
 else uk ty k (kd a 0)
def Ma(a:List Tr->Tr->An)(G:List Tr)(k:Int)(ks:List Tr)(i:Nat):An:=
 if T4 k i=0 then a G (kd ks i) else if 20<=G.length then some (D2,2) else a (G++ [kd ks 0]) (kd ks i)
def P0:Nat->List Tr->Tr->An
 |0,_,_=> none
 |f+1,G,.mk k n ks=> Sc G (P0 f G) (Ma (P0 f) G k ks) k n ks
theorem Yr{x:An}{f:Tr->An}{r:Tr×Int}(h:thn x f=some r):(∃s,x=some (s,0)/\f s=some r)\/ ∃s c,x=some (s,c)/\c≠0/\r=(D2,c):=by
 unfold thn at h;cases x with
 |none=> cases h
 |some y=>
  obtain⟨s,c⟩:=y;simp only at h
  split at h
  · rename_i hc
    subst hc;exact .inl ⟨s,rfl,h⟩
  · rename_i hc
    exact .inr ⟨s,c,rfl,hc,by simpa using h.symm⟩
theorem ga{x:An}{f:Tr->An}{u:Tr}(h:thn x f=some (u,0)): ∃s,x=some (s,0)/\f s=some (u,0):=by
 rcases Yr h with h|⟨s,c,-,hc,h⟩
 · exact h
 · simp only[Prod.mk.injEq] at h
   exact absurd h.2.symm hc
theorem Ox{y:Tr×Int}{f:Tr->An}{u:Tr}(h:thn (some y) f=some (u,0)):y.2=0/\f y.1=some (u,0):=by
 obtain⟨s,a,b⟩:=ga h;simp only[cM] at a;subst a;exact⟨rfl,b⟩
theorem Zt{t:Tr}(h:(mkV t).2=0):valid sigT t=true/\(mkV t).1=t:=by
 unfold mkV at h⊢
 split at h
 · rename_i hv
   exact⟨hv,by rw[if_pos hv]⟩
 · simp at h
theorem ai{t u:Tr}(h:some (mkV t)=some (u,(0:Int))):valid sigT t=true/\u=t:=by
 have b:mkV t=(u,0):=by simpa using h
 obtain⟨c,a⟩:=Zt (t:=t) (by rw[b]);rw[b] at a;exact⟨c,a⟩
theorem Vz{t:Tr}{kind:Int}(h:(S4 t kind).2=0):b8 t 200=((S4 t kind).1,0)/\(S4 t kind).1.kind=kind:=by
 unfold S4 at h⊢
 split at h
 · simp at h
 · rename_i b
   split at h
   · simp at h
   · rename_i a
     rw[if_neg b,if_neg a];exact⟨by rw[<-show(b8 t 200).2=0 by simpa using b],by simpa using a⟩
theorem vf{x:An}{kind:Int}{s:Tr}(h:Q0 x kind=some (s,0)): ∃u,x=some (u,0)/\b8 u 200=(s,0)/\s.kind=kind:=by
 obtain⟨u,e,d⟩:=ga h;have a:S4 u kind=(s,0):=by simpa using d
 obtain⟨b,c⟩:=Vz (t:=u) (kind:=kind) (by rw[a]);rw[a] at b c;exact⟨u,e,b,c⟩
theorem ej{x y:An}{a u:Tr}(h:E4 x a y=some (u,0)): ∃s,x=some (s,0)/\W3 s a=0/\y=some (u,0):=by
 obtain⟨s,c,b⟩:=ga h
 split at b
 · rename_i hc
   exact⟨s,c,hc,b⟩
 · rename_i hc
   simp only[cM,Prod.mk.injEq] at b;exact absurd b.2 hc
theorem Iy{x y:An}{T u:Tr}(h:Ea x T y=some (u,0)): ∃F s c,x=some (F,0)/\b8 F 200=(s,0)/\s.kind=3/\W3 (kd s.kids 0) T=0/\b8 (kd s.kids 1) 200=(c,0)/\c.kind=2/\y=some (u,0):=by
 obtain⟨s,j,a⟩:=ga h;obtain⟨F,b,f,i⟩:=vf j
 split at a
 · rename_i hc
   obtain⟨d,e⟩:=Ox a;obtain⟨h8,g⟩:=Vz d;exact⟨F,s,_,b,f,i,hc,h8,g,e⟩
 · rename_i hc
   simp only[cM,Prod.mk.injEq] at a;exact absurd a.2 hc
theorem Rp{a b:Tr}(h:W3 a b=0):ge a b 200=1:=by
 unfold W3 at h
 split at h
 · assumption
 · split at h <;> simp at h
theorem wA{t x:Tr}(h:valid sigT t=true)(hm:x∈t.kids):valid sigT x=true:=by
 obtain⟨k,n,d⟩:=t;obtain⟨c,a⟩:=N4 h;have b:=(m6 c).2.2.2 x hm;unfold valid;rw[Qz b (by omega),bV,decide_eq_true_eq];have:=ya hm;simp only[cnt] at a;simp only[Tr.kids] at this;omega
theorem qd{t:Tr}(h:valid sigT t=true){i:Nat}(hi:i < t.kids.length):valid sigT (kd t.kids i)=true:=wA h (Pk hi)
