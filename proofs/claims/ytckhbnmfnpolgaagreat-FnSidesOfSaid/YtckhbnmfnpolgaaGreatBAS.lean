/-
  Lemmas towards the law, 19: Contract, Extd, InfP.
-/
import Derived.Test.YtckhbnmfnpolgaaGreatBAR
open Go renaming World->aK,Calls->aV,maxLen->aU,bodyPost_ret->aO,results->aQ,heap_alloc_new->aR,wpAnyH_take->gS,wpAnyH_ready->fO
open Bool renaming true_and->bQ
open Nat renaming one_mul->eY,add_assoc->dN,reduceAdd->dO,zero_mul->cT,add_zero->cQ,le_trans->bK,lt_of_lt_of_le->aX
open Go.Act renaming put->eQ
open List renaming getElem_toArray->bU,getElem_cons_succ->bO,getElem_cons_zero->bN,setIfInBounds_toArray->aT,set_cons_zero->bM,set_cons_succ->bL,length_append->cL,length_singleton->cO
open Go.AllReadyH renaming cons->dS,nil->eW
open Option.some renaming injEq->bW
open Go.Proofs.Tryz
set_option linter.unusedVariables false
set_option maxHeartbeats 4000000
set_option maxRecDepth 100000
namespace Go.Proofs.YtckhbnmfnpolgaaGreat
open Go.RowKit
theorem Yb{a:List Tr}{j:Nat}{t:Tr}(h:j < a.length)(e:a[j]=t):kd a j=t:=by
 unfold kd;rw[List.getD_eq_getElem?_getD,List.getElem?_eq_getElem h,e]
 rfl
def pf(w:aK)(t:Tr)(e:Ending)(a:aK):Prop:= ∃r,e= .returned (.tuple #[r,.bool (j0 m0 t)])/\P0 w a 25 (okT t) r/\Ext w a
theorem Uw{W w:aK}{t:Tr}{u:Value}(h:P0 W w 25 t u):aV prog 137 #[u] w fun e c=> ∃j d f i l,e= .returned (.tuple #[.agg #[.int .i64 j,.int .i64 d,.slice f i l],.bool (j0 m0 t)])/\P0 W c 25 (okT t) (.agg #[.int .i64 j,.int .i64 d,.slice f i l])/\Ext w c:=by
 obtain⟨k,n,g⟩:=t;obtain⟨A,cap,rfl,hl,hc,hK⟩:=P0.mk_iff.1 h;refine(Pt k n g A cap w h.lies).mono ?_;rintro e c ⟨a,b⟩;by_cases hv:j0 m0 (.mk k n g)=true
 · rw[if_pos hv] at a
   refine⟨_,_,_,_,_,by rw[a,hv], ?_,b⟩;unfold okT;rw[if_pos hv];exact h.ext b
 · rw[if_neg hv] at a
   refine⟨0,0,none,0,0,by rw[a,Bool.eq_false_iff.2 hv], ?_,b⟩;unfold okT;rw[if_neg hv];exact P0.leaf _ _ _ 0 0
theorem mE{t u d:Tr}(hT:d=Q0 u t 0 0)(w:aK)(v c:Value)(n:Lies w t v)(hv:j0 m0 t=true)(m:Lies w u c)(l:j0 m0 u=true):
 aV prog 119 #[v,.int .i64 0,c] w fun e f=> ∃i a b g j,e= .returned (.tuple #[.agg #[.int .i64 i,.int .i64 a,.slice b g j],.bool (j0 m0 d)])/\P0 w f 25 (okT d) (.agg #[.int .i64 i,.int .i64 a,.slice b g j])/\Ext w f:=by
 subst hT;refine(oA t 0 u w v c n hv m l (by omega) (by omega)).mono ?_;rintro e f ⟨r,rfl,k,h⟩;obtain⟨i,a,b,g,j,rfl⟩:=k.three';exact⟨_,_,_,_,_,rfl,k,h⟩
theorem dG(n:Int)(a:List Tr)(hv:j0 m0 (.mk 9 n a)=true)(w:aK)(A:Option Addr)(cap:Nat)(V:Lies w (.mk 9 n a) (.agg #[.int .i64 9,.int .i64 n,.slice A a.length cap]))(hK:q24 w A a)(hl:a.length<=cap)(hc:cap<=aU)(m:(kd a 3).kind=7):
 aV prog 173 #[.agg #[.int .i64 9,.int .i64 n,.slice A a.length cap]] w (pf w (ctr 9 a)):=by
 obtain⟨hsh,C7⟩:=Z3 hv;have U:O0 9=(a.length:Int):=(Z4 hsh).1;have j4:a.length=4:=by have h9:(4:Int)=(a.length:Int):=U;omega
 have D:=(Z4 hsh).2.2.2;have J2: ∀t∈a,j0 m0 t=true:=fun t ht=> by
  have i:=D t ht;have y:=L9 ht;simp only[cnt] at C7;unfold j0;rw[If i (by decide),bQ,decide_eq_true_eq];omega
 have z:=hc;unfold aU at z;have C:=hdq (fun W (hW:Ext w W)=> Sq (.mk 9 n a) 30 hsh W _ (V.ext hW));obtain⟨g,l⟩: ∃g,g=(w.alloc (.cells #[.int .i64 9,.int .i64 n,.slice A a.length cap] 25)).alloc (.cells #[.int .i64 0,.int .i64 0,.slice none 0 0] 25):=⟨_,rfl⟩;have O:Ext w g:=l▸((xr w).alloc _).alloc _;have k:g.heap[w.heap.size]? =some (.cells #[.int .i64 9,.int .i64 n,.slice A a.length cap] 25 (0,0)):=by rw[l];exact(W3 (xr _)).1
 have d:g.heap[w.heap.size+1]? =some (.cells #[.int .i64 0,.int .i64 0,.slice none 0 0] 25 (0,0)):=by rw[l];exact(W3 (xr _)).2.1
 have hs0:w.heap.size+1 < g.heap.size:=O1 d;have T:1 < a.length:=by omega
 have cm:(1:Int) <(a.length:Int):=by omega
 obtain⟨b1,o1,r,s,A1,C6,j15,N3,M,b,c,f,V7,W6,Z,N,J⟩:=hK.get (xr w) T;simp only[eY,dN,dO] at b c f;have G:kd a 1= .mk r s j15:=Yb T M.out;subst N3;have F:ctr 9 a= .mk r s j15:=(nq m).trans G;rw[F];have K:rdx 9 a=2:=by unfold rdx;simp[m]
 obtain⟨TT,B⟩: ∃x,x=Tr.mk r s j15:=⟨_,rfl⟩;rw[<-B];have L8:=hdq B;clear B;have qa:cnt (.mk r s j15)<=400:=(Z3 (J2 _ J)).2;clear F;have o:U3 (.mk 9 n a)=2:=K;rw[o] at C;clear o K j4 U
 skip
 go_enter func173,ntmps173;go_wp2_with fail;rw[<-l];clear l;refine(C.out _ O).mono ?_;rintro e w1 ⟨rfl,i⟩;have j:=O.trans i;have R:=i.blk k;have E:=i.blk d;have hs1:w.heap.size+1 < w1.heap.size:=O1 E;obtain⟨z0,z1,Y,-,-,-⟩:=own3 R;clear k d C i;have Ek:=j.cell b;have Bh:=j.cell c;have Ia:=j.cell f;have N5:=hdq (N.ext j);clear M G Z N J b c f hK V;go_wp2_with fail;refine(ti _ _ _ N5.out (by omega)).mono ?_;rintro e w2 ⟨u,rfl,q,y⟩;obtain⟨u1,u2,u3,u4,u5,rfl⟩:=q.three';go_wp2_with fail;rw[<-L8.out] at q;refine(Uw q).mono ?_;rintro e w3 ⟨S,I,L,Q,H,rfl,hM,P⟩;have hE:=j.trans (y.trans P);obtain⟨s0,X,s2,f0,f1,f2⟩:=own3 ((y.trans P).blk E);clear q R E Ek Bh Ia z0 z1 Y;go_wp2_with fail;have hsz:=j.size;refine aO (v:= .tuple #[.agg #[.int .i64 S,.int .i64 I,.slice L Q H],.bool (j0 m0 TT)]) (by simp[aQ,results173,go_sem,s0,X,s2]) rfl ⟨_,rfl,P0.since (hM.after ((((pa.refl _ _).setCell (p:=⟨w.heap.size+1,0,none⟩) (by show w.heap.size+1 < _;omega) (.int .i64 S)).setCell (p:=⟨w.heap.size+1,1,none⟩) (by show w.heap.size+1 < _;omega) (.int .i64 I)).setCell (p:=⟨w.heap.size+1,2,none⟩) (by show w.heap.size+1 < _;omega) (.slice L Q H))) (by omega),(((hE.setCell (p:=⟨w.heap.size+1,0,none⟩) (by show w.heap.size<=w.heap.size+1;omega) _).setCell (p:=⟨w.heap.size+1,1,none⟩) (by show w.heap.size<=w.heap.size+1;omega) _).setCell (p:=⟨w.heap.size+1,2,none⟩) (by show w.heap.size<=w.heap.size+1;omega) _)⟩
theorem VG(n:Int)(a:List Tr)(hv:j0 m0 (.mk 12 n a)=true)(w:aK)(A:Option Addr)(cap:Nat)(V:Lies w (.mk 12 n a) (.agg #[.int .i64 12,.int .i64 n,.slice A a.length cap]))(hK:q24 w A a)(hl:a.length<=cap)(hc:cap<=aU)(C:(kd a 1).kind=11):
 aV prog 173 #[.agg #[.int .i64 12,.int .i64 n,.slice A a.length cap]] w (pf w (ctr 12 a)):=by
 obtain⟨hsh,C7⟩:=Z3 hv;have U:O0 12=(a.length:Int):=(Z4 hsh).1;have j4:a.length=3:=by have h9:(3:Int)=(a.length:Int):=U;omega
 have D:=(Z4 hsh).2.2.2;have J2: ∀t∈a,j0 m0 t=true:=fun t ht=> by
  have g:=D t ht;have s:=L9 ht;simp only[cnt] at C7;unfold j0;rw[If g (by decide),bQ,decide_eq_true_eq];omega
 have y:=hc;unfold aU at y;have B:=hdq (fun W (hW:Ext w W)=> Sq (.mk 12 n a) 30 hsh W _ (V.ext hW));obtain⟨f,k⟩: ∃f,f=(w.alloc (.cells #[.int .i64 12,.int .i64 n,.slice A a.length cap] 25)).alloc (.cells #[.int .i64 0,.int .i64 0,.slice none 0 0] 25):=⟨_,rfl⟩;have M:Ext w f:=k▸((xr w).alloc _).alloc _;have j:f.heap[w.heap.size]? =some (.cells #[.int .i64 12,.int .i64 n,.slice A a.length cap] 25 (0,0)):=by rw[k];exact(W3 (xr _)).1
 have d:f.heap[w.heap.size+1]? =some (.cells #[.int .i64 0,.int .i64 0,.slice none 0 0] 25 (0,0)):=by rw[k];exact(W3 (xr _)).2.1
 have hs0:w.heap.size+1 < f.heap.size:=O1 d;have Q:2 < a.length:=by omega
 have ft:(2:Int) <(a.length:Int):=by omega
 obtain⟨b2,o2,m,o,A2,F4,q17,fe,O,c,b,F,dv,dc,r,N,H⟩:=hK.get (xr w) Q;simp only[Nat.reduceMul,dN,dO] at c b F;have X:kd a 2= .mk m o q17:=Yb Q O.out;subst fe;have G:ctr 12 a= .mk m o q17:=Sw.trans X;rw[G];have K:rdx 12 a=4:=by unfold rdx;simp[C]
 obtain⟨TT,z⟩: ∃x,x=Tr.mk m o q17:=⟨_,rfl⟩;rw[<-z];have L8:=hdq z;clear z;have qa:cnt (.mk m o q17)<=400:=(Z3 (J2 _ H)).2;clear G;have l:U3 (.mk 12 n a)=4:=K;rw[l] at B;clear l K j4 U
 skip
 go_enter func173,ntmps173;go_wp2_with fail;rw[<-k];clear k;refine(B.out _ M).mono ?_;rintro e w1 ⟨rfl,g⟩;have i:=M.trans g;have S:=g.blk j;have E:=g.blk d;have hs1:w.heap.size+1 < w1.heap.size:=O1 E;obtain⟨z0,z1,z2,-,-,-⟩:=own3 S;clear j d B g;have Y:=i.cell c;have Gv:=i.cell b;have Gg:=i.cell F;have N5:=hdq (N.ext i);clear O X r N H c b F hK V;go_wp2_with fail;refine(ti _ _ _ N5.out (by omega)).mono ?_;rintro e w2 ⟨u,rfl,q,s⟩;obtain⟨u1,u2,u3,u4,u5,rfl⟩:=q.three';go_wp2_with fail;rw[<-L8.out] at q;refine(Uw q).mono ?_;rintro e w3 ⟨T,J,L,R,I,rfl,hM,P⟩;have hE:=i.trans (s.trans P);obtain⟨s0,Z,s2,f0,f1,f2⟩:=own3 ((s.trans P).blk E);clear q S E Y Gv Gg z0 z1 z2;go_wp2_with fail;have hsz:=i.size;refine aO (v:= .tuple #[.agg #[.int .i64 T,.int .i64 J,.slice L R I],.bool (j0 m0 TT)]) (by simp[aQ,results173,go_sem,s0,Z,s2]) rfl ⟨_,rfl,P0.since (hM.after ((((pa.refl _ _).setCell (p:=⟨w.heap.size+1,0,none⟩) (by show w.heap.size+1 < _;omega) (.int .i64 T)).setCell (p:=⟨w.heap.size+1,1,none⟩) (by show w.heap.size+1 < _;omega) (.int .i64 J)).setCell (p:=⟨w.heap.size+1,2,none⟩) (by show w.heap.size+1 < _;omega) (.slice L R I))) (by omega),(((hE.setCell (p:=⟨w.heap.size+1,0,none⟩) (by show w.heap.size<=w.heap.size+1;omega) _).setCell (p:=⟨w.heap.size+1,1,none⟩) (by show w.heap.size<=w.heap.size+1;omega) _).setCell (p:=⟨w.heap.size+1,2,none⟩) (by show w.heap.size<=w.heap.size+1;omega) _)⟩
theorem nF(n:Int)(a:List Tr)(hv:j0 m0 (.mk 15 n a)=true)(w:aK)(A:Option Addr)(cap:Nat)(b8:Lies w (.mk 15 n a) (.agg #[.int .i64 15,.int .i64 n,.slice A a.length cap]))(hK:q24 w A a)(hl:a.length<=cap)(hc:cap<=aU)(o:(kd a 0).kind=14):
 aV prog 173 #[.agg #[.int .i64 15,.int .i64 n,.slice A a.length cap]] w (pf w (ctr 15 a)):=by
 obtain⟨hsh,C7⟩:=Z3 hv;have a7:O0 15=(a.length:Int):=(Z4 hsh).1;have j4:a.length=1:=by have h9:(1:Int)=(a.length:Int):=a7;omega
 have K:=(Z4 hsh).2.2.2;have J2: ∀t∈a,j0 m0 t=true:=fun t ht=> by
  have d:=K t ht;have m:=L9 ht;simp only[cnt] at C7;unfold j0;rw[If d (by decide),bQ,decide_eq_true_eq];omega
 have B:=hc;unfold aU at B;have H:=hdq (fun W (hW:Ext w W)=> Sq (.mk 15 n a) 30 hsh W _ (b8.ext hW));obtain⟨i,k⟩: ∃i,i=(w.alloc (.cells #[.int .i64 15,.int .i64 n,.slice A a.length cap] 25)).alloc (.cells #[.int .i64 0,.int .i64 0,.slice none 0 0] 25):=⟨_,rfl⟩;have Z:Ext w i:=k▸((xr w).alloc _).alloc _;have j:i.heap[w.heap.size]? =some (.cells #[.int .i64 15,.int .i64 n,.slice A a.length cap] 25 (0,0)):=by rw[k];exact(W3 (xr _)).1
 have g:i.heap[w.heap.size+1]? =some (.cells #[.int .i64 0,.int .i64 0,.slice none 0 0] 25 (0,0)):=by rw[k];exact(W3 (xr _)).2.1
 have hs0:w.heap.size+1 < i.heap.size:=O1 g;have O:0 < a.length:=by omega
 have U0:(0:Int) <(a.length:Int):=by omega
 obtain⟨b0,o0,Y,n0,A0,q7,c,ba,Q,F,D,J,ai,dy,M3,z6,x6⟩:=hK.get (xr w) O;simp only[cT,cQ] at F D J;have r:kd a 0= .mk Y n0 c:=Yb O Q.out;subst ba;rw[r] at o;have ek:Y=14:=o;subst ek;have l:=J2 _ x6;have N:O0 14=(c.length:Int):=(Z4 (Z3 l).1).1;have R3:c.length=3:=by have h9:(3:Int)=(c.length:Int):=N;omega
 have X:1 < c.length:=by omega
 have ng:(1:Int) <(c.length:Int):=by omega
 obtain⟨b3,o3,y,z,A3,F3,y20,U2,T6,I,f,E,ee,W7,G,E8,P⟩:=M3.get (xr w) X;simp only[eY,dN,dO] at I f E;have R:kd c 1= .mk y z y20:=Yb X T6.out;subst U2;have M:ctr 15 a= .mk y z y20:=by rw[Dq,r];exact R
 rw[M];have U:rdx 15 a=5:=by unfold rdx;rw[r];simp[Tr.kind]
 obtain⟨TT,C⟩: ∃x,x=Tr.mk y z y20:=⟨_,rfl⟩;rw[<-C];have L8:=hdq C;clear C;have qa:cnt (.mk y z y20)<=400:=by have d:=L9 P;have m:=(Z3 l).2;simp only[cnt] at m;omega
 clear M;have q:U3 (.mk 15 n a)=5:=U;rw[q] at H;clear q U j4 a7;clear R3;go_enter func173,ntmps173;go_wp2_with fail;rw[<-k];clear k;refine(H.out _ Z).mono ?_;rintro e w1 ⟨rfl,d⟩;have b:=Z.trans d;have s8:=d.blk j;have L:=d.blk g;have hs1:w.heap.size+1 < w1.heap.size:=O1 L;obtain⟨z0,z1,z2,-,-,-⟩:=own3 s8;clear j g H d;have rq:=b.cell F;have ut:=b.cell D;have uq:=b.cell J;have uy:=b.cell I;have um:=b.cell f;have ny:=b.cell E;have N5:=hdq (E8.ext b);clear Q r M3 z6 x6 T6 R G E8 P F D J I f E hK b8 N;go_wp2_with fail;refine(ti _ _ _ N5.out (by omega)).mono ?_;rintro e w2 ⟨u,rfl,s,m⟩;obtain⟨u1,u2,u3,u4,u5,rfl⟩:=s.three';go_wp2_with fail;rw[<-L8.out] at s;refine(Uw s).mono ?_;rintro e w3 ⟨a1,T,V,a4,S,rfl,hM,h3⟩;have hE:=b.trans (m.trans h3);obtain⟨s0,s1,s2,f0,f1,f2⟩:=own3 ((m.trans h3).blk L);clear s s8 L rq ut uq uy um ny z0 z1 z2;go_wp2_with fail;have hsz:=b.size;refine aO (v:= .tuple #[.agg #[.int .i64 a1,.int .i64 T,.slice V a4 S],.bool (j0 m0 TT)]) (by simp[aQ,results173,go_sem,s0,s1,s2]) rfl ⟨_,rfl,P0.since (hM.after ((((pa.refl _ _).setCell (p:=⟨w.heap.size+1,0,none⟩) (by show w.heap.size+1 < _;omega) (.int .i64 a1)).setCell (p:=⟨w.heap.size+1,1,none⟩) (by show w.heap.size+1 < _;omega) (.int .i64 T)).setCell (p:=⟨w.heap.size+1,2,none⟩) (by show w.heap.size+1 < _;omega) (.slice V a4 S))) (by omega),(((hE.setCell (p:=⟨w.heap.size+1,0,none⟩) (by show w.heap.size<=w.heap.size+1;omega) _).setCell (p:=⟨w.heap.size+1,1,none⟩) (by show w.heap.size<=w.heap.size+1;omega) _).setCell (p:=⟨w.heap.size+1,2,none⟩) (by show w.heap.size<=w.heap.size+1;omega) _)⟩
theorem dE(n:Int)(a:List Tr)(hv:j0 m0 (.mk 16 n a)=true)(w:aK)(A:Option Addr)(cap:Nat)(b8:Lies w (.mk 16 n a) (.agg #[.int .i64 16,.int .i64 n,.slice A a.length cap]))(hK:q24 w A a)(hl:a.length<=cap)(hc:cap<=aU)(o:(kd a 0).kind=14):
 aV prog 173 #[.agg #[.int .i64 16,.int .i64 n,.slice A a.length cap]] w (pf w (ctr 16 a)):=by
 obtain⟨hsh,C7⟩:=Z3 hv;have a7:O0 16=(a.length:Int):=(Z4 hsh).1;have j4:a.length=1:=by have h9:(1:Int)=(a.length:Int):=a7;omega
 have K:=(Z4 hsh).2.2.2;have J2: ∀t∈a,j0 m0 t=true:=fun t ht=> by
  have d:=K t ht;have m:=L9 ht;simp only[cnt] at C7;unfold j0;rw[If d (by decide),bQ,decide_eq_true_eq];omega
 have B:=hc;unfold aU at B;have H:=hdq (fun W (hW:Ext w W)=> Sq (.mk 16 n a) 30 hsh W _ (b8.ext hW));obtain⟨i,k⟩: ∃i,i=(w.alloc (.cells #[.int .i64 16,.int .i64 n,.slice A a.length cap] 25)).alloc (.cells #[.int .i64 0,.int .i64 0,.slice none 0 0] 25):=⟨_,rfl⟩;have Z:Ext w i:=k▸((xr w).alloc _).alloc _;have j:i.heap[w.heap.size]? =some (.cells #[.int .i64 16,.int .i64 n,.slice A a.length cap] 25 (0,0)):=by rw[k];exact(W3 (xr _)).1
 have g:i.heap[w.heap.size+1]? =some (.cells #[.int .i64 0,.int .i64 0,.slice none 0 0] 25 (0,0)):=by rw[k];exact(W3 (xr _)).2.1
 have hs0:w.heap.size+1 < i.heap.size:=O1 g;have O:0 < a.length:=by omega
 have U0:(0:Int) <(a.length:Int):=by omega
 obtain⟨b0,o0,Y,n0,A0,q7,c,ba,Q,F,D,J,ai,dy,M3,z6,x6⟩:=hK.get (xr w) O;simp only[cT,cQ] at F D J;have r:kd a 0= .mk Y n0 c:=Yb O Q.out;subst ba;rw[r] at o;have ek:Y=14:=o;subst ek;have l:=J2 _ x6;have N:O0 14=(c.length:Int):=(Z4 (Z3 l).1).1;have R3:c.length=3:=by have h9:(3:Int)=(c.length:Int):=N;omega
 have X:2 < c.length:=by omega
 have ng:(2:Int) <(c.length:Int):=by omega
 obtain⟨b3,o3,y,z,A3,F3,y20,U2,T6,I,f,E,ee,W7,G,E8,P⟩:=M3.get (xr w) X;simp only[Nat.reduceMul,dN,dO] at I f E;have R:kd c 2= .mk y z y20:=Yb X T6.out;subst U2;have M:ctr 16 a= .mk y z y20:=by rw[qr,r];exact R
 rw[M];have U:rdx 16 a=6:=by unfold rdx;rw[r];simp[Tr.kind]
 obtain⟨TT,C⟩: ∃x,x=Tr.mk y z y20:=⟨_,rfl⟩;rw[<-C];have L8:=hdq C;clear C;have qa:cnt (.mk y z y20)<=400:=by have d:=L9 P;have m:=(Z3 l).2;simp only[cnt] at m;omega
 clear M;have q:U3 (.mk 16 n a)=6:=U;rw[q] at H;clear q U j4 a7;clear R3;go_enter func173,ntmps173;go_wp2_with fail;rw[<-k];clear k;refine(H.out _ Z).mono ?_;rintro e w1 ⟨rfl,d⟩;have b:=Z.trans d;have s8:=d.blk j;have L:=d.blk g;have hs1:w.heap.size+1 < w1.heap.size:=O1 L;obtain⟨z0,z1,z2,-,-,-⟩:=own3 s8;clear j g H d;have rq:=b.cell F;have ut:=b.cell D;have uq:=b.cell J;have uy:=b.cell I;have um:=b.cell f;have ny:=b.cell E;have N5:=hdq (E8.ext b);clear Q r M3 z6 x6 T6 R G E8 P F D J I f E hK b8 N;go_wp2_with fail;refine(ti _ _ _ N5.out (by omega)).mono ?_;rintro e w2 ⟨u,rfl,s,m⟩;obtain⟨u1,u2,u3,u4,u5,rfl⟩:=s.three';go_wp2_with fail;rw[<-L8.out] at s;refine(Uw s).mono ?_;rintro e w3 ⟨a1,T,V,a4,S,rfl,hM,h3⟩;have hE:=b.trans (m.trans h3);obtain⟨s0,s1,s2,f0,f1,f2⟩:=own3 ((m.trans h3).blk L);clear s s8 L rq ut uq uy um ny z0 z1 z2;go_wp2_with fail;have hsz:=b.size;refine aO (v:= .tuple #[.agg #[.int .i64 a1,.int .i64 T,.slice V a4 S],.bool (j0 m0 TT)]) (by simp[aQ,results173,go_sem,s0,s1,s2]) rfl ⟨_,rfl,P0.since (hM.after ((((pa.refl _ _).setCell (p:=⟨w.heap.size+1,0,none⟩) (by show w.heap.size+1 < _;omega) (.int .i64 a1)).setCell (p:=⟨w.heap.size+1,1,none⟩) (by show w.heap.size+1 < _;omega) (.int .i64 T)).setCell (p:=⟨w.heap.size+1,2,none⟩) (by show w.heap.size+1 < _;omega) (.slice V a4 S))) (by omega),(((hE.setCell (p:=⟨w.heap.size+1,0,none⟩) (by show w.heap.size<=w.heap.size+1;omega) _).setCell (p:=⟨w.heap.size+1,1,none⟩) (by show w.heap.size<=w.heap.size+1;omega) _).setCell (p:=⟨w.heap.size+1,2,none⟩) (by show w.heap.size<=w.heap.size+1;omega) _)⟩
theorem jG(n:Int)(b:List Tr)(hv:j0 m0 (.mk 5 n b)=true)(w:aK)(A:Option Addr)(cap:Nat)(b8:Lies w (.mk 5 n b) (.agg #[.int .i64 5,.int .i64 n,.slice A b.length cap]))(hK:q24 w A b)(hl:b.length<=cap)(hc:cap<=aU)(M:(kd b 0).kind=4):
 aV prog 173 #[.agg #[.int .i64 5,.int .i64 n,.slice A b.length cap]] w (pf w (ctr 5 b)):=by
 obtain⟨hsh,C7⟩:=Z3 hv;have a7:O0 5=(b.length:Int):=(Z4 hsh).1;have j4:b.length=2:=by have h9:(2:Int)=(b.length:Int):=a7;omega
 have hsk:=(Z4 hsh).2.2.2;have J2: ∀t∈b,j0 m0 t=true:=fun t ht=> by
  have d:=hsk t ht;have L:=L9 ht;simp only[cnt] at C7;unfold j0;rw[If d (by decide),bQ,decide_eq_true_eq];omega
 have U:=hc;unfold aU at U;have C0:=hdq (fun W (hW:Ext w W)=> Sq (.mk 5 n b) 30 hsh W _ (b8.ext hW));obtain⟨E,K⟩: ∃E,E=(w.alloc (.cells #[.int .i64 5,.int .i64 n,.slice A b.length cap] 25)).alloc (.cells #[.int .i64 0,.int .i64 0,.slice none 0 0] 25):=⟨_,rfl⟩;have hX:Ext w E:=K▸((xr w).alloc _).alloc _;have J:E.heap[w.heap.size]? =some (.cells #[.int .i64 5,.int .i64 n,.slice A b.length cap] 25 (0,0)):=by rw[K];exact(W3 (xr _)).1
 have C:E.heap[w.heap.size+1]? =some (.cells #[.int .i64 0,.int .i64 0,.slice none 0 0] 25 (0,0)):=by rw[K];exact(W3 (xr _)).2.1
 have hs0:w.heap.size+1 < E.heap.size:=O1 C;have D7:0 < b.length:=by omega
 have U0:(0:Int) <(b.length:Int):=by omega
 obtain⟨f,o0,k0,n0,A0,q7,j,ba,S6,Y,M9,K7,ai,dy,M3,z6,x6⟩:=hK.get (xr w) D7;simp only[cT,cQ] at Y M9 K7;have P:kd b 0= .mk k0 n0 j:=Yb D7 S6.out;have z7:1 < b.length:=by omega
 have cm:(1:Int) <(b.length:Int):=by omega
 obtain⟨b1,o1,G,I,A1,C6,j15,N3,D6,u,z,D,V7,W6,K9,p5,j9⟩:=hK.get (xr w) z7;simp only[eY,dN,dO] at u z D;have I2:kd b 1= .mk G I j15:=Yb z7 D6.out;subst ba
 injection N3 with N3
 injection N3 with Y9 T hD1
 subst Y9 T;rw[P] at M;have hk4:k0=4:=M;subst hk4;have s:=J2 _ x6;have I0:O0 4=(j.length:Int):=(Z4 (Z3 s).1).1;have R3:j.length=2:=by have h9:(2:Int)=(j.length:Int):=I0;omega
 have D8:1 < j.length:=by omega
 have ng:(1:Int) <(j.length:Int):=by omega
 obtain⟨k,r,F,H,A3,F3,y20,U2,T6,Q,B,X,ee,W7,Z,E8,S⟩:=M3.get (xr w) D8;simp only[eY,dN,dO] at Q B X;have C4:kd j 1= .mk F H y20:=Yb D8 T6.out;subst U2;have D1:=J2 _ j9;have hv3:j0 m0 (.mk F H y20)=true:=by
  have d:=(Z4 (Z3 s).1).2.2.2 _ S;have L:=L9 S;have h3:=(Z3 s).2;simp only[cnt] at h3;unfold j0;rw[If d (by decide),bQ,decide_eq_true_eq];omega
 have l8:ctr 5 b=Q0 (.mk G I j15) (.mk F H y20) 0 0:=by rw[iq,P,I2];exact congrArg (fun t=> Q0 (.mk G I j15) t 0 0) C4
 rw[l8];have F9:rdx 5 b=1:=by unfold rdx;rw[P];simp[Tr.kind]
 obtain⟨TT,V⟩: ∃x,x=Q0 (.mk G I j15) (.mk F H y20) 0 0:=⟨_,rfl⟩;rw[<-V];have L8:=hdq V;clear V l8;have N:U3 (.mk 5 n b)=1:=F9;rw[N] at C0;clear N F9 j4 a7;clear R3;go_enter func173,ntmps173;go_wp2_with fail;rw[<-K];clear K;refine(C0.out _ hX).mono ?_;rintro e l ⟨rfl,d⟩;have g:=hX.trans d;have s8:=d.blk J;have o8:=d.blk C;have hs1:w.heap.size+1 < l.heap.size:=O1 o8;obtain⟨z0,z1,z2,-,-,-⟩:=own3 s8;clear J C C0 d;have yg:f < w.heap.size:=World.block_lt_of_cell? _ _ Y;have Jb:k < w.heap.size:=World.block_lt_of_cell? _ _ Q;have R:=hdq (show∀c:aK,(∀y,y < l.heap.size->y≠w.heap.size+1->c.heap[y]? =l.heap[y]?)->c.cell? ⟨w.heap.size,2,none⟩=some (.slice (some ⟨f,o0,none⟩) b.length cap)/\c.cell? ⟨f,o0+2,none⟩=some (.slice (some ⟨k,r,none⟩) j.length q7)/\c.cell? ⟨k,r+3,none⟩=some (.int .i64 F)/\c.cell? ⟨k,r+4,none⟩=some (.int .i64 H)/\c.cell? ⟨k,r+5,none⟩=some (.slice A3 y20.length F3)/\c.cell? ⟨f,o0+3,none⟩=some (.int .i64 G)/\c.cell? ⟨f,o0+4,none⟩=some (.int .i64 I)/\c.cell? ⟨f,o0+5,none⟩=some (.slice A1 j15.length C6) from fun c h=> by
  have m: ∀q i v,q < w.heap.size+1->l.cell? ⟨q,i,none⟩=some v->c.cell? ⟨q,i,none⟩=some v:=fun q i v hq hv=>(World.cell?_of_block (a:=⟨q,i,none⟩) (h q (by omega) (by omega))).trans hv
  exact⟨m _ _ _ (by omega) z2,m _ _ _ (by omega) (g.cell K7),m _ _ _ (by omega) (g.cell Q),m _ _ _ (by omega) (g.cell B),m _ _ _ (by omega) (g.cell X),m _ _ _ (by omega) (g.cell u),m _ _ _ (by omega) (g.cell z),m _ _ _ (by omega) (g.cell D)⟩)
 have o:Ext l l.drew:=(xr l).drew;have L3:=E8.ext g;have L1:=p5.ext g;clear S6 D6 T6 P I2 C4 M3 K9 Z z6 p5 E8 x6 j9 S hK b8 I0 Y M9 K7 u z D Q B X z0 z1 z2 s8;go_wp2_with fail
 go_region_held3 (fun c=> c.cell? ⟨w.heap.size,2,none⟩=some (.slice (some ⟨f,o0,none⟩) b.length cap)/\c.cell? ⟨f,o0+2,none⟩=some (.slice (some ⟨k,r,none⟩) j.length q7)/\c.cell? ⟨k,r+3,none⟩=some (.int .i64 F)/\c.cell? ⟨k,r+4,none⟩=some (.int .i64 H)/\c.cell? ⟨k,r+5,none⟩=some (.slice A3 y20.length F3)/\c.cell? ⟨f,o0+3,none⟩=some (.int .i64 G)/\c.cell? ⟨f,o0+4,none⟩=some (.int .i64 I)/\c.cell? ⟨f,o0+5,none⟩=some (.slice A1 j15.length C6))
  (first|exact R.out _ (fun y d L=> by rw[Below.heap_setCell _ _ _ _ L,Below.heap_setCell _ _ _ _ L,Below.heap_setCell _ _ _ _ L];exact(o.trans O).heap y d) |exact R.out _ (fun y d _=>(o.trans O).heap y d) |exact R.out _ (fun y d _=> o.heap y d))
  (first|(go_at_call 119;refine(mE L8.out _ _ _ (L3.ext o) hv3 (L1.ext o) D1).mono ?_;rintro e w2 ⟨a1,a2,a3,a4,a5,rfl,hM,O⟩;obtain⟨s0,s1,s2,f0,f1,f2⟩:=own3 ((o.trans O).blk o8)))
 have hE:=g.trans (o.trans O);have tz:l.heap.size<=l.drew.heap.size:=o.size;clear R o8;go_wp2_with fail;have hsz:=g.size;refine aO (v:= .tuple #[.agg #[.int .i64 a1,.int .i64 a2,.slice a3 a4 a5],.bool (j0 m0 TT)]) (by simp[aQ,results173,go_sem,s0,s1,s2]) rfl ⟨_,rfl,P0.since (hM.after ((((pa.refl _ _).setCell (p:=⟨w.heap.size+1,0,none⟩) (by show w.heap.size+1 < _;omega) (.int .i64 a1)).setCell (p:=⟨w.heap.size+1,1,none⟩) (by show w.heap.size+1 < _;omega) (.int .i64 a2)).setCell (p:=⟨w.heap.size+1,2,none⟩) (by show w.heap.size+1 < _;omega) (.slice a3 a4 a5))) (by omega),(((hE.setCell (p:=⟨w.heap.size+1,0,none⟩) (by show w.heap.size<=w.heap.size+1;omega) _).setCell (p:=⟨w.heap.size+1,1,none⟩) (by show w.heap.size<=w.heap.size+1;omega) _).setCell (p:=⟨w.heap.size+1,2,none⟩) (by show w.heap.size<=w.heap.size+1;omega) _)⟩
end Go.Proofs.YtckhbnmfnpolgaaGreat
namespace Go.Proofs.YtckhbnmfnpolgaaGreat
open Go.RowKit
attribute [local go_sem ↓] Go.wp_at_zero Go.wp_at_succ
theorem qH(G:List Tr)(t:Tr)(a:aK)(N:Nat->Prop)(A:Option Addr)(ca:Nat)(v:Value)(ht:InT a N t v)(c:20<=G.length):
 aV prog 139 #[.slice A G.length ca,v] a fun e b=> e= .returned (.tuple #[.slice none 0 0,.int .i64 2])/\Ext a b:=by
 obtain⟨k,n,d⟩:=t;obtain⟨At,ct,rfl,hl,hc,hK⟩:=InT.mk_iff.1 ht;have t1:decide ((20:Int)<=(G.length:Int))=true:=decide_eq_true (by omega);clear ht hK;go_enter func139,ntmps139;go_wp2_with fail;go_ret2;exact⟨rfl,(xr _).alloc _⟩
theorem XG(G:List Tr)(t:Tr)(f:aK)(N:Nat->Prop)(hN: ∀b,f.heap.size<=b->N b)(A:Option Addr)(ca:Nat)(v:Value)(hG:InK f N A G)(ht:InT f N t v)(hL:G.length < 20):
 aV prog 139 #[.slice A G.length ca,v] f fun e p=> ∃A' Z,e= .returned (.tuple #[.slice A' (G.length+1) Z,.int .i64 0])/\G.length+1<=Z/\Z<=aU/\InK p N A' (G++ [t])/\Ext f p:=by
 obtain⟨k,n,o⟩:=t;obtain⟨At,ct,rfl,hl,hc,hK⟩:=InT.mk_iff.1 ht;have t1:decide ((20:Int)<=(G.length:Int))=false:=decide_eq_false (by omega);obtain⟨i0,hi,Q,M,E⟩:=info_parts Wx;have HT:=hdq ht;have HG:=hdq hG;have HN:=hdq hN;have q:=(xr f).alloc (.cells #[.int .i64 k,.int .i64 n,.slice At o.length ct] 25);have B1:=aR f (.cells #[.int .i64 k,.int .i64 n,.slice At o.length ct] 25);obtain⟨r,d9⟩: ∃x,x=f.alloc (.cells #[.int .i64 k,.int .i64 n,.slice At o.length ct] 25):=⟨_,rfl⟩;rw[<-d9] at q B1;clear ht hK hG hN;go_enter func139,ntmps139;go_wp2_with fail;rw[<-d9];clear d9;obtain⟨z0,z1,z2,-,-,-⟩:=own3 B1;have z:=hdq (show∀p,Ext r p->p.cell? ⟨f.heap.size,0,none⟩=some (.int .i64 k)/\p.cell? ⟨f.heap.size,1,none⟩=some (.int .i64 n)/\p.cell? ⟨f.heap.size,2,none⟩=some (.slice At o.length ct) from fun p h=>⟨h.cell z0,h.cell z1,h.cell z2⟩);clear z0 z1 z2 B1;have hsz:=q.size;have j:Ext r r.drew:=(xr r).drew;have R:=hdq (show∀(wc l w3:aK) (v2:Value) (s:List Value) (g:Nat),Ext r wc->wc.heap.size<=l.heap.size->Ext l w3->l.ownsRow wc.heap.size 25 3 v2 G.length s->W0 l (fun b=> N b/\b < wc.heap.size) s G->i9 (fun b=> b < wc.heap.size/\ ¬N b) wc w3 25 v2 G from fun wc l w3 v2 s g hc h1 h2 h3 h4=> by
  have:=i9.ext (X:=fun b=> b < wc.heap.size/\ ¬N b) (W:=wc) (w:=l) (e:=25) (v:=v2) (ks:=G) ⟨s,h3,h4.mono (fun b d=>⟨by omega,fun e=> by have:=(h3.lt b e).1;omega,fun e=> e.2 d.1⟩) (fun _ _=> rfl)⟩ h2;exact this)
 have T:=hdq HT.out.bound;refine wp_region_held_drew (S:=fun p=> p.cell? ⟨f.heap.size,0,none⟩=some (.int .i64 k)/\p.cell? ⟨f.heap.size,1,none⟩=some (.int .i64 n)/\p.cell? ⟨f.heap.size,2,none⟩=some (.slice At o.length ct)) (by kernel_rfl) (z.out _ j) (fun _=> ?_);refine gS (i:=0) (v:= ?v0) rfl (by kernel_rfl) (by kernel_rfl) (by kernel_rfl) (fun _ _ _ h=> h) (Or.inl ⟨by rfl, ?hy0⟩) (by assumption) ?rest0
 case hy0=>(intro w a;(try dsimp only at a);go_simp;(try with_reducible rfl))
 try simp only[eQ,bU,bO,bN,aT,bM,bL]
 refine gS (i:=2) (v:= ?v2) rfl (by kernel_rfl) (by kernel_rfl) (by kernel_rfl) (fun _ _ _ h=> h) (Or.inl ⟨by rfl, ?hy2⟩) (by assumption) ?rest2
 case hy2=>(intro w a;(try dsimp only at a);go_simp;(try with_reducible rfl))
 try simp only[eQ,bU,bO,bN,aT,bM,bL]
 refine fO (rs:= [1,3]) (by kernel_rfl) (by simp) ?_;refine dS rfl (fun K hK=> ?_) (dS rfl (fun K hK=> ?_) eW)
 · (go_simp;go_at_call 179;refine(fz G _ N A ca (HG.out.later (q.trans j)) (by omega)).mono ?_;rintro e l ⟨v2,s,rfl,y,B,m⟩;dsimp only)
   refine hK.out _ _ (z.out _ (j.trans m)) (fun c=> ?_);clear hK K
   try simp only[eQ,bU,bO,bN,aT,bM,bL]
   refine fO (rs:= [3]) (by kernel_rfl) (by simp) ?_;refine dS rfl (fun K hK=> ?_) eW
   go_simp
   refine hK.out _ _ (z.out _ ((j.trans m).alloc _)) (fun c=> ?_);clear hK K
   try simp only[eQ,bU,bO,bN,aT,bM,bL]
   have F:=R.out r.drew l (l.alloc (.cells #[.int .i64 k,.int .i64 n,.slice At o.length ct] 25)) _ s 0 j m.size ((xr l).alloc _) y B;have V:f.heap.size<=(l.alloc (.cells #[.int .i64 k,.int .i64 n,.slice At o.length ct] 25)).heap.size:=((q.trans ((j.trans m).alloc _))).size;refine fO (rs:= [4]) (by kernel_rfl) (by simp) ?_;refine dS rfl (fun K hK=> ?_) eW;have P:Ext f (l.alloc (.cells #[.int .i64 k,.int .i64 n,.slice At o.length ct] 25)):=q.trans ((j.trans m).alloc _);have u:f.heap.size<=(r.drew).heap.size:=(q.trans j).size;refine Uu _ (.tmp 10) (.tmp 12) _ (by rfl) 25 i0 _ underlying23 hi Q M E rfl (by rfl) F (bK m.size ((xr l).alloc _).size) (tr:= .mk k n o) (InT.mono (fun b d=>⟨aX d.2 P.size,fun e=> by have:=(y.lt b e).1;omega,fun e=> e.2 d.1⟩) (fun b d=> P.heap b d.2) T.out) (by rfl) (aR _ _) (by omega) ?_ (fun b d=> d.1);intro v5 U D H;have J:Ext r U:=Ext.trans' ((j.trans m).alloc _) H (j).size;refine hK.out _ _ (z.out _ J) (fun c=> ?_);clear hK K;obtain⟨I,c5,rfl,O,q2,C,-⟩:=D.lies (fun b d=> d.1);have L:InK U N I (G++ [.mk k n o]):=InK.mono (fun b d=> by
    by_cases e:N b
    · exact e
    · exact HN.out b (bK u (Nat.not_lt.1 fun h=> d.2 ⟨h,e⟩))) (fun _ _=> rfl) C
   rw[cL,cO] at O⊢;have Y:=hdq L;clear L C D H F B y
   try simp only[eQ,bU,bO,bN,aT,bM,bL]
   refine gS (i:=5) (v:= ?vc5) rfl (by kernel_rfl) (by kernel_rfl) (by kernel_rfl) (fun _ _ _ h=> h) (Or.inl ⟨by rfl, ?hyc5⟩) (by assumption) ?restc5
   case hyc5=>(intro w a;(try dsimp only at a);go_simp;(try with_reducible rfl))
   try simp only[eQ,bU,bO,bN,aT,bM,bL]
   refine gS (i:=6) (v:= ?vc6) rfl (by kernel_rfl) (by kernel_rfl) (by kernel_rfl) (fun _ _ _ h=> h) (Or.inl ⟨by rfl, ?hyc6⟩) (by assumption) ?restc6
   case hyc6=>(intro w a;(try dsimp only at a);go_simp;(try with_reducible rfl))
   try simp only[eQ,bU,bO,bN,aT,bM,bL]
   refine wpAnyH_done (by kernel_rfl) ?_ _;go_wp2_with fail;go_ret2;exact⟨I,c5,rfl,O,q2,Y.out,q.trans J⟩
 · go_simp
   refine hK.out _ _ (z.out _ (j.alloc _)) (fun c=> ?_);clear hK K
   try simp only[eQ,bU,bO,bN,aT,bM,bL]
   refine fO (rs:= [1]) (by kernel_rfl) (by simp) ?_;refine dS rfl (fun K hK=> ?_) eW
   (go_simp;go_at_call 179;refine(fz G _ N A ca (HG.out.later (q.trans (j.alloc _))) (by omega)).mono ?_;rintro e l ⟨v2,s,rfl,y,B,m⟩;dsimp only)
   refine hK.out _ _ (z.out _ ((j.alloc _).trans m)) (fun c=> ?_);clear hK K
   try simp only[eQ,bU,bO,bN,aT,bM,bL]
   have F:=R.out _ l l _ s 0 (j.alloc _) m.size (xr _) y B;have V:f.heap.size<=(l).heap.size:=(q.trans ((j.alloc _).trans m)).size;refine fO (rs:= [4]) (by kernel_rfl) (by simp) ?_;refine dS rfl (fun K hK=> ?_) eW;have P:Ext f (l):=q.trans ((j.alloc _).trans m);have u:f.heap.size<=(r.drew.alloc (.cells #[.int .i64 k,.int .i64 n,.slice At o.length ct] 25)).heap.size:=(q.trans (j.alloc _)).size;refine Uu _ (.tmp 10) (.tmp 12) _ (by rfl) 25 i0 _ underlying23 hi Q M E rfl (by rfl) F (m.size) (tr:= .mk k n o) (InT.mono (fun b d=>⟨aX d.2 P.size,fun e=> by have:=(y.lt b e).1;omega,fun e=> e.2 d.1⟩) (fun b d=> P.heap b d.2) T.out) (by rfl) (m.blk (aR _ _)) (by omega) ?_ (fun b d=> d.1);intro v5 U D H;have J:Ext r U:=Ext.trans' ((j.alloc _).trans m) H ((j.alloc _)).size;refine hK.out _ _ (z.out _ J) (fun c=> ?_);clear hK K;obtain⟨I,c5,rfl,O,q2,C,-⟩:=D.lies (fun b d=> d.1);have L:InK U N I (G++ [.mk k n o]):=InK.mono (fun b d=> by
    by_cases e:N b
    · exact e
    · exact HN.out b (bK u (Nat.not_lt.1 fun h=> d.2 ⟨h,e⟩))) (fun _ _=> rfl) C
   rw[cL,cO] at O⊢;have Y:=hdq L;clear L C D H F B y
   try simp only[eQ,bU,bO,bN,aT,bM,bL]
   refine gS (i:=5) (v:= ?vb5) rfl (by kernel_rfl) (by kernel_rfl) (by kernel_rfl) (fun _ _ _ h=> h) (Or.inl ⟨by rfl, ?hyb5⟩) (by assumption) ?restb5
   case hyb5=>(intro w a;(try dsimp only at a);go_simp;(try with_reducible rfl))
   try simp only[eQ,bU,bO,bN,aT,bM,bL]
   refine gS (i:=6) (v:= ?vb6) rfl (by kernel_rfl) (by kernel_rfl) (by kernel_rfl) (fun _ _ _ h=> h) (Or.inl ⟨by rfl, ?hyb6⟩) (by assumption) ?restb6
   case hyb6=>(intro w a;(try dsimp only at a);go_simp;(try with_reducible rfl))
   try simp only[eQ,bU,bO,bN,aT,bM,bL]
   refine wpAnyH_done (by kernel_rfl) ?_ _;go_wp2_with fail;go_ret2;exact⟨I,c5,rfl,O,q2,Y.out,q.trans J⟩
end Go.Proofs.YtckhbnmfnpolgaaGreat
namespace Go.Proofs.YtckhbnmfnpolgaaGreat
open Go.RowKit
abbrev An:=Option (Tr×Int)
def thn(x:An)(f:Tr->An):An:=match x with
 |none=> none
 |some (s,c)=> if c=0 then f s else some (E2,c)
def mkV(t:Tr):Tr×Int:=if j0 m0 t=true then(t,0) else(E2,2)
def V3(a b:Tr):Int:=if Sc a b 200=1 then 0 else if Sc a b 200=2 then 1 else 2
def d4(t:Tr)(kind:Int):Tr×Int:=if(d7 t 200).2≠0 then(E2,2) else if(d7 t 200).1.kind≠kind then(E2,1) else((d7 t 200).1,0)
def V0(x:An)(kind:Int):An:=thn x fun s=> some (d4 s kind)
def P3(x:An)(a:Tr)(y:An):An:=thn x fun s=> if V3 s a=0 then y else some (E2,V3 s a)
def i5:Tr:= .mk 6 0 []
def m6(n:Int):Tr:= .mk 2 n []
def Lf(n:Int):Tr:= .mk 1 n []
def Wb(p:Tr):Tr:= .mk 3 0 [i5,.mk 3 0 [.mk 5 0 [shfT 1 p 0,Lf 0],.mk 5 0 [shfT 2 p 0,.mk 8 0 [Lf 1]]]]
def da(x:An)(T:Tr)(y:An):An:=thn (V0 x 3) fun s=> if V3 (kd s.kids 0) T=0 then thn (some (d4 (kd s.kids 1) 2)) fun _=> y else some (E2,V3 (kd s.kids 0) T)
def ue(ty:Nat->An):An:=thn (V0 (ty 0) 2) fun a=> thn (V0 (ty 1) 2) fun b=> some (m6 (max a.num b.num),0)
def qn(a:Tr->An)(ty:Nat->An)(A:Tr):An:=thn (V0 (ty 0) 2) fun _=> thn (ty 1) fun b=> thn (some (mkV (.mk 3 0 [A,b]))) fun out=> thn (a out) fun _=> some (out,0)
def dk(ty:Nat->An)(a:Tr):An:=thn (V0 (ty 0) 3) fun s=> P3 (ty 1) (kd s.kids 0) (some (mkV (Q0 a (kd s.kids 1) 0 0)))
def em(ty:Nat->An)(p a:Tr):An:=da (ty 0) i5 (thn (some (mkV (.mk 5 0 [p,.mk 7 0 []]))) fun w=> P3 (ty 1) w (thn (some (mkV (Wb p))) fun b=> P3 (ty 2) b (P3 (ty 3) i5 (some (mkV (.mk 5 0 [p,a]))))))
def Le(ty:Nat->An)(T:Tr):An:=thn (V0 (ty 0) 2) fun s=> P3 (ty 1) T (P3 (ty 2) T (some (m6 s.num,0)))
def Ho(b:Tr->An)(ty:Nat->An)(a:Tr):An:=thn (ty 0) fun s=> thn (V0 (b s) 2) fun _=> some (mkV (.mk 10 0 [s,a,a]))
def bn(ty:Nat->An)(p:Tr):An:=thn (V0 (ty 1) 10) fun e=> da (ty 0) (kd e.kids 0) (thn (some (mkV (.mk 5 0 [p,kd e.kids 1]))) fun w=> P3 (ty 2) w (some (mkV (.mk 5 0 [p,kd e.kids 2]))))
def lo(ty:Nat->An)(T a:Tr):An:=thn (V0 (ty 0) 2) fun _=> thn (some (d4 T 13)) fun s=> P3 (ty 1) (kd s.kids 0) (thn (some (mkV (Q0 a (kd s.kids 1) 0 0))) fun w=> P3 (ty 2) w (some (T,0)))
def jj(ty:Nat->An)(k:Int)(a:Tr):An:=thn (V0 (ty 0) 13) fun s=> if k=15 then some (kd s.kids 0,0) else some (mkV (Q0 (.mk 15 0 [a]) (kd s.kids 1) 0 0))
def Xg(G:List Tr)(n:Int):Tr×Int:=if(G.length:Int)<=n then(E2,1) else mkV (shfT (n+1) (kd G (G.length - 1 - n.toNat)) 0)
def Vb(G:List Tr)(b:Tr->An)(ty:Nat->An)(k n:Int)(a:List Tr):An:=
 if k=1 then some (Xg G n)
 else if k=2 then some (if n=3 then(E2,1) else(m6 (n+1),0))
 else if k=6 then some (m6 0,0)
 else if k=7 then some (i5,0)
 else if k=8 then P3 (ty 0) i5 (some (i5,0))
 else if k=3\/k=13 then ue ty
 else if k=4 then qn b ty (kd a 0)
 else if k=5 then dk ty (kd a 1)
 else if k=9 then em ty (kd a 0) (kd a 3)
 else if k=10 then Le ty (kd a 0)
 else if k=11 then Ho b ty (kd a 0)
 else if k=12 then bn ty (kd a 0)
 else if k=14 then lo ty (kd a 0) (kd a 1)
 else jj ty k (kd a 0)
def ga(a:List Tr->Tr->An)(G:List Tr)(k:Int)(ks:List Tr)(i:Nat):An:=
 if E4 k i=0 then a G (kd ks i) else if 20<=G.length then some (E2,2) else a (G++ [kd ks 0]) (kd ks i)
def N0:Nat->List Tr->Tr->An
 |0,_,_=> none
 |f+1,G,.mk k n ks=> Vb G (N0 f G) (ga (N0 f) G k ks) k n ks
theorem Vp{x:An}{f:Tr->An}{r:Tr×Int}(h:thn x f=some r):(∃s,x=some (s,0)/\f s=some r)\/ ∃s c,x=some (s,c)/\c≠0/\r=(E2,c):=by
 unfold thn at h;cases x with
 |none=> cases h
 |some y=>
  obtain⟨s,c⟩:=y;simp only at h
  split at h
  · rename_i hc
    subst hc;exact .inl ⟨s,rfl,h⟩
  · rename_i hc
    exact .inr ⟨s,c,rfl,hc,by simpa using h.symm⟩
theorem v9{x:An}{f:Tr->An}{u:Tr}(h:thn x f=some (u,0)): ∃s,x=some (s,0)/\f s=some (u,0):=by
 rcases Vp h with h|⟨s,c,-,hc,h⟩
 · exact h
 · simp only[Prod.mk.injEq] at h
   exact absurd h.2.symm hc
theorem Mt{y:Tr×Int}{f:Tr->An}{u:Tr}(h:thn (some y) f=some (u,0)):y.2=0/\f y.1=some (u,0):=by
 obtain⟨s,a,b⟩:=v9 h;simp only[bW] at a;subst a;exact⟨rfl,b⟩
theorem Uq{t:Tr}(h:(mkV t).2=0):j0 m0 t=true/\(mkV t).1=t:=by
 unfold mkV at h⊢
 split at h
 · rename_i hv
   exact⟨hv,by rw[if_pos hv]⟩
 · simp at h
theorem Tf{t u:Tr}(h:some (mkV t)=some (u,(0:Int))):j0 m0 t=true/\u=t:=by
 have a:mkV t=(u,0):=by simpa using h
 obtain⟨c,b⟩:=Uq (t:=t) (by rw[a]);rw[a] at b;exact⟨c,b⟩
theorem bw{t:Tr}{kind:Int}(h:(d4 t kind).2=0):d7 t 200=((d4 t kind).1,0)/\(d4 t kind).1.kind=kind:=by
 unfold d4 at h⊢
 split at h
 · simp at h
 · rename_i a
   split at h
   · simp at h
   · rename_i b
     rw[if_neg a,if_neg b];exact⟨by rw[<-show(d7 t 200).2=0 by simpa using a],by simpa using b⟩
theorem Ng{x:An}{kind:Int}{s:Tr}(h:V0 x kind=some (s,0)): ∃u,x=some (u,0)/\d7 u 200=(s,0)/\s.kind=kind:=by
 obtain⟨u,d,e⟩:=v9 h;have c:d4 u kind=(s,0):=by simpa using e
 obtain⟨a,b⟩:=bw (t:=u) (kind:=kind) (by rw[c]);rw[c] at a b;exact⟨u,d,a,b⟩
theorem Sg{x y:An}{a u:Tr}(h:P3 x a y=some (u,0)): ∃s,x=some (s,0)/\V3 s a=0/\y=some (u,0):=by
 obtain⟨s,c,b⟩:=v9 h
 split at b
 · rename_i hc
   exact⟨s,c,hc,b⟩
 · rename_i hc
   simp only[bW,Prod.mk.injEq] at b;exact absurd b.2 hc
theorem Ov{x y:An}{T u:Tr}(h:da x T y=some (u,0)): ∃F s c,x=some (F,0)/\d7 F 200=(s,0)/\s.kind=3/\V3 (kd s.kids 0) T=0/\d7 (kd s.kids 1) 200=(c,0)/\c.kind=2/\y=some (u,0):=by
 obtain⟨s,e,a⟩:=v9 h;obtain⟨F,k,b,g⟩:=Ng e
 split at a
 · rename_i hc
   obtain⟨d,f⟩:=Mt a;obtain⟨i,j⟩:=bw d;exact⟨F,s,_,k,b,g,hc,i,j,f⟩
 · rename_i hc
   simp only[bW,Prod.mk.injEq] at a;exact absurd a.2 hc
theorem Ol{a b:Tr}(h:V3 a b=0):Sc a b 200=1:=by
 unfold V3 at h
 split at h
 · assumption
 · split at h <;> simp at h
theorem UA{t x:Tr}(h:j0 m0 t=true)(hm:x∈t.kids):j0 m0 x=true:=by
 obtain⟨k,n,d⟩:=t;obtain⟨a,b⟩:=Z3 h;have c:=(Z4 a).2.2.2 x hm;unfold j0;rw[Ow c (by omega),bQ,decide_eq_true_eq];have:=L9 hm;simp only[cnt] at b;simp only[Tr.kids] at this;omega
theorem Cd{t:Tr}(h:j0 m0 t=true){i:Nat}(hi:i < t.kids.length):j0 m0 (kd t.kids i)=true:=UA h (Li hi)
