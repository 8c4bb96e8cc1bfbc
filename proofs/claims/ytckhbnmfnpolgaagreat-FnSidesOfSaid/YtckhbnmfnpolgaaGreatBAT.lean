/-
  Lemmas towards the law, 20: L3Con.
-/
import Derived.Test.YtckhbnmfnpolgaaGreatBAS
open Go renaming World->aK,maxLen->aU,bodyPost_ret->aO,results->aQ
open Bool renaming true_and->bQ
open Nat renaming one_mul->eY,add_assoc->dN,reduceAdd->dO,zero_mul->cT,add_zero->cQ
open Go.Proofs.Tryz
set_option linter.unusedVariables false
set_option maxHeartbeats 4000000
set_option maxRecDepth 100000
namespace Go.Proofs.YtckhbnmfnpolgaaGreat
open Go.RowKit
def Rg(w:aK)(t:Tr)(e:Ending)(a:aK):Prop:= ∃r,e= .returned r/\P0 w a 25 t r/\Ext w a
theorem NF{t u k:Tr}(hT:k=Q0 u t 0 0)(w:aK)(v c:Value)(o:Lies w t v)(hv:j0 m0 t=true)(n:Lies w u c)(m:j0 m0 u=true):
 Calls prog 121 #[v,.int .i64 0,c,.int .i64 0] w fun e d=> ∃g a b f i,e= .returned (.agg #[.int .i64 g,.int .i64 a,.slice b f i])/\P0 w d 25 k (.agg #[.int .i64 g,.int .i64 a,.slice b f i])/\Ext w d:=by
 subst hT;have l:=Ug hv;have p:=Ug m;refine(Sz t w v 0 u c 0 30 l.2 o (by omega) p.2 (by omega) n (by omega) (by omega) (by omega) (by omega)).mono ?_;rintro e d ⟨r,rfl,j,h⟩;obtain⟨g,a,b,f,i,rfl⟩:=j.three';exact⟨_,_,_,_,_,rfl,j,h⟩
theorem pm(n:Int)(a:List Tr)(hv:j0 m0 (.mk 9 n a)=true)(w:aK)(A:Option Addr)(cap:Nat)(U:Lies w (.mk 9 n a) (.agg #[.int .i64 9,.int .i64 n,.slice A a.length cap]))(hK:q24 w A a)(hl:a.length<=cap)(hc:cap<=aU)(m:(kd a 3).kind=7):
 Calls prog 171 #[.agg #[.int .i64 9,.int .i64 n,.slice A a.length cap]] w (Rg w (ctr 9 a)):=by
 obtain⟨hsh,C7⟩:=Z3 hv;have T:O0 9=(a.length:Int):=(Z4 hsh).1;have j4:a.length=4:=by have h9:(4:Int)=(a.length:Int):=T;omega
 have C:=(Z4 hsh).2.2.2;have J2: ∀t∈a,j0 m0 t=true:=fun t ht=> by
  have i:=C t ht;have h2:=L9 ht;simp only[cnt] at C7;unfold j0;rw[If i (by decide),bQ,decide_eq_true_eq];omega
 have y:=hc;unfold aU at y;have B:=hdq (fun W (hW:Ext w W)=> mq (.mk 9 n a) 30 hsh W _ (U.ext hW));obtain⟨g,l⟩: ∃g,g=(w.alloc (.cells #[.int .i64 9,.int .i64 n,.slice A a.length cap] 25)).alloc (.cells #[.int .i64 0,.int .i64 0,.slice none 0 0] 25):=⟨_,rfl⟩;have N:Ext w g:=l▸((xr w).alloc _).alloc _;have k:g.heap[w.heap.size]? =some (.cells #[.int .i64 9,.int .i64 n,.slice A a.length cap] 25 (0,0)):=by rw[l];exact(W3 (xr _)).1
 have d:g.heap[w.heap.size+1]? =some (.cells #[.int .i64 0,.int .i64 0,.slice none 0 0] 25 (0,0)):=by rw[l];exact(W3 (xr _)).2.1
 have hs0:w.heap.size+1 < g.heap.size:=O1 d;have S:1 < a.length:=by omega
 have cm:(1:Int) <(a.length:Int):=by omega
 obtain⟨b1,o1,q,r,A1,C6,j15,N3,L,b,c,f,V7,W6,Y,M,I⟩:=hK.get (xr w) S;simp only[eY,dN,dO] at b c f;have F:kd a 1= .mk q r j15:=Yb S L.out;subst N3;have E:ctr 9 a= .mk q r j15:=(nq m).trans F;rw[E];have J:rdx 9 a=2:=by unfold rdx;simp[m]
 obtain⟨TT,z⟩: ∃x,x=Tr.mk q r j15:=⟨_,rfl⟩;rw[<-z];have L8:=hdq z;clear z;have qa:cnt (.mk q r j15)<=400:=(Z3 (J2 _ I)).2;clear E;have o:U3 (.mk 9 n a)=2:=J;rw[o] at B;clear o J j4 T
 skip
 go_enter func171,ntmps171;go_wp2_with fail;rw[<-l];clear l;refine(B.out _ N).mono ?_;rintro e w1 ⟨rfl,i⟩;have j:=N.trans i;have Q:=i.blk k;have D:=i.blk d;have hs1:w.heap.size+1 < w1.heap.size:=O1 D;obtain⟨z0,Z,X,-,-,-⟩:=own3 Q;clear k d B i;have Ek:=j.cell b;have Bh:=j.cell c;have Ia:=j.cell f;have N5:=hdq (M.ext j);clear L F Y M I b c f hK U;go_wp2_with fail;refine(Yg _ _ _ N5.out (by omega)).mono ?_;rintro e w3 ⟨u,rfl,s,O⟩;obtain⟨R,H,K,P,G,rfl⟩:=s.three';rw[<-L8.out] at s;have hE:=j.trans O;obtain⟨s0,V,s2,f0,f1,f2⟩:=own3 (O.blk D);clear Q D Ek Bh Ia z0 Z X;go_wp2_with fail;have hsz:=j.size;refine aO (v:= .agg #[.int .i64 R,.int .i64 H,.slice K P G]) (by simp[aQ,results171,go_sem,s0,V,s2]) rfl ⟨_,rfl,P0.since (s.after ((((pa.refl _ _).setCell (p:=⟨w.heap.size+1,0,none⟩) (by show w.heap.size+1 < _;omega) (.int .i64 R)).setCell (p:=⟨w.heap.size+1,1,none⟩) (by show w.heap.size+1 < _;omega) (.int .i64 H)).setCell (p:=⟨w.heap.size+1,2,none⟩) (by show w.heap.size+1 < _;omega) (.slice K P G))) (by omega),(((hE.setCell (p:=⟨w.heap.size+1,0,none⟩) (by show w.heap.size<=w.heap.size+1;omega) _).setCell (p:=⟨w.heap.size+1,1,none⟩) (by show w.heap.size<=w.heap.size+1;omega) _).setCell (p:=⟨w.heap.size+1,2,none⟩) (by show w.heap.size<=w.heap.size+1;omega) _)⟩
theorem Nm(n:Int)(a:List Tr)(hv:j0 m0 (.mk 12 n a)=true)(w:aK)(A:Option Addr)(cap:Nat)(U:Lies w (.mk 12 n a) (.agg #[.int .i64 12,.int .i64 n,.slice A a.length cap]))(hK:q24 w A a)(hl:a.length<=cap)(hc:cap<=aU)(B:(kd a 1).kind=11):
 Calls prog 171 #[.agg #[.int .i64 12,.int .i64 n,.slice A a.length cap]] w (Rg w (ctr 12 a)):=by
 obtain⟨hsh,C7⟩:=Z3 hv;have T:O0 12=(a.length:Int):=(Z4 hsh).1;have j4:a.length=3:=by have h9:(3:Int)=(a.length:Int):=T;omega
 have C:=(Z4 hsh).2.2.2;have J2: ∀t∈a,j0 m0 t=true:=fun t ht=> by
  have g:=C t ht;have h2:=L9 ht;simp only[cnt] at C7;unfold j0;rw[If g (by decide),bQ,decide_eq_true_eq];omega
 have s:=hc;unfold aU at s;have z:=hdq (fun W (hW:Ext w W)=> mq (.mk 12 n a) 30 hsh W _ (U.ext hW));obtain⟨f,k⟩: ∃f,f=(w.alloc (.cells #[.int .i64 12,.int .i64 n,.slice A a.length cap] 25)).alloc (.cells #[.int .i64 0,.int .i64 0,.slice none 0 0] 25):=⟨_,rfl⟩;have L:Ext w f:=k▸((xr w).alloc _).alloc _;have j:f.heap[w.heap.size]? =some (.cells #[.int .i64 12,.int .i64 n,.slice A a.length cap] 25 (0,0)):=by rw[k];exact(W3 (xr _)).1
 have d:f.heap[w.heap.size+1]? =some (.cells #[.int .i64 0,.int .i64 0,.slice none 0 0] 25 (0,0)):=by rw[k];exact(W3 (xr _)).2.1
 have hs0:w.heap.size+1 < f.heap.size:=O1 d;have P:2 < a.length:=by omega
 have ft:(2:Int) <(a.length:Int):=by omega
 obtain⟨b2,o2,m,o,A2,F4,q17,fe,N,c,b,E,dv,dc,q,M,G⟩:=hK.get (xr w) P;simp only[Nat.reduceMul,dN,dO] at c b E;have V:kd a 2= .mk m o q17:=Yb P N.out;subst fe;have F:ctr 12 a= .mk m o q17:=Sw.trans V;rw[F];have J:rdx 12 a=4:=by unfold rdx;simp[B]
 obtain⟨TT,y⟩: ∃x,x=Tr.mk m o q17:=⟨_,rfl⟩;rw[<-y];have L8:=hdq y;clear y;have qa:cnt (.mk m o q17)<=400:=(Z3 (J2 _ G)).2;clear F;have l:U3 (.mk 12 n a)=4:=J;rw[l] at z;clear l J j4 T
 skip
 go_enter func171,ntmps171;go_wp2_with fail;rw[<-k];clear k;refine(z.out _ L).mono ?_;rintro e w1 ⟨rfl,g⟩;have i:=L.trans g;have Q:=g.blk j;have D:=g.blk d;have hs1:w.heap.size+1 < w1.heap.size:=O1 D;obtain⟨z0,z1,Z,-,-,-⟩:=own3 Q;clear j d z g;have X:=i.cell c;have Gv:=i.cell b;have Gg:=i.cell E;have N5:=hdq (M.ext i);clear N V q M G c b E hK U;go_wp2_with fail;refine(Yg _ _ _ N5.out (by omega)).mono ?_;rintro e w3 ⟨u,rfl,r,O⟩;obtain⟨S,I,K,R,H,rfl⟩:=r.three';rw[<-L8.out] at r;have hE:=i.trans O;obtain⟨s0,Y,s2,f0,f1,f2⟩:=own3 (O.blk D);clear Q D X Gv Gg z0 z1 Z;go_wp2_with fail;have hsz:=i.size;refine aO (v:= .agg #[.int .i64 S,.int .i64 I,.slice K R H]) (by simp[aQ,results171,go_sem,s0,Y,s2]) rfl ⟨_,rfl,P0.since (r.after ((((pa.refl _ _).setCell (p:=⟨w.heap.size+1,0,none⟩) (by show w.heap.size+1 < _;omega) (.int .i64 S)).setCell (p:=⟨w.heap.size+1,1,none⟩) (by show w.heap.size+1 < _;omega) (.int .i64 I)).setCell (p:=⟨w.heap.size+1,2,none⟩) (by show w.heap.size+1 < _;omega) (.slice K R H))) (by omega),(((hE.setCell (p:=⟨w.heap.size+1,0,none⟩) (by show w.heap.size<=w.heap.size+1;omega) _).setCell (p:=⟨w.heap.size+1,1,none⟩) (by show w.heap.size<=w.heap.size+1;omega) _).setCell (p:=⟨w.heap.size+1,2,none⟩) (by show w.heap.size<=w.heap.size+1;omega) _)⟩
theorem lm(n:Int)(a:List Tr)(hv:j0 m0 (.mk 15 n a)=true)(w:aK)(A:Option Addr)(cap:Nat)(b8:Lies w (.mk 15 n a) (.agg #[.int .i64 15,.int .i64 n,.slice A a.length cap]))(hK:q24 w A a)(hl:a.length<=cap)(hc:cap<=aU)(m:(kd a 0).kind=14):
 Calls prog 171 #[.agg #[.int .i64 15,.int .i64 n,.slice A a.length cap]] w (Rg w (ctr 15 a)):=by
 obtain⟨hsh,C7⟩:=Z3 hv;have a7:O0 15=(a.length:Int):=(Z4 hsh).1;have j4:a.length=1:=by have h9:(1:Int)=(a.length:Int):=a7;omega
 have J:=(Z4 hsh).2.2.2;have J2: ∀t∈a,j0 m0 t=true:=fun t ht=> by
  have d:=J t ht;have Q:=L9 ht;simp only[cnt] at C7;unfold j0;rw[If d (by decide),bQ,decide_eq_true_eq];omega
 have z:=hc;unfold aU at z;have G:=hdq (fun W (hW:Ext w W)=> mq (.mk 15 n a) 30 hsh W _ (b8.ext hW));obtain⟨i,k⟩: ∃i,i=(w.alloc (.cells #[.int .i64 15,.int .i64 n,.slice A a.length cap] 25)).alloc (.cells #[.int .i64 0,.int .i64 0,.slice none 0 0] 25):=⟨_,rfl⟩;have Z:Ext w i:=k▸((xr w).alloc _).alloc _;have j:i.heap[w.heap.size]? =some (.cells #[.int .i64 15,.int .i64 n,.slice A a.length cap] 25 (0,0)):=by rw[k];exact(W3 (xr _)).1
 have g:i.heap[w.heap.size+1]? =some (.cells #[.int .i64 0,.int .i64 0,.slice none 0 0] 25 (0,0)):=by rw[k];exact(W3 (xr _)).2.1
 have hs0:w.heap.size+1 < i.heap.size:=O1 g;have N:0 < a.length:=by omega
 have U0:(0:Int) <(a.length:Int):=by omega
 obtain⟨b0,o0,Y,n0,A0,q7,c,ba,P,E,C,I,ai,dy,M3,z6,x6⟩:=hK.get (xr w) N;simp only[cT,cQ] at E C I;have q:kd a 0= .mk Y n0 c:=Yb N P.out;subst ba;rw[q] at m;have ek:Y=14:=m;subst ek;have l:=J2 _ x6;have M:O0 14=(c.length:Int):=(Z4 (Z3 l).1).1;have R3:c.length=3:=by have h9:(3:Int)=(c.length:Int):=M;omega
 have X:1 < c.length:=by omega
 have ng:(1:Int) <(c.length:Int):=by omega
 obtain⟨b3,o3,r,s,A3,F3,y20,U2,T6,H,f,D,ee,W7,F,E8,O⟩:=M3.get (xr w) X;simp only[eY,dN,dO] at H f D;have R:kd c 1= .mk r s y20:=Yb X T6.out;subst U2;have L:ctr 15 a= .mk r s y20:=by rw[Dq,q];exact R
 rw[L];have U:rdx 15 a=5:=by unfold rdx;rw[q];simp[Tr.kind]
 obtain⟨TT,B⟩: ∃x,x=Tr.mk r s y20:=⟨_,rfl⟩;rw[<-B];have L8:=hdq B;clear B;have qa:cnt (.mk r s y20)<=400:=by have d:=L9 O;have Q:=(Z3 l).2;simp only[cnt] at Q;omega
 clear L;have o:U3 (.mk 15 n a)=5:=U;rw[o] at G;clear o U j4 a7;clear R3;go_enter func171,ntmps171;go_wp2_with fail;rw[<-k];clear k;refine(G.out _ Z).mono ?_;rintro e w1 ⟨rfl,d⟩;have b:=Z.trans d;have s8:=d.blk j;have K:=d.blk g;have hs1:w.heap.size+1 < w1.heap.size:=O1 K;obtain⟨z0,z1,z2,-,-,-⟩:=own3 s8;clear j g G d;have rq:=b.cell E;have ut:=b.cell C;have uq:=b.cell I;have uy:=b.cell H;have um:=b.cell f;have ny:=b.cell D;have N5:=hdq (E8.ext b);clear P q M3 z6 x6 T6 R F E8 O E C I H f D hK b8 M;go_wp2_with fail;refine(Yg _ _ _ N5.out (by omega)).mono ?_;rintro e w3 ⟨u,rfl,y,h3⟩;obtain⟨a1,T,V,a4,S,rfl⟩:=y.three';rw[<-L8.out] at y;have hE:=b.trans h3;obtain⟨s0,s1,s2,f0,f1,f2⟩:=own3 (h3.blk K);clear s8 K rq ut uq uy um ny z0 z1 z2;go_wp2_with fail;have hsz:=b.size;refine aO (v:= .agg #[.int .i64 a1,.int .i64 T,.slice V a4 S]) (by simp[aQ,results171,go_sem,s0,s1,s2]) rfl ⟨_,rfl,P0.since (y.after ((((pa.refl _ _).setCell (p:=⟨w.heap.size+1,0,none⟩) (by show w.heap.size+1 < _;omega) (.int .i64 a1)).setCell (p:=⟨w.heap.size+1,1,none⟩) (by show w.heap.size+1 < _;omega) (.int .i64 T)).setCell (p:=⟨w.heap.size+1,2,none⟩) (by show w.heap.size+1 < _;omega) (.slice V a4 S))) (by omega),(((hE.setCell (p:=⟨w.heap.size+1,0,none⟩) (by show w.heap.size<=w.heap.size+1;omega) _).setCell (p:=⟨w.heap.size+1,1,none⟩) (by show w.heap.size<=w.heap.size+1;omega) _).setCell (p:=⟨w.heap.size+1,2,none⟩) (by show w.heap.size<=w.heap.size+1;omega) _)⟩
theorem om(n:Int)(a:List Tr)(hv:j0 m0 (.mk 16 n a)=true)(w:aK)(A:Option Addr)(cap:Nat)(b8:Lies w (.mk 16 n a) (.agg #[.int .i64 16,.int .i64 n,.slice A a.length cap]))(hK:q24 w A a)(hl:a.length<=cap)(hc:cap<=aU)(m:(kd a 0).kind=14):
 Calls prog 171 #[.agg #[.int .i64 16,.int .i64 n,.slice A a.length cap]] w (Rg w (ctr 16 a)):=by
 obtain⟨hsh,C7⟩:=Z3 hv;have a7:O0 16=(a.length:Int):=(Z4 hsh).1;have j4:a.length=1:=by have h9:(1:Int)=(a.length:Int):=a7;omega
 have J:=(Z4 hsh).2.2.2;have J2: ∀t∈a,j0 m0 t=true:=fun t ht=> by
  have d:=J t ht;have Q:=L9 ht;simp only[cnt] at C7;unfold j0;rw[If d (by decide),bQ,decide_eq_true_eq];omega
 have z:=hc;unfold aU at z;have G:=hdq (fun W (hW:Ext w W)=> mq (.mk 16 n a) 30 hsh W _ (b8.ext hW));obtain⟨i,k⟩: ∃i,i=(w.alloc (.cells #[.int .i64 16,.int .i64 n,.slice A a.length cap] 25)).alloc (.cells #[.int .i64 0,.int .i64 0,.slice none 0 0] 25):=⟨_,rfl⟩;have Z:Ext w i:=k▸((xr w).alloc _).alloc _;have j:i.heap[w.heap.size]? =some (.cells #[.int .i64 16,.int .i64 n,.slice A a.length cap] 25 (0,0)):=by rw[k];exact(W3 (xr _)).1
 have g:i.heap[w.heap.size+1]? =some (.cells #[.int .i64 0,.int .i64 0,.slice none 0 0] 25 (0,0)):=by rw[k];exact(W3 (xr _)).2.1
 have hs0:w.heap.size+1 < i.heap.size:=O1 g;have N:0 < a.length:=by omega
 have U0:(0:Int) <(a.length:Int):=by omega
 obtain⟨b0,o0,Y,n0,A0,q7,c,ba,P,E,C,I,ai,dy,M3,z6,x6⟩:=hK.get (xr w) N;simp only[cT,cQ] at E C I;have q:kd a 0= .mk Y n0 c:=Yb N P.out;subst ba;rw[q] at m;have ek:Y=14:=m;subst ek;have l:=J2 _ x6;have M:O0 14=(c.length:Int):=(Z4 (Z3 l).1).1;have R3:c.length=3:=by have h9:(3:Int)=(c.length:Int):=M;omega
 have X:2 < c.length:=by omega
 have ng:(2:Int) <(c.length:Int):=by omega
 obtain⟨b3,o3,r,s,A3,F3,y20,U2,T6,H,f,D,ee,W7,F,E8,O⟩:=M3.get (xr w) X;simp only[Nat.reduceMul,dN,dO] at H f D;have R:kd c 2= .mk r s y20:=Yb X T6.out;subst U2;have L:ctr 16 a= .mk r s y20:=by rw[qr,q];exact R
 rw[L];have U:rdx 16 a=6:=by unfold rdx;rw[q];simp[Tr.kind]
 obtain⟨TT,B⟩: ∃x,x=Tr.mk r s y20:=⟨_,rfl⟩;rw[<-B];have L8:=hdq B;clear B;have qa:cnt (.mk r s y20)<=400:=by have d:=L9 O;have Q:=(Z3 l).2;simp only[cnt] at Q;omega
 clear L;have o:U3 (.mk 16 n a)=6:=U;rw[o] at G;clear o U j4 a7;clear R3;go_enter func171,ntmps171;go_wp2_with fail;rw[<-k];clear k;refine(G.out _ Z).mono ?_;rintro e w1 ⟨rfl,d⟩;have b:=Z.trans d;have s8:=d.blk j;have K:=d.blk g;have hs1:w.heap.size+1 < w1.heap.size:=O1 K;obtain⟨z0,z1,z2,-,-,-⟩:=own3 s8;clear j g G d;have rq:=b.cell E;have ut:=b.cell C;have uq:=b.cell I;have uy:=b.cell H;have um:=b.cell f;have ny:=b.cell D;have N5:=hdq (E8.ext b);clear P q M3 z6 x6 T6 R F E8 O E C I H f D hK b8 M;go_wp2_with fail;refine(Yg _ _ _ N5.out (by omega)).mono ?_;rintro e w3 ⟨u,rfl,y,h3⟩;obtain⟨a1,T,V,a4,S,rfl⟩:=y.three';rw[<-L8.out] at y;have hE:=b.trans h3;obtain⟨s0,s1,s2,f0,f1,f2⟩:=own3 (h3.blk K);clear s8 K rq ut uq uy um ny z0 z1 z2;go_wp2_with fail;have hsz:=b.size;refine aO (v:= .agg #[.int .i64 a1,.int .i64 T,.slice V a4 S]) (by simp[aQ,results171,go_sem,s0,s1,s2]) rfl ⟨_,rfl,P0.since (y.after ((((pa.refl _ _).setCell (p:=⟨w.heap.size+1,0,none⟩) (by show w.heap.size+1 < _;omega) (.int .i64 a1)).setCell (p:=⟨w.heap.size+1,1,none⟩) (by show w.heap.size+1 < _;omega) (.int .i64 T)).setCell (p:=⟨w.heap.size+1,2,none⟩) (by show w.heap.size+1 < _;omega) (.slice V a4 S))) (by omega),(((hE.setCell (p:=⟨w.heap.size+1,0,none⟩) (by show w.heap.size<=w.heap.size+1;omega) _).setCell (p:=⟨w.heap.size+1,1,none⟩) (by show w.heap.size<=w.heap.size+1;omega) _).setCell (p:=⟨w.heap.size+1,2,none⟩) (by show w.heap.size<=w.heap.size+1;omega) _)⟩
theorem oo(n:Int)(b:List Tr)(hv:j0 m0 (.mk 5 n b)=true)(w:aK)(A:Option Addr)(cap:Nat)(b8:Lies w (.mk 5 n b) (.agg #[.int .i64 5,.int .i64 n,.slice A b.length cap]))(hK:q24 w A b)(hl:b.length<=cap)(hc:cap<=aU)(M:(kd b 0).kind=4):
 Calls prog 171 #[.agg #[.int .i64 5,.int .i64 n,.slice A b.length cap]] w (Rg w (ctr 5 b)):=by
 obtain⟨hsh,C7⟩:=Z3 hv;have a7:O0 5=(b.length:Int):=(Z4 hsh).1;have j4:b.length=2:=by have h9:(2:Int)=(b.length:Int):=a7;omega
 have hsk:=(Z4 hsh).2.2.2;have J2: ∀t∈b,j0 m0 t=true:=fun t ht=> by
  have d:=hsk t ht;have L:=L9 ht;simp only[cnt] at C7;unfold j0;rw[If d (by decide),bQ,decide_eq_true_eq];omega
 have U:=hc;unfold aU at U;have C0:=hdq (fun W (hW:Ext w W)=> mq (.mk 5 n b) 30 hsh W _ (b8.ext hW));obtain⟨E,K⟩: ∃E,E=(w.alloc (.cells #[.int .i64 5,.int .i64 n,.slice A b.length cap] 25)).alloc (.cells #[.int .i64 0,.int .i64 0,.slice none 0 0] 25):=⟨_,rfl⟩;have hX:Ext w E:=K▸((xr w).alloc _).alloc _;have J:E.heap[w.heap.size]? =some (.cells #[.int .i64 5,.int .i64 n,.slice A b.length cap] 25 (0,0)):=by rw[K];exact(W3 (xr _)).1
 have C:E.heap[w.heap.size+1]? =some (.cells #[.int .i64 0,.int .i64 0,.slice none 0 0] 25 (0,0)):=by rw[K];exact(W3 (xr _)).2.1
 have hs0:w.heap.size+1 < E.heap.size:=O1 C;have D7:0 < b.length:=by omega
 have U0:(0:Int) <(b.length:Int):=by omega
 obtain⟨f,o0,k0,n0,A0,q7,j,ba,S6,Y,M9,K7,ai,dy,M3,z6,x6⟩:=hK.get (xr w) D7;simp only[cT,cQ] at Y M9 K7;have P:kd b 0= .mk k0 n0 j:=Yb D7 S6.out;have z7:1 < b.length:=by omega
 have cm:(1:Int) <(b.length:Int):=by omega
 obtain⟨b1,o1,G,I,A1,C6,j15,N3,D6,u,z,D,V7,W6,K9,p5,j9⟩:=hK.get (xr w) z7;simp only[eY,dN,dO] at u z D;have I2:kd b 1= .mk G I j15:=Yb z7 D6.out;subst ba
 injection N3 with N3
 injection N3 with Y9 T hD1
 subst Y9 T;rw[P] at M;have hk4:k0=4:=M;subst hk4;have s:=J2 _ x6;have I0:O0 4=(j.length:Int):=(Z4 (Z3 s).1).1;have R3:j.length=2:=by have h9:(2:Int)=(j.length:Int):=I0;omega
 have D8:1 < j.length:=by omega
 have ng:(1:Int) <(j.length:Int):=by omega
 obtain⟨k,r,F,H,A3,F3,y20,U2,T6,Q,B,X,ee,W7,Z,E8,S⟩:=M3.get (xr w) D8;simp only[eY,dN,dO] at Q B X;have C4:kd j 1= .mk F H y20:=Yb D8 T6.out;subst U2;have D1:=J2 _ j9;have hv3:j0 m0 (.mk F H y20)=true:=by
  have d:=(Z4 (Z3 s).1).2.2.2 _ S;have L:=L9 S;have h3:=(Z3 s).2;simp only[cnt] at h3;unfold j0;rw[If d (by decide),bQ,decide_eq_true_eq];omega
 have l8:ctr 5 b=Q0 (.mk G I j15) (.mk F H y20) 0 0:=by rw[iq,P,I2];exact congrArg (fun t=> Q0 (.mk G I j15) t 0 0) C4
 rw[l8];have F9:rdx 5 b=1:=by unfold rdx;rw[P];simp[Tr.kind]
 obtain⟨TT,V⟩: ∃x,x=Q0 (.mk G I j15) (.mk F H y20) 0 0:=⟨_,rfl⟩;rw[<-V];have L8:=hdq V;clear V l8;have N:U3 (.mk 5 n b)=1:=F9;rw[N] at C0;clear N F9 j4 a7;clear R3;go_enter func171,ntmps171;go_wp2_with fail;rw[<-K];clear K;refine(C0.out _ hX).mono ?_;rintro e l ⟨rfl,d⟩;have g:=hX.trans d;have s8:=d.blk J;have o8:=d.blk C;have hs1:w.heap.size+1 < l.heap.size:=O1 o8;obtain⟨z0,z1,z2,-,-,-⟩:=own3 s8;clear J C C0 d;have yg:f < w.heap.size:=World.block_lt_of_cell? _ _ Y;have Jb:k < w.heap.size:=World.block_lt_of_cell? _ _ Q;have R:=hdq (show∀c:aK,(∀y,y < l.heap.size->y≠w.heap.size+1->c.heap[y]? =l.heap[y]?)->c.cell? ⟨w.heap.size,2,none⟩=some (.slice (some ⟨f,o0,none⟩) b.length cap)/\c.cell? ⟨f,o0+2,none⟩=some (.slice (some ⟨k,r,none⟩) j.length q7)/\c.cell? ⟨k,r+3,none⟩=some (.int .i64 F)/\c.cell? ⟨k,r+4,none⟩=some (.int .i64 H)/\c.cell? ⟨k,r+5,none⟩=some (.slice A3 y20.length F3)/\c.cell? ⟨f,o0+3,none⟩=some (.int .i64 G)/\c.cell? ⟨f,o0+4,none⟩=some (.int .i64 I)/\c.cell? ⟨f,o0+5,none⟩=some (.slice A1 j15.length C6) from fun c h=> by
  have m: ∀q i v,q < w.heap.size+1->l.cell? ⟨q,i,none⟩=some v->c.cell? ⟨q,i,none⟩=some v:=fun q i v hq hv=>(World.cell?_of_block (a:=⟨q,i,none⟩) (h q (by omega) (by omega))).trans hv
  exact⟨m _ _ _ (by omega) z2,m _ _ _ (by omega) (g.cell K7),m _ _ _ (by omega) (g.cell Q),m _ _ _ (by omega) (g.cell B),m _ _ _ (by omega) (g.cell X),m _ _ _ (by omega) (g.cell u),m _ _ _ (by omega) (g.cell z),m _ _ _ (by omega) (g.cell D)⟩)
 have o:Ext l l.drew:=(xr l).drew;have L3:=E8.ext g;have L1:=p5.ext g;clear S6 D6 T6 P I2 C4 M3 K9 Z z6 p5 E8 x6 j9 S hK b8 I0 Y M9 K7 u z D Q B X z0 z1 z2 s8;go_wp2_with fail
 go_region_held3 (fun c=> c.cell? ⟨w.heap.size,2,none⟩=some (.slice (some ⟨f,o0,none⟩) b.length cap)/\c.cell? ⟨f,o0+2,none⟩=some (.slice (some ⟨k,r,none⟩) j.length q7)/\c.cell? ⟨k,r+3,none⟩=some (.int .i64 F)/\c.cell? ⟨k,r+4,none⟩=some (.int .i64 H)/\c.cell? ⟨k,r+5,none⟩=some (.slice A3 y20.length F3)/\c.cell? ⟨f,o0+3,none⟩=some (.int .i64 G)/\c.cell? ⟨f,o0+4,none⟩=some (.int .i64 I)/\c.cell? ⟨f,o0+5,none⟩=some (.slice A1 j15.length C6))
  (first|exact R.out _ (fun y d L=> by rw[Below.heap_setCell _ _ _ _ L,Below.heap_setCell _ _ _ _ L,Below.heap_setCell _ _ _ _ L];exact(o.trans O).heap y d) |exact R.out _ (fun y d _=>(o.trans O).heap y d) |exact R.out _ (fun y d _=> o.heap y d))
  (first|(go_at_call 121;refine(NF L8.out _ _ _ (L3.ext o) hv3 (L1.ext o) D1).mono ?_;rintro e w2 ⟨a1,a2,a3,a4,a5,rfl,hM,O⟩;obtain⟨s0,s1,s2,f0,f1,f2⟩:=own3 ((o.trans O).blk o8)))
 have hE:=g.trans (o.trans O);have tz:l.heap.size<=l.drew.heap.size:=o.size;clear R o8;go_wp2_with fail;have hsz:=g.size;refine aO (v:= .agg #[.int .i64 a1,.int .i64 a2,.slice a3 a4 a5]) (by simp[aQ,results171,go_sem,s0,s1,s2]) rfl ⟨_,rfl,P0.since (hM.after ((((pa.refl _ _).setCell (p:=⟨w.heap.size+1,0,none⟩) (by show w.heap.size+1 < _;omega) (.int .i64 a1)).setCell (p:=⟨w.heap.size+1,1,none⟩) (by show w.heap.size+1 < _;omega) (.int .i64 a2)).setCell (p:=⟨w.heap.size+1,2,none⟩) (by show w.heap.size+1 < _;omega) (.slice a3 a4 a5))) (by omega),(((hE.setCell (p:=⟨w.heap.size+1,0,none⟩) (by show w.heap.size<=w.heap.size+1;omega) _).setCell (p:=⟨w.heap.size+1,1,none⟩) (by show w.heap.size<=w.heap.size+1;omega) _).setCell (p:=⟨w.heap.size+1,2,none⟩) (by show w.heap.size<=w.heap.size+1;omega) _)⟩
