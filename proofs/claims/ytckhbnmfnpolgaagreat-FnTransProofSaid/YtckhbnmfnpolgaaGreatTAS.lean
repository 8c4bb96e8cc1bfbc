/- Lemmas towards the law. -/
import Derived.Test.YtckhbnmfnpolgaaGreatTAR
open Go renaming World->aN,maxLen->aW,bodyPost_ret->aQ,results->aS
open Bool renaming true_and->bV
open Nat renaming one_mul->fU,add_assoc->dZ,reduceAdd->eM,zero_mul->dN,add_zero->cX
open Go.Proofs.Tryz
set_option linter.all false
set_option maxHeartbeats 4000000
set_option maxRecDepth 100000
namespace Go.Proofs.YtckhbnmfnpolgaaGreat
open Go.RowKit
def Ui(w:aN)(t:Tr)(e:Ending)(a:aN):Prop:= ∃r,e= .returned r/\W0 w a 25 t r/\Ext w a
theorem tK{t u k:Tr}(hT:k=X0 u t 0 0)(w:aN)(v a:Value)(p:Lies w t v)(hv:valid sigT t=true)(n:Lies w u a)(m:valid sigT u=true):
 Calls prog 121 #[v,j0 0,a,j0 0] w fun e b=> ∃i g c d f,e= .returned (m0 i g c d f)/\W0 w b 25 k (m0 i g c d f)/\Ext w b:=by
 subst hT;have o:=jj hv;have l:=jj m;refine(oB t w v 0 u a 0 30 o.2 p (by omega) l.2 (by omega) n (by omega) (by omega) (by omega) (by omega)).mono ?_;rintro e b ⟨r,rfl,j,h⟩;obtain⟨i,g,c,d,f,rfl⟩:=j.three';exact⟨_,_,_,_,_,rfl,j,h⟩
theorem ys(n:Int)(a:List Tr)(hv:valid sigT (.mk 9 n a)=true)(w:aN)(A:Option Addr)(cap:Nat)(R:Lies w (.mk 9 n a) (m0 9 n A a.length cap))(hK:V8 w A a)(hl:a.length<=cap)(hc:cap<=aW)(o:(kd a 3).kind=7):
 Calls prog 171 #[m0 9 n A a.length cap] w (Ui w (ctr 9 a)):=by
 obtain⟨hsh,D4⟩:=N4 hv;have T:S0 9=(a.length:Int):=(m6 hsh).1;have j7:a.length=4:=by have h9:(4:Int)=(a.length:Int):=T;omega
 have C:=(m6 hsh).2.2.2;have K5: ∀t∈a,valid sigT t=true:=fun t ht=> by
  have i:=C t ht;have h2:=ya ht;simp only[cnt] at D4;unfold valid;rw[Tf i (by decide),bV,decide_eq_true_eq];omega
 have z:=hc;unfold aW at z;have B:=hdq (fun W (Y:Ext w W)=> Ft (.mk 9 n a) 30 hsh W _ (R.ext Y));obtain⟨g,l⟩: ∃g,g=(w.alloc (D0 9 n A a.length cap)).alloc M0:=⟨_,rfl⟩;have J:Ext w g:=l▸((xr w).alloc _).alloc _;have k:g.heap[w.heap.size]? =some (D0 9 n A a.length cap):=by rw[l];exact(blk2 (xr _)).1
 have b:g.heap[w.heap.size+1]? =some M0:=by rw[l];exact(blk2 (xr _)).2.1
 have hs0:w.heap.size+1 < g.heap.size:=D1 b;have L:1 < a.length:=by omega
 have gy:(1:Int) <(a.length:Int):=by omega
 obtain⟨b1,o1,r,q,A1,D3,q16,Z,M,d,f,c,Z4,ak,M6,K,N⟩:=hK.get (xr w) L;simp only[fU,dZ,eM] at d f c;have Q:kd a 1= .mk r q q16:=Vc L M.out;subst Z;have P:ctr 9 a= .mk r q q16:=(ru o).trans Q;rw[P];have I:rdx 9 a=2:=by unfold rdx;simp[o]
 obtain⟨TT,s⟩: ∃x,x=Tr.mk r q q16:=⟨_,rfl⟩;rw[<-s];have N8:=hdq s;clear s;have ug:cnt (.mk r q q16)<=400:=(N4 (K5 _ N)).2;clear P;have m:J4 (.mk 9 n a)=2:=I;rw[m] at B;clear m I j7 T
 skip
 go_enter func171,ntmps171;go_wp2_with fail;rw[<-l];clear l;refine(B.out _ J).mono ?_;rintro e w1 ⟨rfl,i⟩;have j:=J.trans i;have S:=i.blk k;have D:=i.blk b;have hs1:w.heap.size+1 < w1.heap.size:=D1 D;obtain⟨z0,z1,z2,-,-,-⟩:=own3 S;clear k b B i;have Le:=j.cell d;have Em:=j.cell f;have Jc:=j.cell c;have V:=hdq (K.ext j);clear M Q M6 K N d f c hK R;go_wp2_with fail;refine(Sf _ _ _ V.out (by omega)).mono ?_;rintro e w3 ⟨u,rfl,y,E⟩;obtain⟨U,H,F,O,G,rfl⟩:=y.three';rw[<-N8.out] at y;have hE:=j.trans E;obtain⟨s0,s1,X,f0,f1,f2⟩:=own3 (E.blk D);clear S D Le Em Jc z0 z1 z2;go_wp2_with fail;have hsz:=j.size;refine aQ (v:= m0 U H F O G) (by simp[aS,results171,go_sem,s0,s1,X]) rfl ⟨_,rfl,W0.since (y.after ((((Ua.refl _ _).setCell (p:=⟨w.heap.size+1,0,none⟩) (by show w.heap.size+1 < _;omega) (j0 U)).setCell (p:=⟨w.heap.size+1,1,none⟩) (by show w.heap.size+1 < _;omega) (j0 H)).setCell (p:=⟨w.heap.size+1,2,none⟩) (by show w.heap.size+1 < _;omega) (.slice F O G))) (by omega),(((hE.setCell (p:=⟨w.heap.size+1,0,none⟩) (by show w.heap.size<=w.heap.size+1;omega) _).setCell (p:=⟨w.heap.size+1,1,none⟩) (by show w.heap.size<=w.heap.size+1;omega) _).setCell (p:=⟨w.heap.size+1,2,none⟩) (by show w.heap.size<=w.heap.size+1;omega) _)⟩
theorem Ws(n:Int)(a:List Tr)(hv:valid sigT (.mk 12 n a)=true)(w:aN)(A:Option Addr)(cap:Nat)(S:Lies w (.mk 12 n a) (m0 12 n A a.length cap))(hK:V8 w A a)(hl:a.length<=cap)(hc:cap<=aW)(y:(kd a 1).kind=11):
 Calls prog 171 #[m0 12 n A a.length cap] w (Ui w (ctr 12 a)):=by
 obtain⟨hsh,D4⟩:=N4 hv;have U:S0 12=(a.length:Int):=(m6 hsh).1;have j7:a.length=3:=by have h9:(3:Int)=(a.length:Int):=U;omega
 have D:=(m6 hsh).2.2.2;have K5: ∀t∈a,valid sigT t=true:=fun t ht=> by
  have g:=D t ht;have h2:=ya ht;simp only[cnt] at D4;unfold valid;rw[Tf g (by decide),bV,decide_eq_true_eq];omega
 have B:=hc;unfold aW at B;have C:=hdq (fun W (Z:Ext w W)=> Ft (.mk 12 n a) 30 hsh W _ (S.ext Z));obtain⟨f,k⟩: ∃f,f=(w.alloc (D0 12 n A a.length cap)).alloc M0:=⟨_,rfl⟩;have L:Ext w f:=k▸((xr w).alloc _).alloc _;have j:f.heap[w.heap.size]? =some (D0 12 n A a.length cap):=by rw[k];exact(blk2 (xr _)).1
 have b:f.heap[w.heap.size+1]? =some M0:=by rw[k];exact(blk2 (xr _)).2.1
 have hs0:w.heap.size+1 < f.heap.size:=D1 b;have R:2 < a.length:=by omega
 have iw:(2:Int) <(a.length:Int):=by omega
 obtain⟨b2,o2,m,o,A2,G5,y17,iv,M,c,d,q,ic,gv,s,N,O⟩:=hK.get (xr w) R;simp only[Nat.reduceMul,dZ,eM] at c d q;have H:kd a 2= .mk m o y17:=Vc R M.out;subst iv;have Q:ctr 12 a= .mk m o y17:=eA.trans H;rw[Q];have J:rdx 12 a=4:=by unfold rdx;simp[y]
 obtain⟨TT,r⟩: ∃x,x=Tr.mk m o y17:=⟨_,rfl⟩;rw[<-r];have N8:=hdq r;clear r;have ug:cnt (.mk m o y17)<=400:=(N4 (K5 _ O)).2;clear Q;have l:J4 (.mk 12 n a)=4:=J;rw[l] at C;clear l J j7 U
 skip
 go_enter func171,ntmps171;go_wp2_with fail;rw[<-k];clear k;refine(C.out _ L).mono ?_;rintro e w1 ⟨rfl,g⟩;have i:=L.trans g;have T:=g.blk j;have E:=g.blk b;have hs1:w.heap.size+1 < w1.heap.size:=D1 E;obtain⟨z0,z1,z2,-,-,-⟩:=own3 T;clear j b C g;have Ia:=i.cell c;have Kd:=i.cell d;have Kh:=i.cell q;have X:=hdq (N.ext i);clear M H s N O c d q hK S;go_wp2_with fail;refine(Sf _ _ _ X.out (by omega)).mono ?_;rintro e w3 ⟨u,rfl,z,F⟩;obtain⟨V,K,G,P,I,rfl⟩:=z.three';rw[<-N8.out] at z;have hE:=i.trans F;obtain⟨s0,s1,Y,f0,f1,f2⟩:=own3 (F.blk E);clear T E Ia Kd Kh z0 z1 z2;go_wp2_with fail;have hsz:=i.size;refine aQ (v:= m0 V K G P I) (by simp[aS,results171,go_sem,s0,s1,Y]) rfl ⟨_,rfl,W0.since (z.after ((((Ua.refl _ _).setCell (p:=⟨w.heap.size+1,0,none⟩) (by show w.heap.size+1 < _;omega) (j0 V)).setCell (p:=⟨w.heap.size+1,1,none⟩) (by show w.heap.size+1 < _;omega) (j0 K)).setCell (p:=⟨w.heap.size+1,2,none⟩) (by show w.heap.size+1 < _;omega) (.slice G P I))) (by omega),(((hE.setCell (p:=⟨w.heap.size+1,0,none⟩) (by show w.heap.size<=w.heap.size+1;omega) _).setCell (p:=⟨w.heap.size+1,1,none⟩) (by show w.heap.size<=w.heap.size+1;omega) _).setCell (p:=⟨w.heap.size+1,2,none⟩) (by show w.heap.size<=w.heap.size+1;omega) _)⟩
theorem ip(n:Int)(a:List Tr)(hv:valid sigT (.mk 15 n a)=true)(w:aN)(A:Option Addr)(cap:Nat)(d6:Lies w (.mk 15 n a) (m0 15 n A a.length cap))(hK:V8 w A a)(hl:a.length<=cap)(hc:cap<=aW)(m:(kd a 0).kind=14):
 Calls prog 171 #[m0 15 n A a.length cap] w (Ui w (ctr 15 a)):=by
 obtain⟨hsh,D4⟩:=N4 hv;have a8:S0 15=(a.length:Int):=(m6 hsh).1;have j7:a.length=1:=by have h9:(1:Int)=(a.length:Int):=a8;omega
 have H:=(m6 hsh).2.2.2;have K5: ∀t∈a,valid sigT t=true:=fun t ht=> by
  have d:=H t ht;have h2:=ya ht;simp only[cnt] at D4;unfold valid;rw[Tf d (by decide),bV,decide_eq_true_eq];omega
 have B:=hc;unfold aW at B;have G:=hdq (fun W (hW:Ext w W)=> Ft (.mk 15 n a) 30 hsh W _ (d6.ext hW));obtain⟨i,l⟩: ∃i,i=(w.alloc (D0 15 n A a.length cap)).alloc M0:=⟨_,rfl⟩;have Q:Ext w i:=l▸((xr w).alloc _).alloc _;have j:i.heap[w.heap.size]? =some (D0 15 n A a.length cap):=by rw[l];exact(blk2 (xr _)).1
 have c:i.heap[w.heap.size+1]? =some M0:=by rw[l];exact(blk2 (xr _)).2.1
 have hs0:w.heap.size+1 < i.heap.size:=D1 c;have E8:0 < a.length:=by omega
 have W6:(0:Int) <(a.length:Int):=by omega
 obtain⟨b0,o0,Z,n0,A0,s8,f,ay,U,D,K,C,cm,fg,N5,B0,R⟩:=hK.get (xr w) E8;simp only[dN,cX] at D K C;have r:kd a 0= .mk Z n0 f:=Vc E8 U.out;subst ay;rw[r] at m;have gm:Z=14:=m;subst gm;have k:=K5 _ R;have J0:S0 14=(f.length:Int):=(m6 (N4 k).1).1;have V6:f.length=3:=by have h9:(3:Int)=(f.length:Int):=J0;omega
 have E6:1 < f.length:=by omega
 have qj:(1:Int) <(f.length:Int):=by omega
 obtain⟨b3,o3,s,q,A3,G6,j19,W8,V,E,g,F,fw,af,J,T,q9⟩:=N5.get (xr w) E6;simp only[fU,dZ,eM] at E g F;have S:kd f 1= .mk s q j19:=Vc E6 V.out;subst W8;have Y:ctr 15 a= .mk s q j19:=by rw[Pt,r];exact S
 rw[Y];have P:rdx 15 a=5:=by unfold rdx;rw[r];simp[Tr.kind]
 obtain⟨TT,y⟩: ∃x,x=Tr.mk s q j19:=⟨_,rfl⟩;rw[<-y];have N8:=hdq y;clear y;have ug:cnt (.mk s q j19)<=400:=by have d:=ya q9;have h2:=(N4 k).2;simp only[cnt] at h2;omega
 clear Y;have o:J4 (.mk 15 n a)=5:=P;rw[o] at G;clear o P j7 a8;clear V6;go_enter func171,ntmps171;go_wp2_with fail;rw[<-l];clear l;refine(G.out _ Q).mono ?_;rintro e w1 ⟨rfl,d⟩;have b:=Q.trans d;have u6:=d.blk j;have I:=d.blk c;have hs1:w.heap.size+1 < w1.heap.size:=D1 I;obtain⟨z0,z1,z2,-,-,-⟩:=own3 u6;clear j c G d;have ye:=b.cell D;have wj:=b.cell K;have vr:=b.cell C;have yj:=b.cell E;have yt:=b.cell g;have ry:=b.cell F;have O7:=hdq (T.ext b);clear U r N5 B0 R V S J T q9 D K C E g F hK d6 J0;go_wp2_with fail;refine(Sf _ _ _ O7.out (by omega)).mono ?_;rintro e w3 ⟨u,rfl,z,L⟩;obtain⟨a1,O,M,X,N,rfl⟩:=z.three';rw[<-N8.out] at z;have hE:=b.trans L;obtain⟨s0,s1,s2,f0,f1,f2⟩:=own3 (L.blk I);clear u6 I ye wj vr yj yt ry z0 z1 z2;go_wp2_with fail;have hsz:=b.size;refine aQ (v:= m0 a1 O M X N) (by simp[aS,results171,go_sem,s0,s1,s2]) rfl ⟨_,rfl,W0.since (z.after ((((Ua.refl _ _).setCell (p:=⟨w.heap.size+1,0,none⟩) (by show w.heap.size+1 < _;omega) (j0 a1)).setCell (p:=⟨w.heap.size+1,1,none⟩) (by show w.heap.size+1 < _;omega) (j0 O)).setCell (p:=⟨w.heap.size+1,2,none⟩) (by show w.heap.size+1 < _;omega) (.slice M X N))) (by omega),(((hE.setCell (p:=⟨w.heap.size+1,0,none⟩) (by show w.heap.size<=w.heap.size+1;omega) _).setCell (p:=⟨w.heap.size+1,1,none⟩) (by show w.heap.size<=w.heap.size+1;omega) _).setCell (p:=⟨w.heap.size+1,2,none⟩) (by show w.heap.size<=w.heap.size+1;omega) _)⟩
theorem Lo(n:Int)(a:List Tr)(hv:valid sigT (.mk 16 n a)=true)(w:aN)(A:Option Addr)(cap:Nat)(d6:Lies w (.mk 16 n a) (m0 16 n A a.length cap))(hK:V8 w A a)(hl:a.length<=cap)(hc:cap<=aW)(m:(kd a 0).kind=14):
 Calls prog 171 #[m0 16 n A a.length cap] w (Ui w (ctr 16 a)):=by
 obtain⟨hsh,D4⟩:=N4 hv;have a8:S0 16=(a.length:Int):=(m6 hsh).1;have j7:a.length=1:=by have h9:(1:Int)=(a.length:Int):=a8;omega
 have H:=(m6 hsh).2.2.2;have K5: ∀t∈a,valid sigT t=true:=fun t ht=> by
  have d:=H t ht;have h2:=ya ht;simp only[cnt] at D4;unfold valid;rw[Tf d (by decide),bV,decide_eq_true_eq];omega
 have B:=hc;unfold aW at B;have G:=hdq (fun W (hW:Ext w W)=> Ft (.mk 16 n a) 30 hsh W _ (d6.ext hW));obtain⟨i,l⟩: ∃i,i=(w.alloc (D0 16 n A a.length cap)).alloc M0:=⟨_,rfl⟩;have Q:Ext w i:=l▸((xr w).alloc _).alloc _;have j:i.heap[w.heap.size]? =some (D0 16 n A a.length cap):=by rw[l];exact(blk2 (xr _)).1
 have c:i.heap[w.heap.size+1]? =some M0:=by rw[l];exact(blk2 (xr _)).2.1
 have hs0:w.heap.size+1 < i.heap.size:=D1 c;have E8:0 < a.length:=by omega
 have W6:(0:Int) <(a.length:Int):=by omega
 obtain⟨b0,o0,Z,n0,A0,s8,f,ay,U,D,K,C,cm,fg,N5,B0,R⟩:=hK.get (xr w) E8;simp only[dN,cX] at D K C;have r:kd a 0= .mk Z n0 f:=Vc E8 U.out;subst ay;rw[r] at m;have gm:Z=14:=m;subst gm;have k:=K5 _ R;have J0:S0 14=(f.length:Int):=(m6 (N4 k).1).1;have V6:f.length=3:=by have h9:(3:Int)=(f.length:Int):=J0;omega
 have E6:2 < f.length:=by omega
 have qj:(2:Int) <(f.length:Int):=by omega
 obtain⟨b3,o3,s,q,A3,G6,j19,W8,V,E,g,F,fw,af,J,T,q9⟩:=N5.get (xr w) E6;simp only[Nat.reduceMul,dZ,eM] at E g F;have S:kd f 2= .mk s q j19:=Vc E6 V.out;subst W8;have Y:ctr 16 a= .mk s q j19:=by rw[Wt,r];exact S
 rw[Y];have P:rdx 16 a=6:=by unfold rdx;rw[r];simp[Tr.kind]
 obtain⟨TT,y⟩: ∃x,x=Tr.mk s q j19:=⟨_,rfl⟩;rw[<-y];have N8:=hdq y;clear y;have ug:cnt (.mk s q j19)<=400:=by have d:=ya q9;have h2:=(N4 k).2;simp only[cnt] at h2;omega
 clear Y;have o:J4 (.mk 16 n a)=6:=P;rw[o] at G;clear o P j7 a8;clear V6;go_enter func171,ntmps171;go_wp2_with fail;rw[<-l];clear l;refine(G.out _ Q).mono ?_;rintro e w1 ⟨rfl,d⟩;have b:=Q.trans d;have u6:=d.blk j;have I:=d.blk c;have hs1:w.heap.size+1 < w1.heap.size:=D1 I;obtain⟨z0,z1,z2,-,-,-⟩:=own3 u6;clear j c G d;have ye:=b.cell D;have wj:=b.cell K;have vr:=b.cell C;have yj:=b.cell E;have yt:=b.cell g;have ry:=b.cell F;have O7:=hdq (T.ext b);clear U r N5 B0 R V S J T q9 D K C E g F hK d6 J0;go_wp2_with fail;refine(Sf _ _ _ O7.out (by omega)).mono ?_;rintro e w3 ⟨u,rfl,z,L⟩;obtain⟨a1,O,M,X,N,rfl⟩:=z.three';rw[<-N8.out] at z;have hE:=b.trans L;obtain⟨s0,s1,s2,f0,f1,f2⟩:=own3 (L.blk I);clear u6 I ye wj vr yj yt ry z0 z1 z2;go_wp2_with fail;have hsz:=b.size;refine aQ (v:= m0 a1 O M X N) (by simp[aS,results171,go_sem,s0,s1,s2]) rfl ⟨_,rfl,W0.since (z.after ((((Ua.refl _ _).setCell (p:=⟨w.heap.size+1,0,none⟩) (by show w.heap.size+1 < _;omega) (j0 a1)).setCell (p:=⟨w.heap.size+1,1,none⟩) (by show w.heap.size+1 < _;omega) (j0 O)).setCell (p:=⟨w.heap.size+1,2,none⟩) (by show w.heap.size+1 < _;omega) (.slice M X N))) (by omega),(((hE.setCell (p:=⟨w.heap.size+1,0,none⟩) (by show w.heap.size<=w.heap.size+1;omega) _).setCell (p:=⟨w.heap.size+1,1,none⟩) (by show w.heap.size<=w.heap.size+1;omega) _).setCell (p:=⟨w.heap.size+1,2,none⟩) (by show w.heap.size<=w.heap.size+1;omega) _)⟩
theorem pp(n:Int)(b:List Tr)(hv:valid sigT (.mk 5 n b)=true)(w:aN)(A:Option Addr)(cap:Nat)(d6:Lies w (.mk 5 n b) (m0 5 n A b.length cap))(hK:V8 w A b)(hl:b.length<=cap)(hc:cap<=aW)(L:(kd b 0).kind=4):
 Calls prog 171 #[m0 5 n A b.length cap] w (Ui w (ctr 5 b)):=by
 obtain⟨hsh,D4⟩:=N4 hv;have a8:S0 5=(b.length:Int):=(m6 hsh).1;have j7:b.length=2:=by have h9:(2:Int)=(b.length:Int):=a8;omega
 have hsk:=(m6 hsh).2.2.2;have K5: ∀t∈b,valid sigT t=true:=fun t ht=> by
  have d:=hsk t ht;have N:=ya ht;simp only[cnt] at D4;unfold valid;rw[Tf d (by decide),bV,decide_eq_true_eq];omega
 have U:=hc;unfold aW at U;have C9:=hdq (fun W (hW:Ext w W)=> Ft (.mk 5 n b) 30 hsh W _ (d6.ext hW));obtain⟨H,K⟩: ∃H,H=(w.alloc (D0 5 n A b.length cap)).alloc M0:=⟨_,rfl⟩;have hX:Ext w H:=K▸((xr w).alloc _).alloc _;have J:H.heap[w.heap.size]? =some (D0 5 n A b.length cap):=by rw[K];exact(blk2 (xr _)).1
 have u:H.heap[w.heap.size+1]? =some M0:=by rw[K];exact(blk2 (xr _)).2.1
 have hs0:w.heap.size+1 < H.heap.size:=D1 u;have E8:0 < b.length:=by omega
 have W6:(0:Int) <(b.length:Int):=by omega
 obtain⟨f,o0,k0,n0,A0,s8,l,ay,U7,Y,N7,X,cm,fg,N5,B0,z7⟩:=hK.get (xr w) E8;simp only[dN,cX] at Y N7 X;have R:kd b 0= .mk k0 n0 l:=Vc E8 U7.out;have B7:1 < b.length:=by omega
 have gy:(1:Int) <(b.length:Int):=by omega
 obtain⟨b1,o1,F,E,A1,D3,q16,S,E7,C,D,B,Z4,ak,M6,p6,l8⟩:=hK.get (xr w) B7;simp only[fU,dZ,eM] at C D B;have I9:kd b 1= .mk F E q16:=Vc B7 E7.out;subst ay
 injection S with S
 injection S with bi hC1 hD1
 subst bi hC1;rw[R] at L;have V:k0=4:=L;subst V;have s:=K5 _ z7;have J0:S0 4=(l.length:Int):=(m6 (N4 s).1).1;have V6:l.length=2:=by have h9:(2:Int)=(l.length:Int):=J0;omega
 have E6:1 < l.length:=by omega
 have qj:(1:Int) <(l.length:Int):=by omega
 obtain⟨j,o,I,G,A3,G6,j19,W8,U8,Q,z,Z,fw,af,hK3,F9,q9⟩:=N5.get (xr w) E6;simp only[fU,dZ,eM] at Q z Z;have C7:kd l 1= .mk I G j19:=Vc E6 U8.out;subst W8;have B8:=K5 _ l8;have hv3:valid sigT (.mk I G j19)=true:=by
  have d:=(m6 (N4 s).1).2.2.2 _ q9;have N:=ya q9;have h3:=(N4 s).2;simp only[cnt] at h3;unfold valid;rw[Tf d (by decide),bV,decide_eq_true_eq];omega
 have l9:ctr 5 b=X0 (.mk F E q16) (.mk I G j19) 0 0:=by rw[dt,R,I9];exact congrArg (fun t=> X0 (.mk F E q16) t 0 0) C7
 rw[l9];have I3:rdx 5 b=1:=by unfold rdx;rw[R];simp[Tr.kind]
 obtain⟨TT,T⟩: ∃x,x=X0 (.mk F E q16) (.mk I G j19) 0 0:=⟨_,rfl⟩;rw[<-T];have N8:=hdq T;clear T l9;have M:J4 (.mk 5 n b)=1:=I3;rw[M] at C9;clear M I3 j7 a8;clear V6;go_enter func171,ntmps171;go_wp2_with fail;rw[<-K];clear K;refine(C9.out _ hX).mono ?_;rintro e k ⟨rfl,d⟩;have g:=hX.trans d;have u6:=d.blk J;have o9:=d.blk u;have hs1:w.heap.size+1 < k.heap.size:=D1 o9;obtain⟨z0,z1,z2,-,-,-⟩:=own3 u6;clear J u C9 d;have Al:f < w.heap.size:=World.block_lt_of_cell? _ _ Y;have Ls:j < w.heap.size:=World.block_lt_of_cell? _ _ Q;have P:=hdq (show∀c:aN,(∀y,y < k.heap.size->y≠w.heap.size+1->c.heap[y]? =k.heap[y]?)->c.cell? ⟨w.heap.size,2,none⟩=some (.slice (some ⟨f,o0,none⟩) b.length cap)/\c.cell? ⟨f,o0+2,none⟩=some (.slice (some ⟨j,o,none⟩) l.length s8)/\c.cell? ⟨j,o+3,none⟩=some (j0 I)/\c.cell? ⟨j,o+4,none⟩=some (j0 G)/\c.cell? ⟨j,o+5,none⟩=some (.slice A3 j19.length G6)/\c.cell? ⟨f,o0+3,none⟩=some (j0 F)/\c.cell? ⟨f,o0+4,none⟩=some (j0 E)/\c.cell? ⟨f,o0+5,none⟩=some (.slice A1 q16.length D3) from fun c h=> by
  have m: ∀q i v,q < w.heap.size+1->k.cell? ⟨q,i,none⟩=some v->c.cell? ⟨q,i,none⟩=some v:=fun q i v hq hv=>(World.cell?_of_block (a:=⟨q,i,none⟩) (h q (by omega) (by omega))).trans hv
  exact⟨m _ _ _ (by omega) z2,m _ _ _ (by omega) (g.cell X),m _ _ _ (by omega) (g.cell Q),m _ _ _ (by omega) (g.cell z),m _ _ _ (by omega) (g.cell Z),m _ _ _ (by omega) (g.cell C),m _ _ _ (by omega) (g.cell D),m _ _ _ (by omega) (g.cell B)⟩)
 have r:Ext k k.drew:=(xr k).drew;have L3:=F9.ext g;have L1:=p6.ext g;clear U7 E7 U8 R I9 C7 N5 M6 hK3 B0 p6 F9 z7 l8 q9 hK d6 J0 Y N7 X C D B Q z Z z0 z1 z2 u6;go_wp2_with fail
 go_region_held3 (fun c=> c.cell? ⟨w.heap.size,2,none⟩=some (.slice (some ⟨f,o0,none⟩) b.length cap)/\c.cell? ⟨f,o0+2,none⟩=some (.slice (some ⟨j,o,none⟩) l.length s8)/\c.cell? ⟨j,o+3,none⟩=some (j0 I)/\c.cell? ⟨j,o+4,none⟩=some (j0 G)/\c.cell? ⟨j,o+5,none⟩=some (.slice A3 j19.length G6)/\c.cell? ⟨f,o0+3,none⟩=some (j0 F)/\c.cell? ⟨f,o0+4,none⟩=some (j0 E)/\c.cell? ⟨f,o0+5,none⟩=some (.slice A1 q16.length D3))
  (first|exact P.out _ (fun y d N=> by rw[Below.heap_setCell _ _ _ _ N,Below.heap_setCell _ _ _ _ N,Below.heap_setCell _ _ _ _ N];exact(r.trans O).heap y d) |exact P.out _ (fun y d _=>(r.trans O).heap y d) |exact P.out _ (fun y d _=> r.heap y d))
  (first|(go_at_call 121;refine(tK N8.out _ _ _ (L3.ext r) hv3 (L1.ext r) B8).mono ?_;rintro e w2 ⟨a1,a2,a3,a4,a5,rfl,hM,O⟩;obtain⟨s0,s1,s2,f0,f1,f2⟩:=own3 ((r.trans O).blk o9)))
 have hE:=g.trans (r.trans O);have vn:k.heap.size<=k.drew.heap.size:=r.size;clear P o9;go_wp2_with fail;have hsz:=g.size;refine aQ (v:= m0 a1 a2 a3 a4 a5) (by simp[aS,results171,go_sem,s0,s1,s2]) rfl ⟨_,rfl,W0.since (hM.after ((((Ua.refl _ _).setCell (p:=⟨w.heap.size+1,0,none⟩) (by show w.heap.size+1 < _;omega) (j0 a1)).setCell (p:=⟨w.heap.size+1,1,none⟩) (by show w.heap.size+1 < _;omega) (j0 a2)).setCell (p:=⟨w.heap.size+1,2,none⟩) (by show w.heap.size+1 < _;omega) (.slice a3 a4 a5))) (by omega),(((hE.setCell (p:=⟨w.heap.size+1,0,none⟩) (by show w.heap.size<=w.heap.size+1;omega) _).setCell (p:=⟨w.heap.size+1,1,none⟩) (by show w.heap.size<=w.heap.size+1;omega) _).setCell (p:=⟨w.heap.size+1,2,none⟩) (by show w.heap.size<=w.heap.size+1;omega) _)⟩
