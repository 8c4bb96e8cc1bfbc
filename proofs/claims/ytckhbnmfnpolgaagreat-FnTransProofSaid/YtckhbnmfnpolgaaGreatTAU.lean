/- Lemmas towards the law. -/
import Derived.Test.YtckhbnmfnpolgaaGreatTAS
import Derived.Test.YtckhbnmfnpolgaaGreatTAT
open Go renaming World->aN,Value->aU,Calls->aY,maxLen->aW,heap_alloc_new->aT,bodyPost_ret->aQ
open Nat renaming add_assoc->dZ,reduceAdd->eM
open Go.World renaming cell?_of_block->eN,alloc->aO,size_setCell->fO
open Go.RowKit.Below renaming heap_setCell->aM
open Go.Proofs.Tryz
set_option linter.all false
set_option maxHeartbeats 16000000
set_option maxRecDepth 100000
namespace Go.Proofs.YtckhbnmfnpolgaaGreat
open Go.RowKit
structure YA (p:Prop):Prop where
 out:p
theorem JD{T p:Prop}(h:YA T->p)(k:T):p:=h ⟨k⟩
def Yv(w:aN)(t:Tr)(e:Ending)(a:aN):Prop:= ∃r,e= .returned r/\InT a (fun b=> w.heap.size<=b/\b < a.heap.size) t r/\Ext w a
theorem Ou(t:Tr)(w:aN)(v:aU)(k:Lies w t v)(hc:cnt t<=1000000):aY prog 46 #[v] w fun e a=> ∃i g c d f z y,e= .returned (m0 i g c d f)/\InT a (fun b=> z<=b/\b < y) t (m0 i g c d f)/\Ext w a/\z=w.heap.size/\y=a.heap.size:=by
 refine(Sf t w v k hc).mono ?_;rintro e a ⟨u,rfl,j,h⟩;obtain⟨i,g,c,d,f,rfl⟩:=j.three';exact⟨i,g,c,d,f,_,_,rfl,j.inT,h,rfl,rfl⟩
theorem Uj{w:aN}{k:Int}{g:Nat}{t1 t2:Tr}{v0 v1 v2 r o q:aU}{S1 d:Nat->Prop}(t:InT w S1 t1 (.agg #[v0,v1,v2]))(s:InT w d t2 (.agg #[r,o,q]))(p:w.heap[g]? =some (.cells #[v0,v1,v2,r,o,q] 25 (0,0))):
 aY prog 60 #[j0 k,.slice (some ⟨g,0,none⟩) 2 2] w fun e c=> ∃m l f i j z y,e= .returned (m0 m l f i j)/\InT c (fun b=>(S1 b\/d b\/b=g)\/z<=b/\b < y) (.mk k 0 [t1,t2]) (m0 m l f i j)/\Ext w c/\z=w.heap.size/\y=c.heap.size:=by
 refine(RF w k (some ⟨g,0,none⟩) 2 [t1,t2] (by intro h;cases h) (fun b=>(S1 b\/d b\/b=g)/\b < w.heap.size) (fun b h=> h.2) (InK.two (e:=25) (InT.mono (fun b h=>⟨.inl h.1,h.2⟩) (fun _ _=> rfl) t.bound) (InT.mono (fun b h=>⟨.inr (.inl h.1),h.2⟩) (fun _ _=> rfl) s.bound) p ⟨.inr (.inr rfl),D1 p⟩) (by simp)).mono ?_;rintro e c ⟨u,rfl,n,h⟩;obtain⟨m,l,f,i,j,rfl⟩:=InT.three n;exact⟨_,_,_,_,_,_,_,rfl,InT.mono (fun b a=> by rcases a with a|a;exact .inl a.1;exact .inr a) (fun _ _=> rfl) n,h,rfl,rfl⟩
theorem rx{w:aN}{k:Int}{g:Nat}{t1 t2 i d:Tr}{v0 v1 v2 t o s p C A B l j:aU}{S1 n S3 m:Nat->Prop}(I:InT w S1 t1 (.agg #[v0,v1,v2]))(H:InT w n t2 (.agg #[t,o,s]))(F:InT w S3 i (.agg #[p,C,A]))(G:InT w m d (.agg #[B,l,j]))(a:w.heap[g]? =some (.cells #[v0,v1,v2,t,o,s,p,C,A,B,l,j] 25 (0,0))):
 aY prog 60 #[j0 k,.slice (some ⟨g,0,none⟩) 4 4] w fun e f=> ∃D x q r v z y,e= .returned (m0 D x q r v)/\InT f (fun b=>(S1 b\/n b\/S3 b\/m b\/b=g)\/z<=b/\b < y) (.mk k 0 [t1,t2,i,d]) (m0 D x q r v)/\Ext w f/\z=w.heap.size/\y=f.heap.size:=by
 have hK:InK w (fun b=>(S1 b\/n b\/S3 b\/m b\/b=g)/\b < w.heap.size) (some ⟨g,0,none⟩) [t1,t2,i,d]:=by
  refine .inr ⟨g,0,rfl,⟨.inr (.inr (.inr (.inr rfl))),D1 a⟩, ?_⟩;unfold d5;refine⟨⟨v0,v1,v2,E1 a 0,E1 a 1,E1 a 2,InT.mono (fun b h=>⟨.inl h.1,h.2⟩) (fun _ _=> rfl) I.bound⟩, ?_⟩;unfold d5;refine⟨⟨t,o,s,E1 a 3,E1 a 4,E1 a 5,InT.mono (fun b h=>⟨.inr (.inl h.1),h.2⟩) (fun _ _=> rfl) H.bound⟩, ?_⟩;unfold d5;refine⟨⟨p,C,A,E1 a 6,E1 a 7,E1 a 8,InT.mono (fun b h=>⟨.inr (.inr (.inl h.1)),h.2⟩) (fun _ _=> rfl) F.bound⟩, ?_⟩;unfold d5;refine⟨⟨B,l,j,E1 a 9,E1 a 10,E1 a 11,InT.mono (fun b h=>⟨.inr (.inr (.inr (.inl h.1))),h.2⟩) (fun _ _=> rfl) G.bound⟩, ?_⟩;unfold d5
  trivial
 refine(RF w k (some ⟨g,0,none⟩) 4 [t1,t2,i,d] (by intro h;cases h) _ (fun b h=> h.2) hK (by simp)).mono ?_;rintro e f ⟨u,rfl,E,h⟩;obtain⟨D,x,q,r,v,rfl⟩:=InT.three E;exact⟨_,_,_,_,_,_,_,rfl,InT.mono (fun b c=> by rcases c with c|c;exact .inl c.1;exact .inr c) (fun _ _=> rfl) E,h,rfl,rfl⟩
theorem Uo(n:Int)(B:List Tr)(hv:valid sigT (.mk 9 n B)=true)(w:aN)(A:Option Addr)(cap:Nat)(d6:Lies w (.mk 9 n B) (m0 9 n A B.length cap))(hK:V8 w A B)(hl:B.length<=cap)(hc:cap<=aW)(hc3:(kd B 3).kind=8):
 aY prog 171 #[m0 9 n A B.length cap] w (Yv w (ctr 9 B)):=by
 obtain⟨hsh,D4⟩:=N4 hv;have a8:S0 9=(B.length:Int):=(m6 hsh).1;have j7:B.length=4:=by have z:(4:Int)=(B.length:Int):=a8;omega
 have hsk:=(m6 hsh).2.2.2;have K5: ∀t∈B,valid sigT t=true:=fun t ht=> by
  have m:=hsk t ht;have h2:=ya ht;simp only[cnt] at D4;unfold valid;rw[Tf m (by decide),Bool.true_and,decide_eq_true_eq];omega
 have hcc:=hc;unfold aW at hcc;have C9:=hdq (fun W (hW:Ext w W)=> Ft (.mk 9 n B) 30 hsh W _ (d6.ext hW));obtain⟨wb,x7⟩: ∃wb,wb=(w.alloc (D0 9 n A B.length cap)).alloc M0:=⟨_,rfl⟩;have hX:Ext w wb:=x7▸((xr w).alloc _).alloc _;have hb0:wb.heap[w.heap.size]? =some (D0 9 n A B.length cap):=by rw[x7];exact(blk2 (xr _)).1
 have hb1:wb.heap[w.heap.size+1]? =some M0:=by rw[x7];exact(blk2 (xr _)).2.1
 have hs0:w.heap.size+1 < wb.heap.size:=D1 hb1;have E8:0 < B.length:=by omega
 have W6:(0:Int) <(B.length:Int):=by omega
 obtain⟨H,o0,k0,n0,A0,s8,a6,ay,U7,J9,N7,L9,cm,fg,N5,B0,z7⟩:=hK.get (xr w) E8;simp only[Nat.zero_mul,Nat.add_zero] at J9 N7 L9;have y7:kd B 0= .mk k0 n0 a6:=Vc E8 U7.out;have B7:1 < B.length:=by omega
 have gy:(1:Int) <(B.length:Int):=by omega
 obtain⟨b1,o1,k1,n1,A1,D3,q16,O3,E7,c10,c11,c12,Z4,ak,M6,p6,l8⟩:=hK.get (xr w) B7;simp only[Nat.one_mul,dZ,eM] at c10 c11 c12;have I9:kd B 1= .mk k1 n1 q16:=Vc B7 E7.out;have G0:2 < B.length:=by omega
 have iw:(2:Int) <(B.length:Int):=by omega
 obtain⟨b2,o2,k2,n2,A2,G5,y17,iv,kg,c20,c21,fj,ic,gv,hK2,S9,J2⟩:=hK.get (xr w) G0;simp only[Nat.reduceMul,dZ,eM] at c20 c21 fj;have V9:kd B 2= .mk k2 n2 y17:=Vc G0 kg.out;have E6:3 < B.length:=by omega
 have qj:(3:Int) <(B.length:Int):=by omega
 obtain⟨b3,o3,k3,n3,A3,G6,j19,W8,U8,L5,c31,L8,fw,af,hK3,F9,q9⟩:=hK.get (xr w) E6;simp only[Nat.reduceMul,dZ,eM] at L5 c31 L8;have C7:kd B 3= .mk k3 n3 j19:=Vc E6 U8.out;subst ay
 injection O3 with O3
 injection O3 with bi hC1 hD1
 subst bi hC1
 injection iv with iv
 injection iv with ui hC2 hD2
 subst ui hC2
 injection W8 with W8
 injection W8 with Cb hC3 hD3
 subst Cb hC3;rw[C7] at hc3;have He:k3=8:=hc3;subst He;have hv3:=K5 _ q9;have od:S0 8=(j19.length:Int):=(m6 (N4 hv3).1).1;have xg:j19.length=1:=by have z:(1:Int)=(j19.length:Int):=od;omega
 have aa:0 < j19.length:=by omega
 have hi4:(0:Int) <(j19.length:Int):=by omega
 obtain⟨b4,o4,T,X,A4,S7,j37,Aq,Dt,c40,yn,xo,Kq,Hu,hK4,mn,bz⟩:=hK3.get (xr w) aa;simp only[Nat.zero_mul,Nat.add_zero] at c40 yn xo;have nc:kd j19 0= .mk T X j37:=Vc aa Dt.out;subst Aq;have q0:=(N4 (K5 _ z7)).2;have E:=(N4 (K5 _ l8)).2;have F:=(N4 (K5 _ J2)).2;have C:=(N4 hv3).2;have D:=ya bz;simp only[cnt] at C;have l9:ctr 9 B= .mk 5 0 [.mk 5 0 [.mk k2 n2 y17,.mk T X j37],.mk 9 0 [.mk k0 n0 a6,.mk k1 n1 q16,.mk k2 n2 y17,.mk T X j37]]:=by rw[Yt (by rw[C7];rfl),y7,I9,V9,C7,show kd (Tr.kids (.mk 8 n3 j19)) 0=_ from nc]
 rw[l9];have I3:rdx 9 B=3:=by unfold rdx;rw[C7];simp[Tr.kind]
 clear l9;have hrt:J4 (.mk 9 n B)=3:=I3;rw[hrt] at C9;clear hrt I3 j7 a8;clear xg;go_enter func171,ntmps171;go_wp2_with fail;rw[<-x7];clear x7;refine(C9.out _ hX).mono ?_;rintro e wr ⟨rfl,hr⟩;have o8:=hX.trans hr;have u6:=hr.blk hb0;have o9:=hr.blk hb1;have hs1:w.heap.size+1 < wr.heap.size:=D1 o9;obtain⟨z0,z1,z2,-,-,-⟩:=own3 u6;clear hb0 hb1 C9 hr;have ry:=o8.cell L8;have d40:=o8.cell c40;have d41:=o8.cell yn;have d42:=o8.cell xo;have Al:H < w.heap.size:=World.block_lt_of_cell? _ _ J9;obtain⟨c,I2⟩: ∃x,x=wr.alloc (D0 T X A4 j37.length S7):=⟨_,rfl⟩;have eS:Ext wr c:=I2▸(xr wr).alloc _;have bS:=aT wr (D0 T X A4 j37.length S7);rw[<-I2] at bS;go_wp2_with fail;rw[<-I2];clear I2;have Y:Ext w c:=o8.trans eS;have hgS:wr.heap.size < c.heap.size:=D1 bS;have Cj:=eS.blk o9;have Cw:=eS.blk u6;have hgw:w.heap.size+1 < wr.heap.size:=hs1;have hsSa:wr.heap.size+1<=c.heap.size:=hgS;have p9: ∀W,Ext c W-> ∀d:aN,(∀y,y < c.heap.size->y≠w.heap.size+1->d.heap[y]? =W.heap[y]?)->d.cell? ⟨w.heap.size,2,none⟩=some (.slice (some ⟨H,o0,none⟩) B.length cap)/\d.cell? ⟨H,o0,none⟩=some (j0 k0)/\d.cell? ⟨H,o0+1,none⟩=some (j0 n0)/\d.cell? ⟨H,o0+2,none⟩=some (.slice A0 a6.length s8)/\d.cell? ⟨H,o0+3,none⟩=some (j0 k1)/\d.cell? ⟨H,o0+4,none⟩=some (j0 n1)/\d.cell? ⟨H,o0+5,none⟩=some (.slice A1 q16.length D3)/\d.cell? ⟨H,o0+6,none⟩=some (j0 k2)/\d.cell? ⟨H,o0+7,none⟩=some (j0 n2)/\d.cell? ⟨H,o0+8,none⟩=some (.slice A2 y17.length G5)/\d.cell? ⟨wr.heap.size,0,none⟩=some (j0 T)/\d.cell? ⟨wr.heap.size,1,none⟩=some (j0 X)/\d.cell? ⟨wr.heap.size,2,none⟩=some (.slice A4 j37.length S7):=by
  intro W hW d h;have C4: ∀q i v,q < c.heap.size->q≠w.heap.size+1->c.cell? ⟨q,i,none⟩=some v->d.cell? ⟨q,i,none⟩=some v:=fun q i v hq hn hv=>
   (eN (a:=⟨q,i,none⟩) (h q hq hn)).trans (hW.cell hv)
  exact⟨C4 _ _ _ (by omega) (by omega) (E1 Cw 2),C4 _ _ _ (by omega) (by omega) (Y.cell J9),C4 _ _ _ (by omega) (by omega) (Y.cell N7),C4 _ _ _ (by omega) (by omega) (Y.cell L9),C4 _ _ _ (by omega) (by omega) (Y.cell c10),C4 _ _ _ (by omega) (by omega) (Y.cell c11),C4 _ _ _ (by omega) (by omega) (Y.cell c12),C4 _ _ _ (by omega) (by omega) (Y.cell c20),C4 _ _ _ (by omega) (by omega) (Y.cell c21),C4 _ _ _ (by omega) (by omega) (Y.cell fj),C4 _ _ _ (by omega) (by omega) (E1 bS 0),C4 _ _ _ (by omega) (by omega) (E1 bS 1),C4 _ _ _ (by omega) (by omega) (E1 bS 2)⟩
 have M:=hdq p9;have R:Ext c c.drew:=(xr c).drew;have L0:=B0.ext Y;have L1:=p6.ext Y;have L2:=S9.ext Y;have L4:=mn.ext Y;clear p9 U7 y7 N5 B0 z7 E7 I9 M6 p6 l8 kg V9 hK2 S9 J2 U8 C7 hK3 F9 q9 Dt nc hK4 mn bz J9 N7 L9 c10 c11 c12 c20 c21 fj L5 c31 L8 c40 yn xo ry d40 d41 d42 hK d6 od z0 z1 z2 u6 o9 Cw bS hsk K5 hv hv3 hsh D4 hc3 eS o8 hX hs1;go_wp2_with fail
 apply JD
 case h=>
  intro REST
  go_region_held3 (fun d=> d.cell? ⟨w.heap.size,2,none⟩=some (.slice (some ⟨H,o0,none⟩) B.length cap)/\d.cell? ⟨H,o0,none⟩=some (j0 k0)/\d.cell? ⟨H,o0+1,none⟩=some (j0 n0)/\d.cell? ⟨H,o0+2,none⟩=some (.slice A0 a6.length s8)/\d.cell? ⟨H,o0+3,none⟩=some (j0 k1)/\d.cell? ⟨H,o0+4,none⟩=some (j0 n1)/\d.cell? ⟨H,o0+5,none⟩=some (.slice A1 q16.length D3)/\d.cell? ⟨H,o0+6,none⟩=some (j0 k2)/\d.cell? ⟨H,o0+7,none⟩=some (j0 n2)/\d.cell? ⟨H,o0+8,none⟩=some (.slice A2 y17.length G5)/\d.cell? ⟨wr.heap.size,0,none⟩=some (j0 T)/\d.cell? ⟨wr.heap.size,1,none⟩=some (j0 X)/\d.cell? ⟨wr.heap.size,2,none⟩=some (.slice A4 j37.length S7))
   (first|exact M.out _ H5 _ (fun y m _=> by rw[aM _ _ _ _ (fun z=> by have t1:=J.size;have t2:=Q.size;have t3:=H3.size;have t4:=H4.size;dsimp only at z;omega),aM _ _ _ _ (fun z=> by have t1:=J.size;have t2:=Q.size;have t3:=H3.size;have t4:=H4.size;dsimp only at z;omega),aM _ _ _ _ (fun z=> by have t1:=J.size;have t2:=Q.size;have t3:=H3.size;have t4:=H4.size;dsimp only at z;omega)]) |exact M.out _ H5 _ (fun y m _=> by with_reducible rfl) |exact M.out _ (H5.alloc _) _ (fun y m _=> by with_reducible rfl) |exact M.out _ ((H5.alloc _).alloc _) _ (fun y m _=> by with_reducible rfl) |exact M.out _ H4 _ (fun y m _=> by with_reducible rfl) |exact M.out _ (H4.alloc _) _ (fun y m _=> by with_reducible rfl) |exact M.out _ ((H4.alloc _).alloc _) _ (fun y m _=> by with_reducible rfl) |exact M.out _ H3 _ (fun y m _=> by with_reducible rfl) |exact M.out _ (H3.alloc _) _ (fun y m _=> by with_reducible rfl) |exact M.out _ ((H3.alloc _).alloc _) _ (fun y m _=> by with_reducible rfl) |exact M.out _ Q _ (fun y m _=> by with_reducible rfl) |exact M.out _ (Q.alloc _) _ (fun y m _=> by with_reducible rfl) |exact M.out _ ((Q.alloc _).alloc _) _ (fun y m _=> by with_reducible rfl) |exact M.out _ J _ (fun y m _=> by with_reducible rfl) |exact M.out _ (J.alloc _) _ (fun y m _=> by with_reducible rfl) |exact M.out _ ((J.alloc _).alloc _) _ (fun y m _=> by with_reducible rfl) |exact M.out _ R _ (fun y m _=> by with_reducible rfl) |exact M.out _ (R.alloc _) _ (fun y m _=> by with_reducible rfl) |exact M.out _ ((xr c).alloc _).drew _ (fun y m _=> by with_reducible rfl))
   (first|(go_at_call_of 46 A0;refine(Ou _ _ _ (L0.ext (by with_reducible (first|exact((xr c).alloc _).drew|exact R.alloc _|exact R))) (by omega)).mono ?_;rintro e P ⟨Eu,Gt,Gs,Fx,Gi,z1,y1,rfl,hM1,m,hz1,hy1⟩;have J:Ext c P:=Ext.trans (by with_reducible (first|exact((xr c).alloc _).drew|exact R.alloc _|exact R)) m;(first|(have uf:Ext (aO (World.drew c) M0) P:=(by with_reducible exact m);have Fo:P.heap[c.heap.size]? =some M0:=Ext.blk uf (aT c.drew M0)) |(have uf:Ext (World.drew (aO c M0)) P:=(by with_reducible exact m);have Fo:P.heap[c.heap.size]? =some M0:=Ext.blk uf (aT c M0)) |(have Fo:=trivial))) |(go_at_call_of 46 A1;refine(Ou _ _ _ (L1.ext (by with_reducible (first|exact(J.alloc _).alloc _|exact J.alloc _|exact J|exact((xr c).alloc _).drew|exact R.alloc _|exact R))) (by omega)).mono ?_;rintro e U ⟨Ey,Fy,Gh,Gv,p25,z2,y2,rfl,M8,h2,hz2,hy2⟩;have Q:Ext c U:=Ext.trans (by with_reducible (first|exact(J.alloc _).alloc _|exact J.alloc _|exact J|exact((xr c).alloc _).drew|exact R.alloc _|exact R)) h2;have X2:Ext P U:=(by with_reducible (first|exact h2|exact((xr _).alloc _).trans h2));(first|(have Ex:=Ext.blk h2 Fo) |(have Ex:U.heap[P.heap.size]? =some M0:=(by with_reducible exact Ext.blk h2 (aT P M0))) |(have Ex:=trivial))) |(go_at_call_of 46 A2;refine(Ou _ _ _ (L2.ext (by with_reducible (first|exact(Q.alloc _).alloc _|exact Q.alloc _|exact Q|exact(J.alloc _).alloc _|exact J.alloc _|exact J|exact((xr c).alloc _).drew|exact R.alloc _|exact R))) (by omega)).mono ?_;rintro e V ⟨p31,p32,p33,p34,p35,z3,y3,rfl,Ec,h3,hz3,hy3⟩;have H3:Ext c V:=Ext.trans (by with_reducible (first|exact(Q.alloc _).alloc _|exact Q.alloc _|exact Q|exact(J.alloc _).alloc _|exact J.alloc _|exact J|exact((xr c).alloc _).drew|exact R.alloc _|exact R)) h3;have X3:Ext U V:=(by with_reducible (first|exact h3|exact((xr _).alloc _).trans h3));(first|(have Gf:=Ext.blk h3 Ex) |(have Gf:V.heap[U.heap.size]? =some M0:=(by with_reducible exact Ext.blk h3 (aT U M0))) |(have Gf:=trivial))) |(go_at_call_of 46 A4;refine(Ou _ _ _ (L4.ext (by with_reducible (first|exact(H3.alloc _).alloc _|exact H3.alloc _|exact H3|exact(Q.alloc _).alloc _|exact Q.alloc _|exact Q|exact(J.alloc _).alloc _|exact J.alloc _|exact J|exact((xr c).alloc _).drew|exact R.alloc _|exact R))) (by omega)).mono ?_;rintro e u ⟨p41,p42,p43,p44,p45,z4,y4,rfl,Bg,h4,hz4,hy4⟩;have H4:Ext c u:=Ext.trans (by with_reducible (first|exact(H3.alloc _).alloc _|exact H3.alloc _|exact H3|exact(Q.alloc _).alloc _|exact Q.alloc _|exact Q|exact(J.alloc _).alloc _|exact J.alloc _|exact J|exact((xr c).alloc _).drew|exact R.alloc _|exact R)) h4;have X4:Ext V u:=(by with_reducible (first|exact h4|exact((xr _).alloc _).trans h4));(first|(have Es:=Ext.blk h4 Gf) |(have Es:u.heap[V.heap.size]? =some M0:=(by with_reducible exact Ext.blk h4 (aT V M0))) |(have Es:=trivial))) |(go_at_call 60;(with_reducible show aY _ _ #[j0 9,.slice (some ⟨_,0,none⟩) 4 4] _ _);refine(rx (hM1.later (X2.trans (X3.trans (X4.trans (by with_reducible (first|exact(xr _).alloc _|exact((xr _).alloc _).alloc _)))))) (M8.later (X3.trans (X4.trans (by with_reducible (first|exact(xr _).alloc _|exact((xr _).alloc _).alloc _))))) (Ec.later (X4.trans (by with_reducible (first|exact(xr _).alloc _|exact((xr _).alloc _).alloc _)))) (Bg.later (by with_reducible (first|exact(xr _).alloc _|exact((xr _).alloc _).alloc _))) (by first|(with_reducible exact TF rfl) |(with_reducible exact TF (by simp)) |(with_reducible exact((xr _).alloc _).blk (TF rfl)))).mono ?_;rintro e L ⟨E,F,G,C,D,z5,y5,rfl,hM5,h5,hz5,hy5⟩;have X5:Ext u L:=Ext.trans (by with_reducible (first|exact(xr _).alloc _|exact((xr _).alloc _).alloc _)) h5;have H5:Ext c L:=H4.trans X5;(first|(have jv:=Ext.blk X5 Es;obtain⟨s0,s1,s2,f0,f1,f2⟩:=own3 jv) |(have jv:L.heap[u.heap.size]? =some M0:=(by with_reducible exact Ext.blk h5 (((xr _).alloc _).blk (aT u M0)));obtain⟨s0,s1,s2,f0,f1,f2⟩:=own3 jv) |(have jv:L.heap[u.heap.size+1]? =some M0:=(by with_reducible exact Ext.blk h5 (TF (o:= M0) (by simp)));obtain⟨s0,s1,s2,f0,f1,f2⟩:=own3 jv) |(have jv:=trivial))))
  all_goals(have t1:=J.size;have t2:=X2.size;have t3:=X3.size;have t4:=X4.size;have t5:=X5.size;have u1:=m.size;have u2:=h2.size;have u3:=h3.size;have u4:=h4.size;have u5:=h5.size;(try simp at u1);(try simp at hz1);(try simp at u2);(try simp at hz2);(try simp at u3);(try simp at hz3);(try simp at u4);(try simp at hz4);(try simp at u5);(try simp at hz5);have B5:=hM5.bound)
  all_goals(first
   |(have K:c.heap.size<=c.heap.size:=(by omega);have g: ∀b,((((z1<=b/\b < y1)\/(z2<=b/\b < y2)\/(z3<=b/\b < y3)\/(z4<=b/\b < y4)\/b=u.heap.size)\/z5<=b/\b < y5)/\b < L.heap.size)->b≠c.heap.size/\c.heap.size<=b:=(fun b l=> by omega);obtain⟨r,s⟩: ∃x,x=((L.setCell ⟨c.heap.size,0,none⟩ (j0 E)).setCell ⟨c.heap.size,1,none⟩ (j0 F)).setCell ⟨c.heap.size,2,none⟩ (.slice G C D):=⟨_,rfl⟩;have Z:Ext c r:=(by rw[s];exact((H5.setCell (p:=⟨c.heap.size,0,none⟩) K _).setCell (p:=⟨c.heap.size,1,none⟩) K _).setCell (p:=⟨c.heap.size,2,none⟩) K _);have S:r.heap[c.heap.size]? =some (D0 E F G C D):=(by rw[s];exact b6 (b6 (b6 jv 0 (j0 E)) 1 (j0 F)) 2 (.slice G C D));have Rn:New c r (.mk 9 0 [.mk k0 n0 a6,.mk k1 n1 q16,.mk k2 n2 y17,.mk T X j37]) (m0 E F G C D):=(by rw[s];exact InT.mono (fun b l=>⟨(g b l).2,by simp only[fO];exact l.2⟩) (fun b l=> by have z:=(g b l).1;rw[aM _ _ _ _ z,aM _ _ _ _ z,aM _ _ _ _ z]) B5);rw[<-s];clear s;obtain⟨I,O⟩: ∃x,x=c.heap.size:=⟨_,rfl⟩;rw[<-O] at S⊢;have ee:c.heap.size<=I:=(by omega);obtain⟨G9,N⟩: ∃x,x=u.heap.size:=⟨_,rfl⟩;rw[<-N];clear O N)
   |(have K:c.heap.size<=P.heap.size:=(by omega);have g: ∀b,((((z1<=b/\b < y1)\/(z2<=b/\b < y2)\/(z3<=b/\b < y3)\/(z4<=b/\b < y4)\/b=u.heap.size)\/z5<=b/\b < y5)/\b < L.heap.size)->b≠P.heap.size/\c.heap.size<=b:=(fun b l=> by omega);obtain⟨r,s⟩: ∃x,x=((L.setCell ⟨P.heap.size,0,none⟩ (j0 E)).setCell ⟨P.heap.size,1,none⟩ (j0 F)).setCell ⟨P.heap.size,2,none⟩ (.slice G C D):=⟨_,rfl⟩;have Z:Ext c r:=(by rw[s];exact((H5.setCell (p:=⟨P.heap.size,0,none⟩) K _).setCell (p:=⟨P.heap.size,1,none⟩) K _).setCell (p:=⟨P.heap.size,2,none⟩) K _);have S:r.heap[P.heap.size]? =some (D0 E F G C D):=(by rw[s];exact b6 (b6 (b6 jv 0 (j0 E)) 1 (j0 F)) 2 (.slice G C D));have Rn:New c r (.mk 9 0 [.mk k0 n0 a6,.mk k1 n1 q16,.mk k2 n2 y17,.mk T X j37]) (m0 E F G C D):=(by rw[s];exact InT.mono (fun b l=>⟨(g b l).2,by simp only[fO];exact l.2⟩) (fun b l=> by have z:=(g b l).1;rw[aM _ _ _ _ z,aM _ _ _ _ z,aM _ _ _ _ z]) B5);rw[<-s];clear s;obtain⟨I,O⟩: ∃x,x=P.heap.size:=⟨_,rfl⟩;rw[<-O] at S⊢;have ee:c.heap.size<=I:=(by omega);obtain⟨G9,N⟩: ∃x,x=u.heap.size:=⟨_,rfl⟩;rw[<-N];clear O N)
   |(have K:c.heap.size<=U.heap.size:=(by omega);have g: ∀b,((((z1<=b/\b < y1)\/(z2<=b/\b < y2)\/(z3<=b/\b < y3)\/(z4<=b/\b < y4)\/b=u.heap.size)\/z5<=b/\b < y5)/\b < L.heap.size)->b≠U.heap.size/\c.heap.size<=b:=(fun b l=> by omega);obtain⟨r,s⟩: ∃x,x=((L.setCell ⟨U.heap.size,0,none⟩ (j0 E)).setCell ⟨U.heap.size,1,none⟩ (j0 F)).setCell ⟨U.heap.size,2,none⟩ (.slice G C D):=⟨_,rfl⟩;have Z:Ext c r:=(by rw[s];exact((H5.setCell (p:=⟨U.heap.size,0,none⟩) K _).setCell (p:=⟨U.heap.size,1,none⟩) K _).setCell (p:=⟨U.heap.size,2,none⟩) K _);have S:r.heap[U.heap.size]? =some (D0 E F G C D):=(by rw[s];exact b6 (b6 (b6 jv 0 (j0 E)) 1 (j0 F)) 2 (.slice G C D));have Rn:New c r (.mk 9 0 [.mk k0 n0 a6,.mk k1 n1 q16,.mk k2 n2 y17,.mk T X j37]) (m0 E F G C D):=(by rw[s];exact InT.mono (fun b l=>⟨(g b l).2,by simp only[fO];exact l.2⟩) (fun b l=> by have z:=(g b l).1;rw[aM _ _ _ _ z,aM _ _ _ _ z,aM _ _ _ _ z]) B5);rw[<-s];clear s;obtain⟨I,O⟩: ∃x,x=U.heap.size:=⟨_,rfl⟩;rw[<-O] at S⊢;have ee:c.heap.size<=I:=(by omega);obtain⟨G9,N⟩: ∃x,x=u.heap.size:=⟨_,rfl⟩;rw[<-N];clear O N)
   |(have K:c.heap.size<=V.heap.size:=(by omega);have g: ∀b,((((z1<=b/\b < y1)\/(z2<=b/\b < y2)\/(z3<=b/\b < y3)\/(z4<=b/\b < y4)\/b=u.heap.size)\/z5<=b/\b < y5)/\b < L.heap.size)->b≠V.heap.size/\c.heap.size<=b:=(fun b l=> by omega);obtain⟨r,s⟩: ∃x,x=((L.setCell ⟨V.heap.size,0,none⟩ (j0 E)).setCell ⟨V.heap.size,1,none⟩ (j0 F)).setCell ⟨V.heap.size,2,none⟩ (.slice G C D):=⟨_,rfl⟩;have Z:Ext c r:=(by rw[s];exact((H5.setCell (p:=⟨V.heap.size,0,none⟩) K _).setCell (p:=⟨V.heap.size,1,none⟩) K _).setCell (p:=⟨V.heap.size,2,none⟩) K _);have S:r.heap[V.heap.size]? =some (D0 E F G C D):=(by rw[s];exact b6 (b6 (b6 jv 0 (j0 E)) 1 (j0 F)) 2 (.slice G C D));have Rn:New c r (.mk 9 0 [.mk k0 n0 a6,.mk k1 n1 q16,.mk k2 n2 y17,.mk T X j37]) (m0 E F G C D):=(by rw[s];exact InT.mono (fun b l=>⟨(g b l).2,by simp only[fO];exact l.2⟩) (fun b l=> by have z:=(g b l).1;rw[aM _ _ _ _ z,aM _ _ _ _ z,aM _ _ _ _ z]) B5);rw[<-s];clear s;obtain⟨I,O⟩: ∃x,x=V.heap.size:=⟨_,rfl⟩;rw[<-O] at S⊢;have ee:c.heap.size<=I:=(by omega);obtain⟨G9,N⟩: ∃x,x=u.heap.size:=⟨_,rfl⟩;rw[<-N];clear O N)
   |(have K:c.heap.size<=u.heap.size:=(by omega);have g: ∀b,((((z1<=b/\b < y1)\/(z2<=b/\b < y2)\/(z3<=b/\b < y3)\/(z4<=b/\b < y4)\/b=u.heap.size+1)\/z5<=b/\b < y5)/\b < L.heap.size)->b≠u.heap.size/\c.heap.size<=b:=(fun b l=> by omega);obtain⟨r,s⟩: ∃x,x=((L.setCell ⟨u.heap.size,0,none⟩ (j0 E)).setCell ⟨u.heap.size,1,none⟩ (j0 F)).setCell ⟨u.heap.size,2,none⟩ (.slice G C D):=⟨_,rfl⟩;have Z:Ext c r:=(by rw[s];exact((H5.setCell (p:=⟨u.heap.size,0,none⟩) K _).setCell (p:=⟨u.heap.size,1,none⟩) K _).setCell (p:=⟨u.heap.size,2,none⟩) K _);have S:r.heap[u.heap.size]? =some (D0 E F G C D):=(by rw[s];exact b6 (b6 (b6 jv 0 (j0 E)) 1 (j0 F)) 2 (.slice G C D));have Rn:New c r (.mk 9 0 [.mk k0 n0 a6,.mk k1 n1 q16,.mk k2 n2 y17,.mk T X j37]) (m0 E F G C D):=(by rw[s];exact InT.mono (fun b l=>⟨(g b l).2,by simp only[fO];exact l.2⟩) (fun b l=> by have z:=(g b l).1;rw[aM _ _ _ _ z,aM _ _ _ _ z,aM _ _ _ _ z]) B5);rw[<-s];clear s;obtain⟨G9,N⟩: ∃x,x=u.heap.size+1:=⟨_,rfl⟩;rw[<-N];obtain⟨I,O⟩: ∃x,x=u.heap.size:=⟨_,rfl⟩;rw[<-O] at S⊢;have ee:c.heap.size<=I:=(by omega);clear O N)
   |(have K:c.heap.size<=(u.heap.size+1):=(by omega);have g: ∀b,((((z1<=b/\b < y1)\/(z2<=b/\b < y2)\/(z3<=b/\b < y3)\/(z4<=b/\b < y4)\/b=u.heap.size)\/z5<=b/\b < y5)/\b < L.heap.size)->b≠(u.heap.size+1)/\c.heap.size<=b:=(fun b l=> by omega);obtain⟨r,s⟩: ∃x,x=((L.setCell ⟨(u.heap.size+1),0,none⟩ (j0 E)).setCell ⟨(u.heap.size+1),1,none⟩ (j0 F)).setCell ⟨(u.heap.size+1),2,none⟩ (.slice G C D):=⟨_,rfl⟩;have Z:Ext c r:=(by rw[s];exact((H5.setCell (p:=⟨(u.heap.size+1),0,none⟩) K _).setCell (p:=⟨(u.heap.size+1),1,none⟩) K _).setCell (p:=⟨(u.heap.size+1),2,none⟩) K _);have S:r.heap[(u.heap.size+1)]? =some (D0 E F G C D):=(by rw[s];exact b6 (b6 (b6 jv 0 (j0 E)) 1 (j0 F)) 2 (.slice G C D));have Rn:New c r (.mk 9 0 [.mk k0 n0 a6,.mk k1 n1 q16,.mk k2 n2 y17,.mk T X j37]) (m0 E F G C D):=(by rw[s];exact InT.mono (fun b l=>⟨(g b l).2,by simp only[fO];exact l.2⟩) (fun b l=> by have z:=(g b l).1;rw[aM _ _ _ _ z,aM _ _ _ _ z,aM _ _ _ _ z]) B5);rw[<-s];clear s;obtain⟨I,O⟩: ∃x,x=(u.heap.size+1):=⟨_,rfl⟩;rw[<-O] at S⊢;have ee:c.heap.size<=I:=(by omega);obtain⟨G9,N⟩: ∃x,x=u.heap.size:=⟨_,rfl⟩;rw[<-N];clear O N)
   |(have g: ∀b,((((z1<=b/\b < y1)\/(z2<=b/\b < y2)\/(z3<=b/\b < y3)\/(z4<=b/\b < y4)\/b=u.heap.size)\/z5<=b/\b < y5)/\b < L.heap.size)->c.heap.size<=b:=(fun b l=> by omega);obtain⟨r,s⟩: ∃x,x=L.alloc (D0 E F G C D):=⟨_,rfl⟩;have Z:Ext c r:=(by rw[s];exact H5.alloc _);have S:r.heap[L.heap.size]? =some (D0 E F G C D):=(by rw[s];exact aT L _);have Rn:New c r (.mk 9 0 [.mk k0 n0 a6,.mk k1 n1 q16,.mk k2 n2 y17,.mk T X j37]) (m0 E F G C D):=(by rw[s];exact InT.mono (fun b l=>⟨g b l,by have z:=l.2;simp;omega⟩) (fun b l=>((xr L).alloc _).heap b l.2) B5);rw[<-s];clear s;obtain⟨I,O⟩: ∃x,x=L.heap.size:=⟨_,rfl⟩;rw[<-O] at S⊢;have ee:c.heap.size<=I:=(by omega);obtain⟨G9,N⟩: ∃x,x=u.heap.size:=⟨_,rfl⟩;rw[<-N];clear O N))
  all_goals(try clear s0 s1 s2 f0 f1 f2)
  all_goals clear B5 hM1 M8 Ec Bg hM5 jv Es Gf Ex Fo h5
  all_goals rename_i ni
  all_goals clear ni
  all_goals revert Rn
  all_goals revert S
  all_goals revert Z
  all_goals revert ee
  all_goals revert I
  all_goals revert r
  all_goals revert G9
  all_goals revert D
  all_goals revert C
  all_goals revert G
  all_goals revert F
  all_goals revert E
  all_goals revert p45
  all_goals revert p44
  all_goals revert p43
  all_goals revert p42
  all_goals revert p41
  all_goals revert p35
  all_goals revert p34
  all_goals revert p33
  all_goals revert p32
  all_goals revert p31
  all_goals revert p25
  all_goals revert Gv
  all_goals revert Gh
  all_goals revert Fy
  all_goals revert Ey
  all_goals revert Gi
  all_goals revert Fx
  all_goals revert Gs
  all_goals revert Gt
  all_goals revert Eu
  all_goals exact REST.out
 case k=>
  intro Eu Gt Gs Fx Gi Ey Fy Gh Gv p25 p31 p32 p33 p34 p35 p41 p42 p43 p44 p45 E F G C D G9 r I ee Z S Rn;have C8:I < r.heap.size:=D1 S;obtain⟨y0,y1,y2,-,-,-⟩:=own3 S;have Ef:=Z.blk Cj;have Bb:=Z.size;have rr:=hdq (show∀d:aN,(∀y,y < r.heap.size->y≠w.heap.size+1->d.heap[y]? =r.heap[y]?)->d.cell? ⟨w.heap.size,2,none⟩=some (.slice (some ⟨H,o0,none⟩) B.length cap)/\d.cell? ⟨H,o0+6,none⟩=some (j0 k2)/\d.cell? ⟨H,o0+7,none⟩=some (j0 n2)/\d.cell? ⟨H,o0+8,none⟩=some (.slice A2 y17.length G5)/\d.cell? ⟨wr.heap.size,0,none⟩=some (j0 T)/\d.cell? ⟨wr.heap.size,1,none⟩=some (j0 X)/\d.cell? ⟨wr.heap.size,2,none⟩=some (.slice A4 j37.length S7)/\d.cell? ⟨I,0,none⟩=some (j0 E)/\d.cell? ⟨I,1,none⟩=some (j0 F)/\d.cell? ⟨I,2,none⟩=some (.slice G C D) from fun d hw=> by
   obtain⟨r1,r2,r3,r4,r5,r6,r7,r8,r9,r10,r11,r12,r13⟩:=M.out r Z d (fun y m h2=> hw y (by omega) h2);have f: ∀(j:Nat) (x:aU),r.cell? ⟨I,j,none⟩=some x->d.cell? ⟨I,j,none⟩=some x:=fun j x h3=>(eN (a:=⟨I,j,none⟩) (hw I C8 (by omega))).trans h3
   exact⟨r1,r8,r9,r10,r11,r12,r13,f _ _ y0,f _ _ y1,f _ _ y2⟩)
  have X7:Ext r r.drew:=(xr r).drew;have L27:=L2.ext Z;have L47:=L4.ext Z;have HE7:=hdq (Y.trans Z);clear y0 y1 y2 M Cj L0 L1 L2 L4;go_wp2_with fail
  go_region_held3 (fun d=> d.cell? ⟨w.heap.size,2,none⟩=some (.slice (some ⟨H,o0,none⟩) B.length cap)/\d.cell? ⟨H,o0+6,none⟩=some (j0 k2)/\d.cell? ⟨H,o0+7,none⟩=some (j0 n2)/\d.cell? ⟨H,o0+8,none⟩=some (.slice A2 y17.length G5)/\d.cell? ⟨wr.heap.size,0,none⟩=some (j0 T)/\d.cell? ⟨wr.heap.size,1,none⟩=some (j0 X)/\d.cell? ⟨wr.heap.size,2,none⟩=some (.slice A4 j37.length S7)/\d.cell? ⟨I,0,none⟩=some (j0 E)/\d.cell? ⟨I,1,none⟩=some (j0 F)/\d.cell? ⟨I,2,none⟩=some (.slice G C D))
   (first|exact rr.out _ (fun y m h2=> by rw[aM _ _ _ _ h2,aM _ _ _ _ h2,aM _ _ _ _ h2];exact Gj.heap y m) |exact rr.out _ (fun y m _=> by with_reducible exact Ext.heap (Gj) y m) |exact rr.out _ (fun y m _=> by with_reducible exact Ext.heap (Fa.alloc _) y m) |exact rr.out _ (fun y m _=> by with_reducible exact Ext.heap (Fa) y m) |exact rr.out _ (fun y m _=> by with_reducible exact Ext.heap (H9.alloc _) y m) |exact rr.out _ (fun y m _=> by with_reducible exact Ext.heap (H9) y m) |exact rr.out _ (fun y m _=> by with_reducible exact Ext.heap (H8) y m) |exact rr.out _ (fun y m _=> by with_reducible exact Ext.heap (X7) y m))
   (first|(go_at_call 60;(with_reducible show aY _ _ #[j0 5,.slice (some ⟨S6.heap.size,0,none⟩) 2 2] _ _);refine(Uj (Ah.later ((xr S6).alloc _)) (InT.later Rn (Fa.alloc _)) (aT S6 _)).mono ?_;rintro e Y4 ⟨a1,a2,a3,a4,a5,z11,y11,rfl,Az,h11,My,hy11⟩;have Gj:Ext r Y4:=(Fa.alloc _).trans h11;obtain⟨s0,s1,s2,f0,f1,f2⟩:=own3 (Gj.blk Ef)) |(go_at_call 60;(with_reducible show aY _ _ #[j0 5,.slice (some ⟨w9.heap.size,0,none⟩) 2 2] _ _);refine(Uj (Di.later (z.alloc _)) (Df.later ((xr w9).alloc _)) (aT w9 _)).mono ?_;rintro e S6 ⟨e1,e2,e3,e4,e5,z10,y10,rfl,Ah,h10,Ml,hy10⟩;have Fa:Ext r S6:=(H9.alloc _).trans h10) |(go_at_call_of 46 A4;refine(Ou _ _ _ (L47.ext H8) (by omega)).mono ?_;rintro e w9 ⟨Ey,Fy,Gh,Gv,p25,z9,y9,rfl,Df,z,hz9,hy9⟩;have H9:Ext r w9:=H8.trans z) |(go_at_call_of 46 A2;refine(Ou _ _ _ (L27.ext X7) (by omega)).mono ?_;rintro e w8 ⟨Eu,Gt,Gs,Fx,Gi,z8,y8,rfl,Di,h8,hz8,hy8⟩;have H8:Ext r w8:=X7.trans h8))
  have t8:=H8.size;have t9:=z.size;have t10:=h10.size;have t11:=h11.size;simp at hz8 hz9 Ml My
  simp at t10 t11
  have Ld:=hdq Az.bound;have HX:=hdq (HE7.out.trans Gj);clear Ef S Rn rr Di Df Ah Az;go_wp2_with fail;refine aQ (v:= m0 a1 a2 a3 a4 a5) (by simp[results,results171,go_sem,s0,s1,s2]) rfl ⟨_,rfl, ?_, ?_⟩
  · refine InT.mono ?ca ?cb Ld.out
    case ca=> exact fun b l=> by have h8:=l.1;have z:=l.2;simp only[fO];exact⟨by omega,z⟩
    case cb=>
     intro b l;have g:b≠w.heap.size+1:=by have z:=l.1;omega
     rw[aM _ _ _ _ g,aM _ _ _ _ g,aM _ _ _ _ g]
  · exact((HX.out.setCell (p:=⟨w.heap.size+1,0,none⟩) (by show w.heap.size<=w.heap.size+1;omega) _).setCell (p:=⟨w.heap.size+1,1,none⟩) (by show w.heap.size<=w.heap.size+1;omega) _).setCell (p:=⟨w.heap.size+1,2,none⟩) (by show w.heap.size<=w.heap.size+1;omega) _
theorem rL(t:Tr)(hv:valid sigT t=true)(hr:Xf t=true)(w:aN)(v:aU)(a:Lies w t v):aY prog 171 #[v] w (Yv w (ctrT t)):=by
 obtain⟨k,n,b⟩:=t;obtain⟨A,cap,rfl,hl,hc,hK⟩:=Lies.mk_iff.1 a;have f: ∀{t:Tr} {e:Ending} {c:aN},Ui w t e c->Yv w t e c:=fun⟨r,i,g,d⟩=>⟨r,i,g.inT,d⟩
 rcases Pm (Bx.1 hr) with⟨rfl,h⟩ |⟨rfl,h⟩ |⟨rfl,h⟩ |⟨rfl,h⟩ |⟨rfl,h⟩ |⟨rfl,h⟩
 · exact(pp n b hv w A cap a hK hl hc h).mono fun _ _=> f
 · exact(ys n b hv w A cap a hK hl hc h).mono fun _ _=> f
 · exact Uo n b hv w A cap a hK hl hc h
 · exact(Ws n b hv w A cap a hK hl hc h).mono fun _ _=> f
 · exact(ip n b hv w A cap a hK hl hc h).mono fun _ _=> f
 · exact(Lo n b hv w A cap a hK hl hc h).mono fun _ _=> f
theorem zH(t:Tr)(hv:valid sigT t=true)(hr:Xf t=true)(w:aN)(v:aU)(a:Lies w t v):aY prog 173 #[v] w (Sg w (ctrT t)):=by
 obtain⟨k,n,b⟩:=t;obtain⟨A,cap,rfl,hl,hc,hK⟩:=Lies.mk_iff.1 a;rcases Pm (Bx.1 hr) with⟨rfl,h⟩ |⟨rfl,h⟩ |⟨rfl,h⟩ |⟨rfl,h⟩ |⟨rfl,h⟩ |⟨rfl,h⟩
 · exact FG n b hv w A cap a hK hl hc h
 · exact bG n b hv w A cap a hK hl hc h
 · exact YJ n b hv w A cap a hK hl hc h
 · exact NH n b hv w A cap a hK hl hc h
 · exact KH n b hv w A cap a hK hl hc h
 · exact oH n b hv w A cap a hK hl hc h
theorem Ly(t:Tr)(path:List Int)(u:Tr)(H:Qa t path=some u)(w:aN)(v:aU)(P:Lies w t v)(A:Option Addr)(cap:Nat)(hl:path.length<=cap)(hc:cap<=aW)(hP:Xb w A path):
 aY prog 174 #[v,.slice A path.length cap] w fun e R=> ∃x,e= .returned x/\Lies R u x/\Ext w R:=by
 obtain⟨k,n,C⟩:=t;obtain⟨At,ct,rfl,F,l9,Cr⟩:=Lies.mk_iff.1 P;have E:=hc;unfold aW at E;have c:=((xr w).alloc (D0 k n At C.length ct)).alloc M0;obtain⟨d,l,G⟩:=blk2 (xr ((w.alloc (D0 k n At C.length ct)).alloc M0));clear P;go_enter func174,ntmps174;go_wp2_with fail;generalize aO (aO w _) _=wS at c d l G⊢
 go_loopw [9] (fun i wr=> ∃(j:Nat) (g q:Int) (kids:List Tr) (y:Option Addr) (r:Nat),j<=path.length/\i= j0 j/\
  Hid (Qa (.mk g q kids) (path.drop j)=some u)/\kids.length<=r/\r<=aW/\V8 w y kids/\
  wr.heap[w.heap.size]? =some (D0 g q y kids.length r)/\wr.heap[w.heap.size+1]? =some M0/\Ext w wr) (fun i _=> path.length -(intOf i).toNat)
 case atStart=> exact⟨0,k,n,C,At,ct,Nat.zero_le _,rfl,hdq H,F,l9,Cr,d,l,c⟩
 case round=>
  obtain⟨j,g,q,kids,y,r,hj,rfl,z,I7,J,hK,S,B,hx⟩:=hrel;have hsz:w.heap.size+1 < wr.heap.size:=D1 B;obtain⟨z0,z1,z2,f0,f1,f2⟩:=own3 S;obtain⟨y0,y1,W,g0,g1,g2⟩:=own3 B;by_cases U:j < path.length
  · obtain⟨bp,op,rfl,Y⟩:=hP.get hx U
    have f:path.drop j=path[j]::path.drop (j+1):=List.drop_eq_getElem_cons U;have a:=z.out;rw[f,IG] at a;clear z f;generalize path[j]=i at Y a;have qu:(j:Int) <(path.length:Int):=by omega
    have km:(0:Int)<=(j:Int):=Int.natCast_nonneg _;have s:0<=i/\i <(kids.length:Int):=by
     split at a
     · assumption
     · cases a
    rw[if_pos s] at a;obtain⟨m,rfl⟩:=Int.eq_ofNat_of_zero_le s.1;have hm:m < kids.length:=by omega
    have M:((m:Int)).toNat=m:=by omega
    rw[M] at a;obtain⟨b,o,L,Q,A2,c2,y17,rfl,O,N,V,T,ic,X,D,S9,Z⟩:=hK.get (xr w) hm;have K:kd kids m= .mk L Q y17:=Pe hm O.out;rw[K] at a;have I:=hdq a;have hm2:(m:Int) <(kids.length:Int):=s.2;have hm0:(0:Int)<=(m:Int):=s.1;have c0:=hx.cell N;have c1:=hx.cell V;have Jk:=hx.cell T;clear K O Z s M N V T a;have af:=J;unfold aW at af;go_wp2_with fail
    go_roundw
    case rel=> exact⟨j+1,L,Q,y17,A2,c2,by omega,by go_num,I,ic,X,D,b6 (b6 (b6 S 0 _) 1 _) 2 _,fe (fe (fe B (by simp) _) (by simp) _) (by simp) _,((hx.setCell (by simp) _).setCell (by simp) _).setCell (by simp) _⟩
    case measure=> simp[intOf];omega
  · have p:path.drop j= []:=List.drop_of_length_le (by omega)
    have a:=z.out;rw[p] at a;have HU:(.mk g q kids:Tr)=u:=by simpa[Qa] using a
    clear z a p;go_wp2_with fail;refine aQ (v:= m0 g q y kids.length r) (by simp[results,results174,go_sem,y0,y1,W]) rfl ⟨_,rfl, ?_, ?_⟩
    · rw[<-HU]
      exact Lies.mk I7 J (hK.ext (((hx.setCell (by simp) _).setCell (by simp) _).setCell (by simp) _))
    · exact(((hx.setCell (by simp) _).setCell (by simp) _).setCell (by simp) _)
theorem SK(t:Tr)(p:List Int)(hv:valid sigT t=true)(hr:Yb t p=true)(w:aN)(v:aU)(d6:Lies w t v)(A:Option Addr)(n cap:Nat)(g:pm w A n cap p)(hn:n<=1000):
 aY prog 132 #[v,.slice A n cap] w fun e F=> ∃r,e= .returned (.tuple #[r,.bool (Ue t p).2])/\W0 w F 25 (Ue t p).1 r/\Ext w F:=by
 obtain⟨u,d,G⟩:=Rw hr;have ko:=IC hv d;have L:conA t p=M9 t p (ctrT u):=by unfold conA;rw[d]
 have l:=hdq (fun W (m:Ext w W)=> by
  have:=Ly t p u d W v (d6.ext m) A cap (by rw[g.hn];exact g.hl) g.hc (g.hP.ext m);rw[g.hn] at this;exact this)
 have im:=hdq (fun W x (hx:Lies W u x)=> zH u ko G W x hx);have J:=hdq (fun W (m:Ext w W) x (hx:Lies W (ctrT u) x)=> ms p t (ctrT u) 30 (jj hv).2 (by rw[d];rfl) W v x (fun b=> b < W.heap.size) (fun _ h=> h) (d6.ext m) hx A n cap (g.ext m) hn (by have:=(jj hv).1;omega));have M:valid sigT (ctrT u)=true->cnt (M9 t p (ctrT u))<=1000000:=fun h=> by
  have C:=pF p t (ctrT u) u d;have I:=(jj h).1;have P:=(jj hv).1;omega
 have D:=MK (t:=t) d;have o:(Ue t p).1=okT (M9 t p (ctrT u)):=by unfold Ue okT;rw[L];split <;> rfl
 have H:(Ue t p).2=valid sigT (M9 t p (ctrT u)):=by
  unfold Ue;rw[L];split
  · rename_i h;exact h.symm
  · rename_i h;exact(Bool.eq_false_iff.2 h).symm
 rw[L] at D;rw[o,H];clear o H L d G hr ko;generalize M9 t p (ctrT u)=X at J M D⊢;generalize ctrT u=c at im J M D;obtain⟨k,U,V⟩:=t;obtain⟨At,ct,rfl,-,-,-⟩:=Lies.mk_iff.1 d6;have a:=((xr w).alloc (D0 k U At V.length ct)).alloc M0;obtain⟨j,f,hs2⟩:=blk2 (xr ((w.alloc (D0 k U At V.length ct)).alloc M0));obtain⟨wS,B⟩: ∃x,x=(w.alloc (D0 k U At V.length ct)).alloc M0:=⟨_,rfl⟩;rw[<-B] at a j f hs2;obtain⟨z,q⟩: ∃z,valid sigT c=z:=⟨_,rfl⟩;have S:=hdq (show∀W x,Lies W u x->aY prog 173 #[x] W fun e F=> ∃r,e= .returned (.tuple #[r,.bool z])/\W0 W F 25 (okT c) r/\Ext W F from fun W x hx=> q▸im.out W x hx);clear im;have Lr:=hdq (show z=true->okT c=c from fun h=> by unfold okT;rw[if_pos (q.trans h)]);have O:=hdq (show z=false->valid sigT X=false from fun h=> Bool.eq_false_iff.2 fun h'=> by have:=D h';rw[q,h] at this;cases this);have Cq:=hdq (show z=true->cnt X<=1000000 from fun h=> M (q.trans h));clear q M D;cases z with
 |false=>
  have i:=O.out rfl;have E3:okT X=D2:=by unfold okT;rw[if_neg (by rw[i];decide)]
  rw[i,E3];clear O Lr Cq i E3 J;go_enter func132,ntmps132;go_wp2_with fail;rw[<-B];clear B;refine(l.out _ a).mono ?_;rintro e w1 ⟨x,rfl,N,C⟩;go_wp2_with fail;refine(S.out _ _ N).mono ?_;rintro e w2 ⟨r,rfl,s,I⟩;obtain⟨a1,Z,T,a4,Y,rfl⟩:=s.three';obtain⟨s0,s1,Q,f0,f1,f2⟩:=own3 (((C.trans I).trans ((xr w2).alloc (D0 a1 Z T a4 Y))).blk f);go_wp2_with fail;refine aQ (v:= .tuple #[m0 0 0 none 0 0,.bool false]) (by simp[results,results132,go_sem,s0,s1,Q]) rfl ⟨_,rfl,W0.leaf _ _ _ 0 0, ?_⟩;exact((((((a.trans C).trans I).alloc _).setCell (by simp) _).setCell (by simp) _).setCell (by simp) _)
 |true=>
  have i:=Lr.out rfl;have HC:=Cq.out rfl;rw[i] at S;clear O Lr Cq i;go_enter func132,ntmps132;go_wp2_with fail;rw[<-B];clear B;refine(l.out _ a).mono ?_;rintro e w1 ⟨x,rfl,N,C⟩;go_wp2_with fail;refine(S.out _ _ N).mono ?_;rintro e w2 ⟨r,rfl,s,I⟩;obtain⟨a1,Z,T,a4,Y,rfl⟩:=s.three';have P:=(xr w2).alloc (D0 a1 Z T a4 Y);have K:=(C.trans I).trans P;obtain⟨z0,z1,z2,-,-,-⟩:=own3 (K.blk j);have E:=s.lies.ext P;clear s N;go_wp2_with fail;refine(J.out _ (a.trans K) _ E).mono ?_;rintro e w4 ⟨y,rfl,hY,R⟩;have hLY:Lies w4 X y:=InT.mono (fun b hb=> by rcases hb with h|h;exact Nat.lt_of_lt_of_le h R.size;exact h.2) (fun _ _=> rfl) hY;clear hY E;go_wp2_with fail;refine(Oi _ _ _ hLY HC).mono ?_;rintro e w5 ⟨yo,rfl,zw,h5⟩;go_wp2_with fail;refine(fA zw).mono ?_;rintro e w6 ⟨b1,b2,b3,b4,b5,rfl,hM6,h6⟩;have D5:=((K.trans R).trans h5).trans h6;obtain⟨s0,s1,Q,f0,f1,f2⟩:=own3 (D5.blk f);have hw4:w.heap.size+2<=w4.heap.size:=by have:=a.size;have:=(K.trans R).size;omega
  go_wp2_with fail;refine aQ (v:= .tuple #[m0 b1 b2 b3 b4 b5,.bool (valid sigT X)]) (by simp[results,results132,go_sem,s0,s1,Q]) rfl ⟨_,rfl,W0.since (hM6.after ((((Ua.refl _ _).setCell (p:=⟨w.heap.size+1,0,none⟩) (by show w.heap.size+1 < _;omega) (j0 b1)).setCell (p:=⟨w.heap.size+1,1,none⟩) (by show w.heap.size+1 < _;omega) (j0 b2)).setCell (p:=⟨w.heap.size+1,2,none⟩) (by show w.heap.size+1 < _;omega) (.slice b3 b4 b5))) (by omega), ?_⟩;exact((((a.trans D5).setCell (by simp) _).setCell (by simp) _).setCell (by simp) _)
