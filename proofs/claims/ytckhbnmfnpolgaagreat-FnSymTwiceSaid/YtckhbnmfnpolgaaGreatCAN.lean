/-
  Lemmas towards the law, 14: Shf, Parse4, Places.
-/
import Derived.Test.YtckhbnmfnpolgaaGreatC00
import Derived.Test.YtckhbnmfnpolgaaGreatCAM
import Derived.Lib.SliceRun
open Go renaming World->aL,Value->aT,Calls->aX,bodyPost_ret->aP,results->aR
open Go.RowKit.Below renaming heap_setCell->aM
open Go.Proofs.Tryz
set_option linter.all false
set_option maxHeartbeats 1000000
set_option maxRecDepth 100000
namespace Go.Proofs.YtckhbnmfnpolgaaGreat
open Go.RowKit
theorem D1.setNew{L:List Nat}{a w:aL}(h:D1 L a w){p:Addr}(b:a.heap.size<=p.block)(u:aT):D1 L a (w.setCell p u):=
 ⟨h.os,h.tape,h.output,by simpa using h.size,fun i hi hn=>(aM w p u i (by omega)).trans (h.block i hi hn)⟩
theorem D1.blk{L:List Nat}{a w:aL}{g:Nat}{o:Obj}(h:D1 L a w)(b:a.heap[g]? =some o)(hn: ¬g∈L):w.heap[g]? =some o:=(h.block g (O1 b) hn).trans b
theorem fC(n:Int)(w:aL):aX prog 58 #[m0 n] w fun e a=> e= .returned (M0 1 n none 0 0)/\Ext w a:=by
 go_enter func58,ntmps58;go_wp2_with fail;exact aP (v:= M0 1 n none 0 0) (by simp[aR,results58,go_sem]) rfl ⟨rfl,(xr w).alloc _⟩
theorem Lw(k n:Int)(a:List Tr)(A:Option Addr)(cap:Nat)(w:aL)(o:Lies w (.mk k n a) (M0 k n A a.length cap)):
 aX prog 137 #[M0 k n A a.length cap] w fun e m=>(if j0 D0 (.mk k n a)=true then e= .returned (.tuple #[M0 k n A a.length cap,.bool true]) else e= .returned (.tuple #[M0 0 0 none 0 0,.bool false]))/\Ext w m:=by
 have c:=hdq (fun W (l:Ext w W)=> ro _ W _ (o.ext l));generalize j0 D0 (.mk k n a)=s at c⊢;have hE:=((xr w).alloc (H0 k n A a.length cap)).alloc (H0 0 0 none 0 0);obtain⟨j,i,u⟩:=blk2 (xr ((w.alloc (H0 k n A a.length cap)).alloc (H0 0 0 none 0 0)));cases s with
 |true=>
  simp only[if_true];go_enter func137,ntmps137;go_wp2_with fail;refine(c.out _ hE).mono ?_;rintro e q ⟨rfl,b⟩;obtain⟨x,z,y,-,-,-⟩:=own3 (b.blk j);obtain⟨f,g,d,t,r,p⟩:=own3 (b.blk i);go_wp2_with fail;exact aP (v:= .tuple #[M0 k n A a.length cap,.bool true]) (by simp[aR,results137,go_sem,f,g,d]) rfl ⟨rfl,((((hE.trans b).setCell (by simp) _).setCell (by simp) _).setCell (by simp) _)⟩
 |false=>
  simp only[Bool.false_eq_true,if_false];go_enter func137,ntmps137;go_wp2_with fail;refine(c.out _ hE).mono ?_;rintro e q ⟨rfl,b⟩;obtain⟨f,g,d,t,r,p⟩:=own3 (b.blk i);go_wp2_with fail;exact aP (v:= .tuple #[M0 0 0 none 0 0,.bool false]) (by simp[aR,results137,go_sem,f,g,d]) rfl ⟨rfl,((((hE.trans b).setCell (by simp) _).setCell (by simp) _).setCell (by simp) _)⟩
def dK(a d b B:Nat)(c y:Int)(w:aL)(s:Bool):Prop:=(a < B/\d < B/\b < B)/\w.heap[a]? =some (.cells #[.int .i64 c] 3 (0,0))/\w.heap[d]? =some (.cells #[.int .i64 y] 3 (0,0))/\w.heap[b]? =some (.cells #[.bool s] 4 (0,0))
theorem pv(a:aL)(q o d B:Nat)(c y:Int)(D:q≠d)(C:o≠d)(hy0:0<=y)(hy1:y<=1000)(U:0<=c)(X:c<=1000):Gk a q o d [d] (dK q o d B c y) (Ri y c) (hsh y c):=by
 intro w s n b ha M N7 Q8 L Q;obtain⟨I,l,k,i⟩:=M;have c1:=U1 l 0;have c2:=U1 k 0;have Z:=U1 i 0;have f3:=ib i 0;have l1:=O1 l;have l2:=O1 k;have l3:=O1 i;have E:=hdq l;have K:=hdq k;have F:=hdq i;clear l k i;have G:=hdq (fun m W=> fC m W);by_cases h:c<=n - b
 · have T:decide (c<=n - b)=true:=decide_eq_true h
   obtain⟨H,V⟩: ∃x,decide (c<=n+y - b)=x:=⟨_,rfl⟩;obtain⟨J,Y⟩: ∃x,decide (n+y<=20)=x:=⟨_,rfl⟩;have f:Ri y c n b= .mk 1 (n+y) []:=by unfold Ri;rw[if_pos h]
   have j:hsh y c n b=(H && J):=by unfold hsh;rw[if_pos h,V,Y]
   rw[f,j];clear f j h;cases s <;> cases H <;> cases J
   all_goals go_enter func136,ntmps136
   all_goals go_wp2_with fail
   all_goals(
    refine(G.out _ _).mono ?_;rintro e N ⟨rfl,f⟩;have g:=f.newBlk;simp only[World.size_setCell] at g;obtain⟨t,A,r,R,P,O⟩:=own3 g;have o1:=fun u=>(((D1.refl [d] w).setCell (p:=⟨d,0,none⟩) (by simp) u).alloc (H0 0 0 none 0 0))
    have o2:=(o1 _).trans (oE f);have S:=fun u=> N5 F.out 0 u
    have z:=f.blk ((Below.heap_alloc _ _ _ (by simp;omega)).trans (S _));clear g;go_wp2_with fail;refine aP (v:= M0 1 (n+y) none 0 0) (by simp[aR,results136,go_sem,t,A,r]) rfl ⟨_,rfl,W0.leaf _ _ _ _ _, ?_,I, ?_, ?_, ?_⟩
    · exact(((o2.setNew (by simp) _).setNew (by simp) _).setNew (by simp) _)
    · exact(((o2.setNew (by simp) _).setNew (by simp) _).setNew (by simp) _).blk E.out (by simpa using D)
    · exact(((o2.setNew (by simp) _).setNew (by simp) _).setNew (by simp) _).blk K.out (by simpa using C)
    · rw[aM _ _ _ _ (by show d≠w.heap.size;omega),aM _ _ _ _ (by show d≠w.heap.size;omega),aM _ _ _ _ (by show d≠w.heap.size;omega),z]
      rfl)
 · have T:decide (c<=n - b)=false:=decide_eq_false h
   have f:Ri y c n b= .mk 1 n []:=by unfold Ri;rw[if_neg h]
   have j:hsh y c n b=true:=by unfold hsh;rw[if_neg h]
   rw[f,j,Bool.and_true];clear f j h;go_enter func136,ntmps136;go_wp2_with fail;refine(G.out _ _).mono ?_;rintro e N ⟨rfl,f⟩;have g:=f.newBlk;obtain⟨t,A,r,R,P,O⟩:=own3 g;have o2:=((D1.refl [d] w).alloc (H0 0 0 none 0 0)).trans (oE f);have z:=(Ext.blk f.pre F.out);clear g;go_wp2_with fail;refine aP (v:= M0 1 n none 0 0) (by simp[aR,results136,go_sem,t,A,r]) rfl ⟨_,rfl,W0.leaf _ _ _ _ _, ?_,I, ?_, ?_, ?_⟩
   · exact(((o2.setNew (by simp) _).setNew (by simp) _).setNew (by simp) _)
   · exact(((o2.setNew (by simp) _).setNew (by simp) _).setNew (by simp) _).blk E.out (by simpa using D)
   · exact(((o2.setNew (by simp) _).setNew (by simp) _).setNew (by simp) _).blk K.out (by simpa using C)
   · rw[aM _ _ _ _ (by show d≠w.heap.size;omega),aM _ _ _ _ (by show d≠w.heap.size;omega),aM _ _ _ _ (by show d≠w.heap.size;omega),z]
def okT(t:Tr):Tr:=if j0 D0 t=true then t else j2
theorem Yy(t:Tr)(y c:Int)(w:aL)(v:aT)(b8:Lies w t v)(hv:j0 D0 t=true)(hy0:0<=y)(hy1:y<=1000)(T:0<=c)(hc1:c<=1000):
 aX prog 102 #[v,m0 y,m0 c] w fun e w'=> ∃u,e= .returned (.tuple #[u,.bool (j0 D0 (shfT y t c))])/\W0 w w' 25 (okT (shfT y t c)) u/\Ext w w':=by
 obtain⟨hs,C0⟩:=Z3 hv;obtain⟨d,m⟩:=QF (c:=c) hy0 hv;have wx:=fun W (hW:Ext w W) B D g (hp:w.heap.size<=g) (I6:B≠g) (oz:D≠g) (H:W.heap[B]? =some (.cells #[m0 c] 3 (0,0))) (F:W.heap[D]? =some (.cells #[m0 y] 3 (0,0))) (h3:W.heap[g]? =some (.cells #[.bool true] 4 (0,0)))=>
  BJ t w W v 0 30 B D g [g] W.heap.size (dK B D g W.heap.size c y) (Ri y c) (hsh y c) true hs b8 hW (fun x hx=> by rw[List.mem_singleton.1 hx];exact⟨hp,O1 h3⟩) (by omega) (by omega)
   (pv w B D g _ c y I6 oz hy0 hy1 T hc1) (fun I Z s h p=>⟨h.1,p.blk h.2.1,p.blk h.2.2.1,p.blk h.2.2.2⟩) (Nat.le_refl _) (fun I Z s h p hl=>⟨h.1,(p B h.1.1).trans h.2.1,(p D h.1.2.1).trans h.2.2.1,(p g h.1.2.2).trans h.2.2.2⟩) ⟨⟨O1 H,O1 F,O1 h3⟩,H,F,h3⟩
 rw[m] at d;simp only[m,Bool.true_and] at wx;have R:=hdq wx;clear wx m hs;obtain⟨U,i⟩: ∃U,U=j0 D0 (shfT y t c):=⟨_,rfl⟩;obtain⟨K,a⟩: ∃K,K=okT (shfT y t c):=⟨_,rfl⟩;rw[<-i,<-a];generalize shfT y t c=r at d R i a;generalize g8 (hsh y c) t 0=f at d R;obtain⟨k,n,M⟩:=t;obtain⟨A,cap,rfl,hl,hc,hK⟩:=Lies.mk_iff.1 b8;have hE:=((((xr w).alloc (H0 k n A M.length cap)).alloc (.cells #[m0 y] 3)).alloc (.cells #[m0 c] 3)).alloc (H0 0 0 none 0 0);have qz:=bn ((xr ((((w.alloc (H0 k n A M.length cap)).alloc (.cells #[m0 y] 3)).alloc (.cells #[m0 c] 3)).alloc (H0 0 0 none 0 0))).alloc (.cells #[.bool true] 4));have Q:=heap_alloc_new ((((w.alloc (H0 k n A M.length cap)).alloc (.cells #[m0 y] 3)).alloc (.cells #[m0 c] 3)).alloc (H0 0 0 none 0 0)) (.cells #[.bool true] 4);have X:=hE.alloc (.cells #[.bool true] 4);have hsz:(((((w.alloc (H0 k n A M.length cap)).alloc (.cells #[m0 y] 3)).alloc (.cells #[m0 c] 3)).alloc (H0 0 0 none 0 0)).alloc (.cells #[.bool true] 4)).heap.size=w.heap.size+1+1+1+1+1:=by simp
 obtain⟨G,o,j,l,-⟩:=qz;simp only[World.size_alloc] at Q;go_enter func102,ntmps102;go_wp2_with fail;generalize World.alloc _ _=wa at X G o j l Q hsz;clear hE;refine(R.out wa X _ _ _ (by omega) (by omega) (by omega) j o Q).mono ?_;rintro e I ⟨u,rfl,hM,ho,hI⟩;obtain⟨z,q,C⟩:=r;obtain⟨J,P,rfl,hl2,hc2,Kr⟩:=W0.mk_iff.1 hM;have O:=ho.blk l (by simp);have V:=hI.2.2.2;have hc5:=U1 V 0;have Iu:=O1 V;have Z2:=O1 O;have Lm:=ho.size;have Y:Ext w I:=ho.ext X (fun x hx=> by rw[List.mem_singleton.1 hx];omega);obtain⟨s0,s1,s2,f0,f1,f2⟩:=own3 O;clear R G o j l Q hI V;have hx:=(xr I).alloc (H0 z q J C.length P);cases f with
 |false=>
  rw[Bool.false_and] at d;have H:U=false:=by rw[i,<-d]
  have F:K=j2:=by rw[a];unfold okT;rw[<-d];rfl
  have N:=hdq H;have L:=hdq F;clear d i a H F;go_wp2_with fail;refine aP (v:= .tuple #[M0 0 0 none 0 0,.bool false]) (by simp[aR,results102,go_sem,s0,s1,s2,Z2]) rfl ⟨M0 0 0 none 0 0,by rw[N.out],by rw[L.out];exact W0.leaf _ _ _ _ _, ?_⟩;exact(((Y.setCell (by simp;omega) _).setCell (by simp;omega) _).setCell (by simp;omega) _).alloc _
 |true=>
  rw[Bool.true_and] at d;have HV:=hdq (fun W (hW:Ext I W)=> Lw z q C J P W (hM.lies.ext hW));generalize fj:j0 D0 (.mk z q C)=b at HV;have hO:K=if b=true then .mk z q C else j2:=by rw[a];unfold okT;rw[fj]
  rw[fj] at i;have N:=hdq i;have L:=hdq hO;clear hO d fj a i;go_wp2_with fail;refine(HV.out _ hx).mono ?_;cases b with
  |true=>
   simp only[if_true];rintro e Z ⟨rfl,E⟩;obtain⟨q0,q1,S,g0,g1,g2⟩:=own3 ((hx.trans E).blk O);go_wp2_with fail;refine aP (v:= .tuple #[M0 z q J C.length P,.bool true]) (by simp[aR,results102,go_sem,q0,q1,S]) rfl ⟨M0 z q J C.length P,by rw[N.out], ?_, ?_⟩
   · rw[L.out]
     simp only[if_true];exact W0.since (((hM.ext (hx.trans E)).after ((((ja.refl _ _).setCell (by simp;omega) _).setCell (by simp;omega) _).setCell (by simp;omega) _))) (by omega)
   · exact(((((Y.trans hx).trans E).setCell (by simp;omega) _).setCell (by simp;omega) _).setCell (by simp;omega) _)
  |false=>
   simp only[Bool.false_eq_true,if_false];rintro e Z ⟨rfl,E⟩;obtain⟨q0,q1,S,g0,g1,g2⟩:=own3 ((hx.trans E).blk O);go_wp2_with fail;refine aP (v:= .tuple #[M0 0 0 none 0 0,.bool false]) (by simp[aR,results102,go_sem,q0,q1,S]) rfl ⟨M0 0 0 none 0 0,by rw[N.out],by rw[L.out];exact W0.leaf _ _ _ _ _, ?_⟩;exact(((((Y.trans hx).trans E).setCell (by simp;omega) _).setCell (by simp;omega) _).setCell (by simp;omega) _)
theorem NE(d:Nat)(ih:ad d)(s:ByteArray)(a many:Nat)(last:UInt8)(A M L:Int)(hA:A=a)(b:M=many)(f:L=(last.toNat:Int))(w:aL)(hs:s.size<=1000000000)(e:a<=s.size+2)(hm:many<=4)(c:1<=many):
 aX prog 198 #[.string s,m0 A,m0 d,m0 M,.int .u8 L] w (GD w.heap.size w s.size (Re (Z5 d s.data.toList) s.data.toList last many a)):=by
 subst hA b f;exact qI d ih s a many last w hs e hm c
theorem qr(B:Nat)(w a:aL)(size:Nat)(o:Option (Tr×Nat))(b:o=none)(hx:Ext w a):Ya B w size o (.returned (.tuple #[M0 0 0 none 0 0,m0 (-1)])) a:=
 ⟨.mk 0 0 [],_,-1,rfl,Y1.leaf _ _ _ _,hx,(fun x hx=> by rw[b] at hx;cases hx),fun _=> rfl⟩
theorem xb.set{B:Nat}{w:aL}{A:Option Addr}{c:List Tr}(h:xb B w A c){p:Addr}(d:p.block < B)(u:aT):xb B (w.setCell p u) A c:=
 h.mono (fun b a=>⟨a.1,by simpa using a.2⟩) (fun b a=> aM w p u b (by omega))
theorem Y1.mk{B:Nat}{w:aL}{A:Option Addr}{a:List Tr}{cap:Nat}(k n:Int)(h:xb B w A a)(hl:a.length<=cap)(hc:cap<=maxLen):Y1 B w (.mk k n a) (M0 k n A a.length cap):=InT.mk_iff.2 ⟨A,cap,rfl,hl,hc,h⟩
theorem sH(d:Nat)(hd:d<=30)(ih:ad d)(s:ByteArray)(a:Nat)(w:aL)(hs:s.size<=1000000000)(G:a < s.size)(hc:s[a]=60):
 aX prog 195 #[.string s,m0 a,m0 ((d:Int)+1)] w (Ya w.heap.size w s.size (blk (Z5 d s.data.toList) s.data.toList a 60)):=by
 have f:=hdq (fun W=> NE d ih s (a+1) 4 62 ((a:Int)+1) 4 62 (by omega) (by omega) (by decide) W hs (by omega) (by omega) (by omega));obtain⟨F,hF⟩: ∃F,F=Z5 d s.data.toList:=⟨_,rfl⟩;rw[<-hF] at f⊢;obtain⟨S,hS⟩: ∃S,S=Re F s.data.toList 62 4 (a+1):=⟨_,rfl⟩;rw[<-hS] at f;have j:blk F s.data.toList a 60=S.map (fun x=>(.mk 9 0 x.1,x.2)):=by rw[hS];rfl
 rw[j];have i:=hdq (fun W=> Tf 9 W);have b:U0 9=4:=rfl;rw[b] at i;clear j ih hF hS b;go_enter func195,ntmps195;go_wp2_with fail;refine(i.out _).mono ?_;rintro e E ⟨rfl,rfl⟩;go_wp2_with fail;refine(f.out _).mono ?_;rintro e t ⟨ts,A,cap,l,rfl,D,p,hK,g,m,k⟩;obtain⟨B,C,z,J,I,H⟩:=own3 g.newBlk;have u:=g.size_alloc;have hx:=((xr w).alloc (H0 0 0 none 0 0)).trans g;have ap:=hdq m;have r:=hdq k;have c:xb (w.heap.size+1) t A ts:=by simpa using hK
 clear m k hK;go_wp2_with fail;refine aP (v:= .tuple #[M0 9 0 A ts.length cap,m0 l]) (by simp[aR,results195,go_sem,B,C,z]) rfl ⟨.mk 9 0 ts,_,l,rfl, ?_, ?_, ?_, ?_⟩
 · exact(Y1.mk 9 0 (((c.set (by simp) _).set (by simp) _).set (by simp) _) D p).since (by omega)
 · exact((hx.setCell (by simp) _).setCell (by simp) _).setCell (by simp) _
 · intro x hx
   cases S with
   |none=> cases hx
   |some y=>
    obtain⟨o,n,q⟩:=ap.out y rfl;cases hx
    exact⟨by rw[o],n,q⟩
 · intro hx
   cases S with
   |none=> exact r.out rfl
   |some y=> cases hx
theorem sF(d:Nat)(hd:d<=30)(ih:ad d)(s:ByteArray)(a:Nat)(w:aL)(hs:s.size<=1000000000)(G:a < s.size)(hc:s[a]=123):
 aX prog 195 #[.string s,m0 a,m0 ((d:Int)+1)] w (Ya w.heap.size w s.size (blk (Z5 d s.data.toList) s.data.toList a 123)):=by
 have f:=hdq (fun W=> NE d ih s (a+1) 3 125 ((a:Int)+1) 3 125 (by omega) (by omega) (by decide) W hs (by omega) (by omega) (by omega));obtain⟨F,hF⟩: ∃F,F=Z5 d s.data.toList:=⟨_,rfl⟩;rw[<-hF] at f⊢;obtain⟨S,hS⟩: ∃S,S=Re F s.data.toList 125 3 (a+1):=⟨_,rfl⟩;rw[<-hS] at f;have j:blk F s.data.toList a 123=S.map (fun x=>(.mk 10 0 x.1,x.2)):=by rw[hS];rfl
 rw[j];have i:=hdq (fun W=> Tf 10 W);have b:U0 10=3:=rfl;rw[b] at i;clear j ih hF hS b;go_enter func195,ntmps195;go_wp2_with fail;refine(i.out _).mono ?_;rintro e E ⟨rfl,rfl⟩;go_wp2_with fail;refine(f.out _).mono ?_;rintro e t ⟨ts,A,cap,l,rfl,D,p,hK,g,m,k⟩;obtain⟨B,C,z,J,I,H⟩:=own3 g.newBlk;have u:=g.size_alloc;have hx:=((xr w).alloc (H0 0 0 none 0 0)).trans g;have ap:=hdq m;have r:=hdq k;have c:xb (w.heap.size+1) t A ts:=by simpa using hK
 clear m k hK;go_wp2_with fail;refine aP (v:= .tuple #[M0 10 0 A ts.length cap,m0 l]) (by simp[aR,results195,go_sem,B,C,z]) rfl ⟨.mk 10 0 ts,_,l,rfl, ?_, ?_, ?_, ?_⟩
 · exact(Y1.mk 10 0 (((c.set (by simp) _).set (by simp) _).set (by simp) _) D p).since (by omega)
 · exact((hx.setCell (by simp) _).setCell (by simp) _).setCell (by simp) _
 · intro x hx
   cases S with
   |none=> cases hx
   |some y=>
    obtain⟨o,n,q⟩:=ap.out y rfl;cases hx
    exact⟨by rw[o],n,q⟩
 · intro hx
   cases S with
   |none=> exact r.out rfl
   |some y=> cases hx
theorem AF(d:Nat)(hd:d<=30)(ih:ad d)(s:ByteArray)(a:Nat)(w:aL)(hs:s.size<=1000000000)(G:a < s.size)(hc:s[a]=124):
 aX prog 195 #[.string s,m0 a,m0 ((d:Int)+1)] w (Ya w.heap.size w s.size (blk (Z5 d s.data.toList) s.data.toList a 124)):=by
 have f:=hdq (fun W=> NE d ih s (a+1) 3 124 ((a:Int)+1) 3 124 (by omega) (by omega) (by decide) W hs (by omega) (by omega) (by omega));obtain⟨F,hF⟩: ∃F,F=Z5 d s.data.toList:=⟨_,rfl⟩;rw[<-hF] at f⊢;obtain⟨S,hS⟩: ∃S,S=Re F s.data.toList 124 3 (a+1):=⟨_,rfl⟩;rw[<-hS] at f;have j:blk F s.data.toList a 124=S.map (fun x=>(.mk 14 0 x.1,x.2)):=by rw[hS];rfl
 rw[j];have i:=hdq (fun W=> Tf 14 W);have b:U0 14=3:=rfl;rw[b] at i;clear j ih hF hS b;go_enter func195,ntmps195;go_wp2_with fail;refine(i.out _).mono ?_;rintro e E ⟨rfl,rfl⟩;go_wp2_with fail;refine(f.out _).mono ?_;rintro e t ⟨ts,A,cap,l,rfl,D,p,hK,g,m,k⟩;obtain⟨B,C,z,J,I,H⟩:=own3 g.newBlk;have u:=g.size_alloc;have hx:=((xr w).alloc (H0 0 0 none 0 0)).trans g;have ap:=hdq m;have r:=hdq k;have c:xb (w.heap.size+1) t A ts:=by simpa using hK
 clear m k hK;go_wp2_with fail;refine aP (v:= .tuple #[M0 14 0 A ts.length cap,m0 l]) (by simp[aR,results195,go_sem,B,C,z]) rfl ⟨.mk 14 0 ts,_,l,rfl, ?_, ?_, ?_, ?_⟩
 · exact(Y1.mk 14 0 (((c.set (by simp) _).set (by simp) _).set (by simp) _) D p).since (by omega)
 · exact((hx.setCell (by simp) _).setCell (by simp) _).setCell (by simp) _
 · intro x hx
   cases S with
   |none=> cases hx
   |some y=>
    obtain⟨o,n,q⟩:=ap.out y rfl;cases hx
    exact⟨by rw[o],n,q⟩
 · intro hx
   cases S with
   |none=> exact r.out rfl
   |some y=> cases hx
theorem KI(d:Nat)(hd:d<=30)(ih:ad d)(s:ByteArray)(a:Nat)(w:aL)(hs:s.size<=1000000000)(P:a < s.size)(hc:s[a]=64):
 aX prog 195 #[.string s,m0 a,m0 ((d:Int)+1)] w (Ya w.heap.size w s.size (blk (Z5 d s.data.toList) s.data.toList a 64)):=by
 have l:=hdq (fun W=> NE d ih s (a+2) 3 62 ((a:Int)+2) 3 62 (by omega) (by omega) (by decide) W hs (by omega) (by omega) (by omega));obtain⟨F,hF⟩: ∃F,F=Z5 d s.data.toList:=⟨_,rfl⟩;rw[<-hF] at l⊢;obtain⟨S,hS⟩: ∃S,S=Re F s.data.toList 62 3 (a+2):=⟨_,rfl⟩;rw[<-hS] at l;have f:blk F s.data.toList a 64=if s.data.toList[a+1]? =some 60 then S.map (fun x=>(.mk 12 0 x.1,x.2)) else none:=by rw[hS];rfl
 obtain⟨R,g⟩: ∃R,R=blk F s.data.toList a 64:=⟨_,rfl⟩;rw[<-g] at f⊢;have n:=hdq (fun W=> Tf 12 W);have i:U0 12=3:=rfl;rw[i] at n;clear g ih hF hS i;by_cases N:a+1 < s.size
 · obtain⟨c,k⟩: ∃c,s[a+1]=c:=⟨_,rfl⟩
   rw[Od N k] at f;have t1:decide ((s.size:Int) <(a:Int)+2)=false:=decide_eq_false (by omega);have H:(a:Int)+1 <(s.size:Int):=by omega
   obtain⟨p,q⟩: ∃p,c.toNat=p:=⟨_,rfl⟩;by_cases b:c=60
   · rw[if_pos (by rw[b])] at f
     have I:p=60:=by rw[<-q,b];rfl
     have HR:=hdq f;subst I;clear f b;go_enter func195,ntmps195;go_wp2_with fail;refine(n.out _).mono ?_;rintro e O ⟨rfl,rfl⟩;go_wp2_with fail;refine(l.out _).mono ?_;rintro e G ⟨ts,A,cap,r,rfl,u,C,hK,m,t,o⟩;obtain⟨L,M,K,U,T,Q⟩:=own3 m.newBlk;have J:=m.size_alloc;have hx:=((xr w).alloc (H0 0 0 none 0 0)).trans m;have ap:=hdq t;have E:=hdq o;have j:xb (w.heap.size+1) G A ts:=by simpa using hK
     clear t o hK;go_wp2_with fail;refine aP (v:= .tuple #[M0 12 0 A ts.length cap,m0 r]) (by simp[aR,results195,go_sem,L,M,K]) rfl ⟨.mk 12 0 ts,_,r,rfl, ?_, ?_, ?_, ?_⟩
     · exact(Y1.mk 12 0 (((j.set (by simp) _).set (by simp) _).set (by simp) _) u C).since (by omega)
     · exact((hx.setCell (by simp) _).setCell (by simp) _).setCell (by simp) _
     · intro x hx
       rw[HR.out] at hx;cases S with
       |none=> cases hx
       |some y=>
        obtain⟨B,z,D⟩:=ap.out y rfl;cases hx
        exact⟨by rw[B],z,D⟩
     · intro hx
       rw[HR.out] at hx;cases S with
       |none=> exact E.out rfl
       |some y=> cases hx
   · rw[if_neg (by intro h;cases h;exact b rfl)] at f
     have t2:((p:Int) !=60)=true:=by rw[bne_iff_ne];intro h;exact b (UInt8.toNat_inj.1 (by rw[q];simp;omega))
     have HR:=hdq f;clear f b;go_enter func195,ntmps195;go_wp2_with fail;exact aP (v:= .tuple #[M0 0 0 none 0 0,m0 (-1)]) (by simp[aR,results195,go_sem]) rfl (qr _ _ _ _ _ HR.out ((xr w).alloc _))
 · rw[Bn s (by omega),if_neg (by simp)] at f
   have t1:decide ((s.size:Int) <(a:Int)+2)=true:=decide_eq_true (by omega);have HR:=hdq f;clear f;go_enter func195,ntmps195;go_wp2_with fail;exact aP (v:= .tuple #[M0 0 0 none 0 0,m0 (-1)]) (by simp[aR,results195,go_sem]) rfl (qr _ _ _ _ _ HR.out ((xr w).alloc _))
theorem XH(d:Nat)(hd:d<=30)(s:ByteArray)(a:Nat)(w:aL)(hs:s.size<=1000000000)(j:a < s.size)(c:UInt8)(hc:s[a]=c)(hk:Qi c=0):
 aX prog 195 #[.string s,m0 a,m0 ((d:Int)+1)] w (Ya w.heap.size w s.size (blk (Z5 d s.data.toList) s.data.toList a c)):=by
 have HR:=hdq (show blk (Z5 d s.data.toList) s.data.toList a c=none from by unfold blk;rw[if_pos hk]);generalize blk (Z5 d s.data.toList) s.data.toList a c=R at HR⊢;obtain⟨p,b⟩: ∃p,c.toNat=p:=⟨_,rfl⟩;have f:c≠60:=fun h=> by rw[h] at hk;exact absurd hk (by decide)
 have e:c≠123:=fun h=> by rw[h] at hk;exact absurd hk (by decide)
 have g:c≠124:=fun h=> by rw[h] at hk;exact absurd hk (by decide)
 have i:c≠64:=fun h=> by rw[h] at hk;exact absurd hk (by decide)
 have t1:((p:Int)==60)=false:=by rw[beq_eq_false_iff_ne];intro h;exact f (UInt8.toNat_inj.1 (by rw[b];simp;omega))
 have t2:((p:Int)==123)=false:=by rw[beq_eq_false_iff_ne];intro h;exact e (UInt8.toNat_inj.1 (by rw[b];simp;omega))
 have l:((p:Int)==124)=false:=by rw[beq_eq_false_iff_ne];intro h;exact g (UInt8.toNat_inj.1 (by rw[b];simp;omega))
 have k:((p:Int)==64)=false:=by rw[beq_eq_false_iff_ne];intro h;exact i (UInt8.toNat_inj.1 (by rw[b];simp;omega))
 clear f e g i hk;go_enter func195,ntmps195;go_wp2_with fail;exact aP (v:= .tuple #[M0 0 0 none 0 0,m0 (-1)]) (by simp[aR,results195,go_sem]) rfl (qr _ _ _ _ _ HR.out ((xr w).alloc _))
end Go.Proofs.YtckhbnmfnpolgaaGreat
namespace Go.Proofs.YtckhbnmfnpolgaaGreat
open Go.RowKit
attribute [local go_sem ↓] Go.wp_at_zero Go.wp_at_succ
theorem rx{w:aL}{base a k n:Nat}{e:TypeId}{v:aT}{c:List aT}(h:w.ownsRow base e k v n c)(f:a<=base):w.ownsRow a e k v n c:=by
 refine⟨h.1, ?_⟩;rcases h.2 with h|⟨g,cap,b,rfl,d,r⟩
 · exact .inl h
 · exact .inr ⟨g,cap,b,rfl,Nat.le_trans f d,r⟩
def pn(w:aL)(u:aT)(p:List Int):Prop:=Fj w (fun b=> b < w.heap.size) u p
theorem pn.ext{w c:aL}{u:aT}{p:List Int}(h:pn w u p)(d:Ext w c):pn c u p:=h.mono (fun b a=> Nat.lt_of_lt_of_le a d.size) (fun b a=> d.heap b a)
theorem Xx{w:aL}{base:Nat}{e:TypeId}{v:aT}{p:List Int}(h:w.ownsRow base e 1 v p.length (p.map (Value.int .i64))):pn w v p:=(DF h).mono (fun b a=> a.2.1) (fun _ _=> rfl)
theorem WC:(prog.info? 3).map (fun i=>(i.zero,i.size,i.bytes))=some (some (m0 0),1,8):=by kernel_rfl
theorem Ext.ownsRow{w a:aL}{base n:Nat}{e:TypeId}{k:Nat}{v:aT}{b:List aT}(d:Ext w a)(h:w.ownsRow base e k v n b):a.ownsRow base e k v n b:=gK h (fun g c=> d.heap g (h.lt g c).2)
