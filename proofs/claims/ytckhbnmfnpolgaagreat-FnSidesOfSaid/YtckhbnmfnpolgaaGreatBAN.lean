/-
  Lemmas towards the law, 14: Shf, Parse4, Places.
-/
import Derived.Test.YtckhbnmfnpolgaaGreatBAM
import Derived.Lib.SliceRun
open Go renaming World->aK,Value->aS,Calls->aV,bodyPost_ret->aO,results->aQ
open Go.RowKit.Below renaming heap_setCell->aL
open Go.Proofs.Tryz
set_option linter.unusedVariables false
set_option maxHeartbeats 1000000
set_option maxRecDepth 100000
namespace Go.Proofs.YtckhbnmfnpolgaaGreat
open Go.RowKit
theorem X0.setNew{L:List Nat}{a w:aK}(h:X0 L a w){p:Addr}(b:a.heap.size<=p.block)(u:aS):X0 L a (w.setCell p u):=
 ⟨h.os,h.tape,h.output,by simpa using h.size,fun i hi hn=>(aL w p u i (by omega)).trans (h.block i hi hn)⟩
theorem X0.blk{L:List Nat}{a w:aK}{g:Nat}{o:Obj}(h:X0 L a w)(b:a.heap[g]? =some o)(hn: ¬g∈L):w.heap[g]? =some o:=(h.block g (O1 b) hn).trans b
theorem nD(n:Int)(w:aK):aV prog 58 #[.int .i64 n] w fun e a=> e= .returned (.agg #[.int .i64 1,.int .i64 n,.slice none 0 0])/\Ext w a:=by
 go_enter func58,ntmps58;go_wp2_with fail;exact aO (v:= .agg #[.int .i64 1,.int .i64 n,.slice none 0 0]) (by simp[aQ,results58,go_sem]) rfl ⟨rfl,(xr w).alloc _⟩
theorem Pt(k n:Int)(a:List Tr)(A:Option Addr)(cap:Nat)(w:aK)(t:Lies w (.mk k n a) (.agg #[.int .i64 k,.int .i64 n,.slice A a.length cap])):
 aV prog 137 #[.agg #[.int .i64 k,.int .i64 n,.slice A a.length cap]] w fun e u=>(if j0 m0 (.mk k n a)=true then e= .returned (.tuple #[.agg #[.int .i64 k,.int .i64 n,.slice A a.length cap],.bool true]) else e= .returned (.tuple #[.agg #[.int .i64 0,.int .i64 0,.slice none 0 0],.bool false]))/\Ext w u:=by
 have g:=hdq (fun W (q:Ext w W)=> kr _ W _ (t.ext q));generalize j0 m0 (.mk k n a)=s at g⊢;have c:=((xr w).alloc (.cells #[.int .i64 k,.int .i64 n,.slice A a.length cap] 25)).alloc (.cells #[.int .i64 0,.int .i64 0,.slice none 0 0] 25);obtain⟨l,j,p⟩:=W3 (xr ((w.alloc (.cells #[.int .i64 k,.int .i64 n,.slice A a.length cap] 25)).alloc (.cells #[.int .i64 0,.int .i64 0,.slice none 0 0] 25)));cases s with
 |true=>
  simp only[if_true];go_enter func137,ntmps137;go_wp2_with fail;refine(g.out _ c).mono ?_;rintro e r ⟨rfl,b⟩;obtain⟨B,y,z,-,-,-⟩:=own3 (b.blk l);obtain⟨f,d,i,o,m,x⟩:=own3 (b.blk j);go_wp2_with fail;exact aO (v:= .tuple #[.agg #[.int .i64 k,.int .i64 n,.slice A a.length cap],.bool true]) (by simp[aQ,results137,go_sem,f,d,i]) rfl ⟨rfl,((((c.trans b).setCell (by simp) _).setCell (by simp) _).setCell (by simp) _)⟩
 |false=>
  simp only[Bool.false_eq_true,if_false];go_enter func137,ntmps137;go_wp2_with fail;refine(g.out _ c).mono ?_;rintro e r ⟨rfl,b⟩;obtain⟨f,d,i,o,m,x⟩:=own3 (b.blk j);go_wp2_with fail;exact aO (v:= .tuple #[.agg #[.int .i64 0,.int .i64 0,.slice none 0 0],.bool false]) (by simp[aQ,results137,go_sem,f,d,i]) rfl ⟨rfl,((((c.trans b).setCell (by simp) _).setCell (by simp) _).setCell (by simp) _)⟩
def LI(b d a B:Nat)(c y:Int)(w:aK)(s:Bool):Prop:=(b < B/\d < B/\a < B)/\w.heap[b]? =some (.cells #[.int .i64 c] 3 (0,0))/\w.heap[d]? =some (.cells #[.int .i64 y] 3 (0,0))/\w.heap[a]? =some (.cells #[.bool s] 4 (0,0))
theorem Pv(a:aK)(z o d B:Nat)(c y:Int)(K:z≠d)(G:o≠d)(hy0:0<=y)(hy1:y<=1000)(V:0<=c)(N:c<=1000):Nj a z o d [d] (LI z o d B c y) (Ui y c) (hsh y c):=by
 intro w s n b ha X M4 P4 L R;obtain⟨C,k,l,j⟩:=X;have Z:=i1 k 0;have c2:=i1 l 0;have c3:=i1 j 0;have f3:=Ob j 0;have l1:=O1 k;have l2:=O1 l;have l3:=O1 j;have D:=hdq k;have E:=hdq l;have H:=hdq j;clear k l j;have I:=hdq (fun m W=> nD m W);by_cases h:c<=n - b
 · have S:decide (c<=n - b)=true:=decide_eq_true h
   obtain⟨J,P⟩: ∃x,decide (c<=n+y - b)=x:=⟨_,rfl⟩;obtain⟨F,T⟩: ∃x,decide (n+y<=20)=x:=⟨_,rfl⟩;have f:Ui y c n b= .mk 1 (n+y) []:=by unfold Ui;rw[if_pos h]
   have i:hsh y c n b=(J && F):=by unfold hsh;rw[if_pos h,P,T]
   rw[f,i];clear f i h;cases s <;> cases J <;> cases F
   all_goals go_enter func136,ntmps136
   all_goals go_wp2_with fail
   all_goals(
    refine(I.out _ _).mono ?_;rintro e U ⟨rfl,f⟩;have g:=f.newBlk;simp only[World.size_setCell] at g;obtain⟨q,r,A,Q,O,Y⟩:=own3 g;have o1:=fun u=>(((X0.refl [d] w).setCell (p:=⟨d,0,none⟩) (by simp) u).alloc (.cells #[.int .i64 0,.int .i64 0,.slice none 0 0] 25))
    have o2:=(o1 _).trans (oE f);have M:=fun u=> M6 H.out 0 u
    have t:=f.blk ((Below.heap_alloc _ _ _ (by simp;omega)).trans (M _));clear g;go_wp2_with fail;refine aO (v:= .agg #[.int .i64 1,.int .i64 (n+y),.slice none 0 0]) (by simp[aQ,results136,go_sem,q,r,A]) rfl ⟨_,rfl,P0.leaf _ _ _ _ _, ?_,C, ?_, ?_, ?_⟩
    · exact(((o2.setNew (by simp) _).setNew (by simp) _).setNew (by simp) _)
    · exact(((o2.setNew (by simp) _).setNew (by simp) _).setNew (by simp) _).blk D.out (by simpa using K)
    · exact(((o2.setNew (by simp) _).setNew (by simp) _).setNew (by simp) _).blk E.out (by simpa using G)
    · rw[aL _ _ _ _ (by show d≠w.heap.size;omega),aL _ _ _ _ (by show d≠w.heap.size;omega),aL _ _ _ _ (by show d≠w.heap.size;omega),t]
      rfl)
 · have S:decide (c<=n - b)=false:=decide_eq_false h
   have f:Ui y c n b= .mk 1 n []:=by unfold Ui;rw[if_neg h]
   have i:hsh y c n b=true:=by unfold hsh;rw[if_neg h]
   rw[f,i,Bool.and_true];clear f i h;go_enter func136,ntmps136;go_wp2_with fail;refine(I.out _ _).mono ?_;rintro e U ⟨rfl,f⟩;have g:=f.newBlk;obtain⟨q,r,A,Q,O,Y⟩:=own3 g;have o2:=((X0.refl [d] w).alloc (.cells #[.int .i64 0,.int .i64 0,.slice none 0 0] 25)).trans (oE f);have t:=(Ext.blk f.pre H.out);clear g;go_wp2_with fail;refine aO (v:= .agg #[.int .i64 1,.int .i64 n,.slice none 0 0]) (by simp[aQ,results136,go_sem,q,r,A]) rfl ⟨_,rfl,P0.leaf _ _ _ _ _, ?_,C, ?_, ?_, ?_⟩
   · exact(((o2.setNew (by simp) _).setNew (by simp) _).setNew (by simp) _)
   · exact(((o2.setNew (by simp) _).setNew (by simp) _).setNew (by simp) _).blk D.out (by simpa using K)
   · exact(((o2.setNew (by simp) _).setNew (by simp) _).setNew (by simp) _).blk E.out (by simpa using G)
   · rw[aL _ _ _ _ (by show d≠w.heap.size;omega),aL _ _ _ _ (by show d≠w.heap.size;omega),aL _ _ _ _ (by show d≠w.heap.size;omega),t]
def okT(t:Tr):Tr:=if j0 m0 t=true then t else E2
theorem oD(t:Tr)(y c:Int)(w:aK)(v:aS)(b8:Lies w t v)(hv:j0 m0 t=true)(hy0:0<=y)(hy1:y<=1000)(hc0:0<=c)(hc1:c<=1000):
 aV prog 102 #[v,.int .i64 y,.int .i64 c] w fun e w'=> ∃u,e= .returned (.tuple #[u,.bool (j0 m0 (shfT y t c))])/\P0 w w' 25 (okT (shfT y t c)) u/\Ext w w':=by
 obtain⟨hs,C7⟩:=Z3 hv;obtain⟨g,i⟩:=sI (c:=c) hy0 hv;have rr:=fun W (hW:Ext w W) B E d (hp:w.heap.size<=d) (G6:B≠d) (mb:E≠d) (G:W.heap[B]? =some (.cells #[.int .i64 c] 3 (0,0))) (F:W.heap[E]? =some (.cells #[.int .i64 y] 3 (0,0))) (h3:W.heap[d]? =some (.cells #[.bool true] 4 (0,0)))=>
  eF t w W v 0 30 B E d [d] W.heap.size (LI B E d W.heap.size c y) (Ui y c) (hsh y c) true hs b8 hW (fun x hx=> by rw[List.mem_singleton.1 hx];exact⟨hp,O1 h3⟩) (by omega) (by omega)
   (Pv w B E d _ c y G6 mb hy0 hy1 hc0 hc1) (fun H T s h m=>⟨h.1,m.blk h.2.1,m.blk h.2.2.1,m.blk h.2.2.2⟩) (Nat.le_refl _) (fun H T s h m hl=>⟨h.1,(m B h.1.1).trans h.2.1,(m E h.1.2.1).trans h.2.2.1,(m d h.1.2.2).trans h.2.2.2⟩) ⟨⟨O1 G,O1 F,O1 h3⟩,G,F,h3⟩
 rw[i] at g;simp only[i,Bool.true_and] at rr;have ol:=hdq rr;clear rr i hs;obtain⟨Y,p⟩: ∃Y,Y=j0 m0 (shfT y t c):=⟨_,rfl⟩;obtain⟨Q,a⟩: ∃Q,Q=okT (shfT y t c):=⟨_,rfl⟩;rw[<-p,<-a];generalize shfT y t c=r at g ol p a;generalize C8 (hsh y c) t 0=f at g ol;obtain⟨k,n,K⟩:=t;obtain⟨A,cap,rfl,hl,hc,hK⟩:=Lies.mk_iff.1 b8;have hE:=((((xr w).alloc (.cells #[.int .i64 k,.int .i64 n,.slice A K.length cap] 25)).alloc (.cells #[.int .i64 y] 3)).alloc (.cells #[.int .i64 c] 3)).alloc (.cells #[.int .i64 0,.int .i64 0,.slice none 0 0] 25);have np:=jn ((xr ((((w.alloc (.cells #[.int .i64 k,.int .i64 n,.slice A K.length cap] 25)).alloc (.cells #[.int .i64 y] 3)).alloc (.cells #[.int .i64 c] 3)).alloc (.cells #[.int .i64 0,.int .i64 0,.slice none 0 0] 25))).alloc (.cells #[.bool true] 4));have L:=heap_alloc_new ((((w.alloc (.cells #[.int .i64 k,.int .i64 n,.slice A K.length cap] 25)).alloc (.cells #[.int .i64 y] 3)).alloc (.cells #[.int .i64 c] 3)).alloc (.cells #[.int .i64 0,.int .i64 0,.slice none 0 0] 25)) (.cells #[.bool true] 4);have V:=hE.alloc (.cells #[.bool true] 4);have U:(((((w.alloc (.cells #[.int .i64 k,.int .i64 n,.slice A K.length cap] 25)).alloc (.cells #[.int .i64 y] 3)).alloc (.cells #[.int .i64 c] 3)).alloc (.cells #[.int .i64 0,.int .i64 0,.slice none 0 0] 25)).alloc (.cells #[.bool true] 4)).heap.size=w.heap.size+1+1+1+1+1:=by simp
 obtain⟨I,o,l,j,-⟩:=np;simp only[World.size_alloc] at L;go_enter func102,ntmps102;go_wp2_with fail;generalize World.alloc _ _=wa at V I o l j L U;clear hE;refine(ol.out wa V _ _ _ (by omega) (by omega) (by omega) l o L).mono ?_;rintro e H ⟨u,rfl,R,ho,hI⟩;obtain⟨q,z,C⟩:=r;obtain⟨P,O,rfl,hl2,hc2,Kn⟩:=P0.mk_iff.1 R;have N:=ho.blk j (by simp);have i3:=hI.2.2.2;have hc5:=i1 i3 0;have Gx:=O1 i3;have V6:=O1 N;have Iz:=ho.size;have X:Ext w H:=ho.ext V (fun x hx=> by rw[List.mem_singleton.1 hx];omega);obtain⟨s0,s1,s2,f0,f1,f2⟩:=own3 N;clear ol I o l j L hI i3;have hx:=(xr H).alloc (.cells #[.int .i64 q,.int .i64 z,.slice P C.length O] 25);cases f with
 |false=>
  rw[Bool.false_and] at g;have G:Y=false:=by rw[p,<-g]
  have F:Q=E2:=by rw[a];unfold okT;rw[<-g];rfl
  have J:=hdq G;have M:=hdq F;clear g p a G F;go_wp2_with fail;refine aO (v:= .tuple #[.agg #[.int .i64 0,.int .i64 0,.slice none 0 0],.bool false]) (by simp[aQ,results102,go_sem,s0,s1,s2,V6]) rfl ⟨.agg #[.int .i64 0,.int .i64 0,.slice none 0 0],by rw[J.out],by rw[M.out];exact P0.leaf _ _ _ _ _, ?_⟩;exact(((X.setCell (by simp;omega) _).setCell (by simp;omega) _).setCell (by simp;omega) _).alloc _
 |true=>
  rw[Bool.true_and] at g;have HV:=hdq (fun W (hW:Ext H W)=> Pt q z C P O W (R.lies.ext hW));generalize ce:j0 m0 (.mk q z C)=b at HV;have hO:Q=if b=true then .mk q z C else E2:=by rw[a];unfold okT;rw[ce]
  rw[ce] at p;have J:=hdq p;have M:=hdq hO;clear hO g ce a p;go_wp2_with fail;refine(HV.out _ hx).mono ?_;cases b with
  |true=>
   simp only[if_true];rintro e T ⟨rfl,D⟩;obtain⟨S,q1,Z,g0,g1,g2⟩:=own3 ((hx.trans D).blk N);go_wp2_with fail;refine aO (v:= .tuple #[.agg #[.int .i64 q,.int .i64 z,.slice P C.length O],.bool true]) (by simp[aQ,results102,go_sem,S,q1,Z]) rfl ⟨.agg #[.int .i64 q,.int .i64 z,.slice P C.length O],by rw[J.out], ?_, ?_⟩
   · rw[M.out]
     simp only[if_true];exact P0.since (((R.ext (hx.trans D)).after ((((pa.refl _ _).setCell (by simp;omega) _).setCell (by simp;omega) _).setCell (by simp;omega) _))) (by omega)
   · exact(((((X.trans hx).trans D).setCell (by simp;omega) _).setCell (by simp;omega) _).setCell (by simp;omega) _)
  |false=>
   simp only[Bool.false_eq_true,if_false];rintro e T ⟨rfl,D⟩;obtain⟨S,q1,Z,g0,g1,g2⟩:=own3 ((hx.trans D).blk N);go_wp2_with fail;refine aO (v:= .tuple #[.agg #[.int .i64 0,.int .i64 0,.slice none 0 0],.bool false]) (by simp[aQ,results102,go_sem,S,q1,Z]) rfl ⟨.agg #[.int .i64 0,.int .i64 0,.slice none 0 0],by rw[J.out],by rw[M.out];exact P0.leaf _ _ _ _ _, ?_⟩;exact(((((X.trans hx).trans D).setCell (by simp;omega) _).setCell (by simp;omega) _).setCell (by simp;omega) _)
theorem ED(d:Nat)(ih:Vc d)(s:ByteArray)(a many:Nat)(last:UInt8)(A M L:Int)(hA:A=a)(e:M=many)(c:L=(last.toNat:Int))(w:aK)(hs:s.size<=1000000000)(b:a<=s.size+2)(hm:many<=4)(f:1<=many):
 aV prog 198 #[.string s,.int .i64 A,.int .i64 d,.int .i64 M,.int .u8 L] w (bD w.heap.size w s.size (Pe (Z5 d s.data.toList) s.data.toList last many a)):=by
 subst hA e c;exact NE d ih s a many last w hs b hm f
theorem pr(B:Nat)(w a:aK)(size:Nat)(o:Option (Tr×Nat))(b:o=none)(hx:Ext w a):Xa B w size o (.returned (.tuple #[.agg #[.int .i64 0,.int .i64 0,.slice none 0 0],.int .i64 (-1)])) a:=
 ⟨.mk 0 0 [],_,-1,rfl,j2.leaf _ _ _ _,hx,(fun x hx=> by rw[b] at hx;cases hx),fun _=> rfl⟩
theorem Mb.set{B:Nat}{w:aK}{A:Option Addr}{c:List Tr}(h:Mb B w A c){p:Addr}(d:p.block < B)(u:aS):Mb B (w.setCell p u) A c:=
 h.mono (fun b a=>⟨a.1,by simpa using a.2⟩) (fun b a=> aL w p u b (by omega))
theorem j2.mk{B:Nat}{w:aK}{A:Option Addr}{a:List Tr}{cap:Nat}(k n:Int)(h:Mb B w A a)(hl:a.length<=cap)(hc:cap<=maxLen):j2 B w (.mk k n a) (.agg #[.int .i64 k,.int .i64 n,.slice A a.length cap]):=InT.mk_iff.2 ⟨A,cap,rfl,hl,hc,h⟩
theorem QH(d:Nat)(hd:d<=30)(ih:Vc d)(s:ByteArray)(a:Nat)(w:aK)(hs:s.size<=1000000000)(J:a < s.size)(hc:s[a]=60):
 aV prog 195 #[.string s,.int .i64 a,.int .i64 ((d:Int)+1)] w (Xa w.heap.size w s.size (blk (Z5 d s.data.toList) s.data.toList a 60)):=by
 have c:=hdq (fun W=> ED d ih s (a+1) 4 62 ((a:Int)+1) 4 62 (by omega) (by omega) (by decide) W hs (by omega) (by omega) (by omega));obtain⟨F,hF⟩: ∃F,F=Z5 d s.data.toList:=⟨_,rfl⟩;rw[<-hF] at c⊢;obtain⟨S,hS⟩: ∃S,S=Pe F s.data.toList 62 4 (a+1):=⟨_,rfl⟩;rw[<-hS] at c;have i:blk F s.data.toList a 60=S.map (fun x=>(.mk 9 0 x.1,x.2)):=by rw[hS];rfl
 rw[i];have l:=hdq (fun W=> Qf 9 W);have b:O0 9=4:=rfl;rw[b] at l;clear i ih hF hS b;go_enter func195,ntmps195;go_wp2_with fail;refine(l.out _).mono ?_;rintro e I ⟨rfl,rfl⟩;go_wp2_with fail;refine(c.out _).mono ?_;rintro e z ⟨ts,A,cap,j,rfl,o,B,hK,g,m,k⟩;obtain⟨p,q,E,H,G,K⟩:=own3 g.newBlk;have u:=g.size_alloc;have hx:=((xr w).alloc (.cells #[.int .i64 0,.int .i64 0,.slice none 0 0] 25)).trans g;have r:=hdq m;have n:=hdq k;have f:Mb (w.heap.size+1) z A ts:=by simpa using hK
 clear m k hK;go_wp2_with fail;refine aO (v:= .tuple #[.agg #[.int .i64 9,.int .i64 0,.slice A ts.length cap],.int .i64 j]) (by simp[aQ,results195,go_sem,p,q,E]) rfl ⟨.mk 9 0 ts,_,j,rfl, ?_, ?_, ?_, ?_⟩
 · exact(j2.mk 9 0 (((f.set (by simp) _).set (by simp) _).set (by simp) _) o B).since (by omega)
 · exact((hx.setCell (by simp) _).setCell (by simp) _).setCell (by simp) _
 · intro x hx
   cases S with
   |none=> cases hx
   |some y=>
    obtain⟨D,t,C⟩:=r.out y rfl;cases hx
    exact⟨by rw[D],t,C⟩
 · intro hx
   cases S with
   |none=> exact n.out rfl
   |some y=> cases hx
theorem aG(d:Nat)(hd:d<=30)(ih:Vc d)(s:ByteArray)(a:Nat)(w:aK)(hs:s.size<=1000000000)(J:a < s.size)(hc:s[a]=123):
 aV prog 195 #[.string s,.int .i64 a,.int .i64 ((d:Int)+1)] w (Xa w.heap.size w s.size (blk (Z5 d s.data.toList) s.data.toList a 123)):=by
 have c:=hdq (fun W=> ED d ih s (a+1) 3 125 ((a:Int)+1) 3 125 (by omega) (by omega) (by decide) W hs (by omega) (by omega) (by omega));obtain⟨F,hF⟩: ∃F,F=Z5 d s.data.toList:=⟨_,rfl⟩;rw[<-hF] at c⊢;obtain⟨S,hS⟩: ∃S,S=Pe F s.data.toList 125 3 (a+1):=⟨_,rfl⟩;rw[<-hS] at c;have i:blk F s.data.toList a 123=S.map (fun x=>(.mk 10 0 x.1,x.2)):=by rw[hS];rfl
 rw[i];have l:=hdq (fun W=> Qf 10 W);have b:O0 10=3:=rfl;rw[b] at l;clear i ih hF hS b;go_enter func195,ntmps195;go_wp2_with fail;refine(l.out _).mono ?_;rintro e I ⟨rfl,rfl⟩;go_wp2_with fail;refine(c.out _).mono ?_;rintro e z ⟨ts,A,cap,j,rfl,o,B,hK,g,m,k⟩;obtain⟨p,q,E,H,G,K⟩:=own3 g.newBlk;have u:=g.size_alloc;have hx:=((xr w).alloc (.cells #[.int .i64 0,.int .i64 0,.slice none 0 0] 25)).trans g;have r:=hdq m;have n:=hdq k;have f:Mb (w.heap.size+1) z A ts:=by simpa using hK
 clear m k hK;go_wp2_with fail;refine aO (v:= .tuple #[.agg #[.int .i64 10,.int .i64 0,.slice A ts.length cap],.int .i64 j]) (by simp[aQ,results195,go_sem,p,q,E]) rfl ⟨.mk 10 0 ts,_,j,rfl, ?_, ?_, ?_, ?_⟩
 · exact(j2.mk 10 0 (((f.set (by simp) _).set (by simp) _).set (by simp) _) o B).since (by omega)
 · exact((hx.setCell (by simp) _).setCell (by simp) _).setCell (by simp) _
 · intro x hx
   cases S with
   |none=> cases hx
   |some y=>
    obtain⟨D,t,C⟩:=r.out y rfl;cases hx
    exact⟨by rw[D],t,C⟩
 · intro hx
   cases S with
   |none=> exact n.out rfl
   |some y=> cases hx
theorem wF(d:Nat)(hd:d<=30)(ih:Vc d)(s:ByteArray)(a:Nat)(w:aK)(hs:s.size<=1000000000)(J:a < s.size)(hc:s[a]=124):
 aV prog 195 #[.string s,.int .i64 a,.int .i64 ((d:Int)+1)] w (Xa w.heap.size w s.size (blk (Z5 d s.data.toList) s.data.toList a 124)):=by
 have c:=hdq (fun W=> ED d ih s (a+1) 3 124 ((a:Int)+1) 3 124 (by omega) (by omega) (by decide) W hs (by omega) (by omega) (by omega));obtain⟨F,hF⟩: ∃F,F=Z5 d s.data.toList:=⟨_,rfl⟩;rw[<-hF] at c⊢;obtain⟨S,hS⟩: ∃S,S=Pe F s.data.toList 124 3 (a+1):=⟨_,rfl⟩;rw[<-hS] at c;have i:blk F s.data.toList a 124=S.map (fun x=>(.mk 14 0 x.1,x.2)):=by rw[hS];rfl
 rw[i];have l:=hdq (fun W=> Qf 14 W);have b:O0 14=3:=rfl;rw[b] at l;clear i ih hF hS b;go_enter func195,ntmps195;go_wp2_with fail;refine(l.out _).mono ?_;rintro e I ⟨rfl,rfl⟩;go_wp2_with fail;refine(c.out _).mono ?_;rintro e z ⟨ts,A,cap,j,rfl,o,B,hK,g,m,k⟩;obtain⟨p,q,E,H,G,K⟩:=own3 g.newBlk;have u:=g.size_alloc;have hx:=((xr w).alloc (.cells #[.int .i64 0,.int .i64 0,.slice none 0 0] 25)).trans g;have r:=hdq m;have n:=hdq k;have f:Mb (w.heap.size+1) z A ts:=by simpa using hK
 clear m k hK;go_wp2_with fail;refine aO (v:= .tuple #[.agg #[.int .i64 14,.int .i64 0,.slice A ts.length cap],.int .i64 j]) (by simp[aQ,results195,go_sem,p,q,E]) rfl ⟨.mk 14 0 ts,_,j,rfl, ?_, ?_, ?_, ?_⟩
 · exact(j2.mk 14 0 (((f.set (by simp) _).set (by simp) _).set (by simp) _) o B).since (by omega)
 · exact((hx.setCell (by simp) _).setCell (by simp) _).setCell (by simp) _
 · intro x hx
   cases S with
   |none=> cases hx
   |some y=>
    obtain⟨D,t,C⟩:=r.out y rfl;cases hx
    exact⟨by rw[D],t,C⟩
 · intro hx
   cases S with
   |none=> exact n.out rfl
   |some y=> cases hx
theorem rG(d:Nat)(hd:d<=30)(ih:Vc d)(s:ByteArray)(a:Nat)(w:aK)(hs:s.size<=1000000000)(U:a < s.size)(hc:s[a]=64):
 aV prog 195 #[.string s,.int .i64 a,.int .i64 ((d:Int)+1)] w (Xa w.heap.size w s.size (blk (Z5 d s.data.toList) s.data.toList a 64)):=by
 have j:=hdq (fun W=> ED d ih s (a+2) 3 62 ((a:Int)+2) 3 62 (by omega) (by omega) (by decide) W hs (by omega) (by omega) (by omega));obtain⟨F,hF⟩: ∃F,F=Z5 d s.data.toList:=⟨_,rfl⟩;rw[<-hF] at j⊢;obtain⟨S,hS⟩: ∃S,S=Pe F s.data.toList 62 3 (a+2):=⟨_,rfl⟩;rw[<-hS] at j;have f:blk F s.data.toList a 64=if s.data.toList[a+1]? =some 60 then S.map (fun x=>(.mk 12 0 x.1,x.2)) else none:=by rw[hS];rfl
 obtain⟨R,g⟩: ∃R,R=blk F s.data.toList a 64:=⟨_,rfl⟩;rw[<-g] at f⊢;have q:=hdq (fun W=> Qf 12 W);have i:O0 12=3:=rfl;rw[i] at q;clear g ih hF hS i;by_cases z:a+1 < s.size
 · obtain⟨c,k⟩: ∃c,s[a+1]=c:=⟨_,rfl⟩
   rw[Md z k] at f;have t1:decide ((s.size:Int) <(a:Int)+2)=false:=decide_eq_false (by omega);have D:(a:Int)+1 <(s.size:Int):=by omega
   obtain⟨p,o⟩: ∃p,c.toNat=p:=⟨_,rfl⟩;by_cases b:c=60
   · rw[if_pos (by rw[b])] at f
     have N:p=60:=by rw[<-o,b];rfl
     have HR:=hdq f;subst N;clear f b;go_enter func195,ntmps195;go_wp2_with fail;refine(q.out _).mono ?_;rintro e T ⟨rfl,rfl⟩;go_wp2_with fail;refine(j.out _).mono ?_;rintro e J ⟨ts,A,cap,n,rfl,E,K,hK,m,t,r⟩;obtain⟨B,C,O,Q,P,V⟩:=own3 m.newBlk;have I:=m.size_alloc;have hx:=((xr w).alloc (.cells #[.int .i64 0,.int .i64 0,.slice none 0 0] 25)).trans m;have G:=hdq t;have u:=hdq r;have l:Mb (w.heap.size+1) J A ts:=by simpa using hK
     clear t r hK;go_wp2_with fail;refine aO (v:= .tuple #[.agg #[.int .i64 12,.int .i64 0,.slice A ts.length cap],.int .i64 n]) (by simp[aQ,results195,go_sem,B,C,O]) rfl ⟨.mk 12 0 ts,_,n,rfl, ?_, ?_, ?_, ?_⟩
     · exact(j2.mk 12 0 (((l.set (by simp) _).set (by simp) _).set (by simp) _) E K).since (by omega)
     · exact((hx.setCell (by simp) _).setCell (by simp) _).setCell (by simp) _
     · intro x hx
       rw[HR.out] at hx;cases S with
       |none=> cases hx
       |some y=>
        obtain⟨M,H,L⟩:=G.out y rfl;cases hx
        exact⟨by rw[M],H,L⟩
     · intro hx
       rw[HR.out] at hx;cases S with
       |none=> exact u.out rfl
       |some y=> cases hx
   · rw[if_neg (by intro h;cases h;exact b rfl)] at f
     have t2:((p:Int) !=60)=true:=by rw[bne_iff_ne];intro h;exact b (UInt8.toNat_inj.1 (by rw[o];simp;omega))
     have HR:=hdq f;clear f b;go_enter func195,ntmps195;go_wp2_with fail;exact aO (v:= .tuple #[.agg #[.int .i64 0,.int .i64 0,.slice none 0 0],.int .i64 (-1)]) (by simp[aQ,results195,go_sem]) rfl (pr _ _ _ _ _ HR.out ((xr w).alloc _))
 · rw[Po s (by omega),if_neg (by simp)] at f
   have t1:decide ((s.size:Int) <(a:Int)+2)=true:=decide_eq_true (by omega);have HR:=hdq f;clear f;go_enter func195,ntmps195;go_wp2_with fail;exact aO (v:= .tuple #[.agg #[.int .i64 0,.int .i64 0,.slice none 0 0],.int .i64 (-1)]) (by simp[aQ,results195,go_sem]) rfl (pr _ _ _ _ _ HR.out ((xr w).alloc _))
theorem yH(d:Nat)(hd:d<=30)(s:ByteArray)(a:Nat)(w:aK)(hs:s.size<=1000000000)(l:a < s.size)(c:UInt8)(hc:s[a]=c)(hk:Sk c=0):
 aV prog 195 #[.string s,.int .i64 a,.int .i64 ((d:Int)+1)] w (Xa w.heap.size w s.size (blk (Z5 d s.data.toList) s.data.toList a c)):=by
 have HR:=hdq (show blk (Z5 d s.data.toList) s.data.toList a c=none from by unfold blk;rw[if_pos hk]);generalize blk (Z5 d s.data.toList) s.data.toList a c=R at HR⊢;obtain⟨p,b⟩: ∃p,c.toNat=p:=⟨_,rfl⟩;have i:c≠60:=fun h=> by rw[h] at hk;exact absurd hk (by decide)
 have f:c≠123:=fun h=> by rw[h] at hk;exact absurd hk (by decide)
 have g:c≠124:=fun h=> by rw[h] at hk;exact absurd hk (by decide)
 have e:c≠64:=fun h=> by rw[h] at hk;exact absurd hk (by decide)
 have t1:((p:Int)==60)=false:=by rw[beq_eq_false_iff_ne];intro h;exact i (UInt8.toNat_inj.1 (by rw[b];simp;omega))
 have t2:((p:Int)==123)=false:=by rw[beq_eq_false_iff_ne];intro h;exact f (UInt8.toNat_inj.1 (by rw[b];simp;omega))
 have j:((p:Int)==124)=false:=by rw[beq_eq_false_iff_ne];intro h;exact g (UInt8.toNat_inj.1 (by rw[b];simp;omega))
 have k:((p:Int)==64)=false:=by rw[beq_eq_false_iff_ne];intro h;exact e (UInt8.toNat_inj.1 (by rw[b];simp;omega))
 clear i f g e hk;go_enter func195,ntmps195;go_wp2_with fail;exact aO (v:= .tuple #[.agg #[.int .i64 0,.int .i64 0,.slice none 0 0],.int .i64 (-1)]) (by simp[aQ,results195,go_sem]) rfl (pr _ _ _ _ _ HR.out ((xr w).alloc _))
end Go.Proofs.YtckhbnmfnpolgaaGreat
namespace Go.Proofs.YtckhbnmfnpolgaaGreat
open Go.RowKit
attribute [local go_sem ↓] Go.wp_at_zero Go.wp_at_succ
theorem Mw{w:aK}{base a k n:Nat}{e:TypeId}{v:aS}{c:List aS}(h:w.ownsRow base e k v n c)(f:a<=base):w.ownsRow a e k v n c:=by
 refine⟨h.1, ?_⟩;rcases h.2 with h|⟨g,cap,b,rfl,d,r⟩
 · exact .inl h
 · exact .inr ⟨g,cap,b,rfl,Nat.le_trans f d,r⟩
def ip(w:aK)(u:aS)(p:List Int):Prop:=yk w (fun b=> b < w.heap.size) u p
theorem ip.ext{w c:aK}{u:aS}{p:List Int}(h:ip w u p)(d:Ext w c):ip c u p:=h.mono (fun b a=> Nat.lt_of_lt_of_le a d.size) (fun b a=> d.heap b a)
theorem Kw{w:aK}{base:Nat}{e:TypeId}{v:aS}{p:List Int}(h:w.ownsRow base e 1 v p.length (p.map (Value.int .i64))):ip w v p:=(GF h).mono (fun b a=> a.2.1) (fun _ _=> rfl)
theorem oC:(prog.info? 3).map (fun i=>(i.zero,i.size,i.bytes))=some (some (.int .i64 0),1,8):=by kernel_rfl
theorem Ext.ownsRow{w b:aK}{base n:Nat}{e:TypeId}{k:Nat}{v:aS}{a:List aS}(d:Ext w b)(h:w.ownsRow base e k v n a):b.ownsRow base e k v n a:=KI h (fun g c=> d.heap g (h.lt g c).2)
