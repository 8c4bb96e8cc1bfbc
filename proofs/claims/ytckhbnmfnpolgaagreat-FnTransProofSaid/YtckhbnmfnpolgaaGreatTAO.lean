/- Lemmas towards the law. -/
import Derived.Test.YtckhbnmfnpolgaaGreatTAN
open Go renaming World->aN,heap_alloc_new->aT,bodyPost_ret->aQ,results->aS,Value->aU,Calls->aY,Program->fM
open Nat renaming le_refl->aP,lt_or_ge->kZ
open Go.RowKit.Below renaming heap_setCell->aM
open Bool renaming and_eq_true->aX
open Go.Proofs.Tryz
set_option linter.all false
set_option maxHeartbeats 2000000
set_option maxRecDepth 100000
namespace Go.Proofs.YtckhbnmfnpolgaaGreat
open Go.RowKit
def QK(b c a B:Nat)(x i g:Int)(d:Option Addr)(e f:Nat)(w:aN)(s:Bool):Prop:=(b < B/\c < B/\a < B)/\w.heap[b]? =some (.cells #[.int .i64 x] 3 (0,0))/\w.heap[c]? =some (.cells #[.int .i64 i,.int .i64 g,.slice d e f] 25 (0,0))/\w.heap[a]? =some (.cells #[.bool s] 4 (0,0))
theorem Tx(a:aN)(K I d B:Nat)(x g f:Int)(Au:Option Addr)(c:List Tr)(cu:Nat)(J7:Lies a (.mk g f c) (.agg #[.int .i64 g,.int .i64 f,.slice Au c.length cu]))(ko:valid sigT (.mk g f c)=true)(G:K≠d)(N:I≠d)(hx0:0<=x)(hx1:x<=1000):
 zk a K I d [d] (QK K I d B x g f Au c.length cu) (Bm (.mk g f c) x) (Zg (.mk g f c) x):=by
 intro w s n b ha hI O8 R7 D J;obtain⟨S,t,o,l⟩:=hI;have c1:=E1 t 0;obtain⟨y0,y1,y2,-,-,-⟩:=own3 o;have c3:=E1 l 0;have l1:=D1 t;have l2:=D1 o;have l3:=D1 l;have T:=hdq t;have R:=hdq o;have P:=hdq l;have Q:=hdq (fun m W=> VD m W);have q:=hdq (fun W (hW:Ext w W)=> aD (.mk g f c) b 0 W _ (J7.ext (ha.trans hW)) ko D J (by omega) (by omega));have hg:Bm (.mk g f c) x n b=if n - b=x then okT (shfT b (.mk g f c) 0) else .mk 1 (if x < n - b then n - 1 else n) []:=rfl
 have X:Zg (.mk g f c) x n b=if n - b=x then valid sigT (shfT b (.mk g f c) 0) else true:=rfl
 rw[hg,X];clear hg X;by_cases h:n - b=x
 · rw[if_pos h,if_pos h]
   have d1:(n - b==x)=true:=beq_iff_eq.2 h;clear h Q;generalize valid sigT (shfT b (.mk g f c) 0)=vb at q⊢;generalize okT (shfT b (.mk g f c) 0)=rt at q⊢;clear t o l;have hx:=(xr w).alloc (.cells #[.int .i64 0,.int .i64 0,.slice none 0 0] 25);have F6:=aT w (.cells #[.int .i64 0,.int .i64 0,.slice none 0 0] 25);go_enter func158,ntmps158;go_wp2_with fail;refine(q.out _ hx).mono ?_;rintro e Y ⟨u,rfl,Z,i⟩;obtain⟨U,H,E,M,F,rfl⟩:=Z.three';have C:=(hx.trans i).blk P.out;have g3:=E1 C 0;have f3:=mc C 0;have g4:=D1 C;have V:=i.blk F6;obtain⟨z,y,k,f0,f1,f2⟩:=own3 V;have gR:=D1 V;clear c1 c3 y0 y1 y2 q;cases s <;> cases vb
   all_goals go_wp2_with fail
   all_goals(
    have o2:=fun r=>(((((oE (L:= [d]) (hx.trans i)).setCell (p:=⟨d,0,none⟩) (by simp) r).setNew (p:=⟨w.heap.size,0,none⟩) (aP _) (.int .i64 U)).setNew (p:=⟨w.heap.size,1,none⟩) (aP _) (.int .i64 H)).setNew (p:=⟨w.heap.size,2,none⟩) (aP _) (.slice E M F)).alloc (.cells #[.int .i64 U,.int .i64 H,.slice E M F] 25)
    have hz:(w.alloc (.cells #[.int .i64 0,.int .i64 0,.slice none 0 0] 25)).heap.size=w.heap.size+1:=by simp
    refine aQ (v:= .agg #[.int .i64 U,.int .i64 H,.slice E M F]) (by simp[aS,results158,go_sem,z,y,k,gR]) rfl ⟨_,rfl, ?_,o2 _,S,(o2 _).blk T.out (by simpa using G),(o2 _).blk R.out (by simpa using N), ?_⟩
    · exact((Z.after ((((Ua.refl _ _).setCell (p:=⟨d,0,none⟩) (by show d < _;omega) _).setCell (p:=⟨w.heap.size,0,none⟩) (by show w.heap.size < _;omega) _).setCell (p:=⟨w.heap.size,1,none⟩) (by show w.heap.size < _;omega) _|>.setCell (p:=⟨w.heap.size,2,none⟩) (by show w.heap.size < _;omega) _)).ext ((xr _).alloc _)).since (by omega)
    · rw[Below.heap_alloc _ _ _ (by simp;omega),aM _ _ _ _ (by show d≠w.heap.size;omega),aM _ _ _ _ (by show d≠w.heap.size;omega),aM _ _ _ _ (by show d≠w.heap.size;omega),b6 C 0 _]
      rfl)
 · rw[if_neg h,if_neg h,Bool.and_true]
   have d1:(n - b==x)=false:=beq_eq_false_iff_ne.2 h;clear q h t o l;by_cases j:x < n - b
   · rw[if_pos j]
     have d2:decide (x < n - b)=true:=decide_eq_true j;clear j;go_enter func158,ntmps158;go_wp2_with fail;refine(Q.out _ _).mono ?_;rintro e Y ⟨rfl,i⟩;have A:=i.newBlk;obtain⟨z,y,k,f0,f1,f2⟩:=own3 A;have o2:=((i1.refl [d] w).alloc (.cells #[.int .i64 0,.int .i64 0,.slice none 0 0] 25)).trans (oE i);have O:=(Ext.blk i.pre P.out);clear A;go_wp2_with fail;refine aQ (v:= .agg #[.int .i64 1,.int .i64 (n - 1),.slice none 0 0]) (by simp[aS,results158,go_sem,z,y,k]) rfl ⟨_,rfl,W0.leaf _ _ _ _ _, ?_,S, ?_, ?_, ?_⟩
     · exact(((o2.setNew (by simp) _).setNew (by simp) _).setNew (by simp) _)
     · exact(((o2.setNew (by simp) _).setNew (by simp) _).setNew (by simp) _).blk T.out (by simpa using G)
     · exact(((o2.setNew (by simp) _).setNew (by simp) _).setNew (by simp) _).blk R.out (by simpa using N)
     · rw[aM _ _ _ _ (by show d≠w.heap.size;omega),aM _ _ _ _ (by show d≠w.heap.size;omega),aM _ _ _ _ (by show d≠w.heap.size;omega),O]
   · rw[if_neg j]
     have d2:decide (x < n - b)=false:=decide_eq_false j;clear j;go_enter func158,ntmps158;go_wp2_with fail;refine(Q.out _ _).mono ?_;rintro e Y ⟨rfl,i⟩;have A:=i.newBlk;obtain⟨z,y,k,f0,f1,f2⟩:=own3 A;have o2:=((i1.refl [d] w).alloc (.cells #[.int .i64 0,.int .i64 0,.slice none 0 0] 25)).trans (oE i);have O:=(Ext.blk i.pre P.out);clear A;go_wp2_with fail;refine aQ (v:= .agg #[.int .i64 1,.int .i64 n,.slice none 0 0]) (by simp[aS,results158,go_sem,z,y,k]) rfl ⟨_,rfl,W0.leaf _ _ _ _ _, ?_,S, ?_, ?_, ?_⟩
     · exact(((o2.setNew (by simp) _).setNew (by simp) _).setNew (by simp) _)
     · exact(((o2.setNew (by simp) _).setNew (by simp) _).setNew (by simp) _).blk T.out (by simpa using G)
     · exact(((o2.setNew (by simp) _).setNew (by simp) _).setNew (by simp) _).blk R.out (by simpa using N)
     · rw[aM _ _ _ _ (by show d≠w.heap.size;omega),aM _ _ _ _ (by show d≠w.heap.size;omega),aM _ _ _ _ (by show d≠w.heap.size;omega),O]
theorem BB(t:Tr)(x:Int)(u:Tr)(w:aN)(v vu:aU)(d6:Lies w t v)(hv:valid sigT t=true)(J7:Lies w u vu)(ko:valid sigT u=true)(V:0<=x)(hx1:x<=1000):
 aY prog 119 #[v,j0 x,vu] w fun e w'=> ∃r,e= .returned (.tuple #[r,.bool (valid sigT (X0 u t x 0))])/\W0 w w' 25 (okT (X0 u t x 0)) r/\Ext w w':=by
 obtain⟨hs,D4⟩:=N4 hv;obtain⟨c,G⟩:=VJ (x:=x) (N4 ko).2 hv;obtain⟨Z,M⟩: ∃Z,Z=valid sigT (X0 u t x 0):=⟨_,rfl⟩;obtain⟨K,j⟩: ∃K,K=okT (X0 u t x 0):=⟨_,rfl⟩;rw[<-M,<-j];have J:k9 (Zg u x) t 0=true->K=okT (Y9 (Bm u x) t 0):=fun h=> by rw[G h];exact j
 have U:Z=false->K=D2:=fun h=> by rw[j];unfold okT;rw[<-M,h];rfl
 have mg:=(N4 ko).2;obtain⟨g,d,a⟩:=u;obtain⟨p,o,rfl,Ku,yg,-⟩:=Lies.mk_iff.1 J7;have vq:=fun W (hW:Ext w W) D z i (hp:w.heap.size<=i) (G8:D≠i) (oz:z≠i) (h1:W.heap[D]? =some (.cells #[j0 x] 3 (0,0))) (h2:W.heap[z]? =some (D0 g d p a.length o)) (X:W.heap[i]? =some (.cells #[.bool true] 4 (0,0)))=>
  cG t w W v 0 30 D z i [i] W.heap.size (QK D z i W.heap.size x g d p a.length o) (Bm (.mk g d a) x) (Zg (.mk g d a) x) true hs d6 hW (fun x hx=> by rw[List.mem_singleton.1 hx];exact⟨hp,D1 X⟩) (by omega) (by omega)
   (Tx w D z i _ x g d p a o J7 ko G8 oz V hx1) (fun I w2 s h l=>⟨h.1,l.blk h.2.1,l.blk h.2.2.1,l.blk h.2.2.2⟩) (aP _) (fun I w2 s h l hl=>⟨h.1,(l D h.1.1).trans h.2.1,(l z h.1.2.1).trans h.2.2.1,(l i h.1.2.2).trans h.2.2.2⟩) ⟨⟨D1 h1,D1 h2,D1 X⟩,h1,h2,X⟩
 simp only[Bool.true_and] at vq;rw[<-M] at c;have N:=hdq vq;clear vq G hs j M;generalize Y9 (Bm (.mk g d a) x) t 0=r at c N J;generalize k9 (Zg (.mk g d a) x) t 0=f at c N J;obtain⟨k,n,L⟩:=t;obtain⟨A,cap,rfl,hl,hc,hK⟩:=Lies.mk_iff.1 d6;have hE:=((((xr w).alloc (D0 k n A L.length cap)).alloc (.cells #[j0 x] 3)).alloc (D0 g d p a.length o)).alloc M0;have se:=wo ((xr ((((w.alloc (D0 k n A L.length cap)).alloc (.cells #[j0 x] 3)).alloc (D0 g d p a.length o)).alloc M0)).alloc (.cells #[.bool true] 4));have Q:=aT ((((w.alloc (D0 k n A L.length cap)).alloc (.cells #[j0 x] 3)).alloc (D0 g d p a.length o)).alloc M0) (.cells #[.bool true] 4);have X6:=hE.alloc (.cells #[.bool true] 4);have hsz:(((((w.alloc (D0 k n A L.length cap)).alloc (.cells #[j0 x] 3)).alloc (D0 g d p a.length o)).alloc M0).alloc (.cells #[.bool true] 4)).heap.size=w.heap.size+1+1+1+1+1:=by simp
 obtain⟨H,m,y,q,-⟩:=se;simp only[World.size_alloc] at Q;go_enter func119,ntmps119;go_wp2_with fail;generalize World.alloc _ _=wa at X6 H m y q Q hsz;clear hE;refine(N.out wa X6 _ _ _ (by omega) (by omega) (by omega) m y Q).mono ?_;rintro e I ⟨u,rfl,hM,ho,hI⟩;obtain⟨B,F,C⟩:=r;obtain⟨R,P,rfl,hl2,hc2,Km⟩:=W0.mk_iff.1 hM;have O:=ho.blk q (by simp);have i3:=hI.2.2.2;have hc5:=E1 i3 0;have Kz:=D1 i3;have aa:=D1 O;have Lq:=ho.size;have Y:Ext w I:=ho.ext X6 (fun x hx=> by rw[List.mem_singleton.1 hx];omega);obtain⟨s0,s1,s2,f0,f1,f2⟩:=own3 O;clear N H m y q Q hI i3;have hx:=(xr I).alloc (D0 B F R C.length P);cases f with
 |false=>
  rw[Bool.false_and] at c;have T:=hdq c.symm;have S:=hdq (U c.symm);clear c J U;go_wp2_with fail;refine aQ (v:= .tuple #[m0 0 0 none 0 0,.bool false]) (by simp[aS,results119,go_sem,s0,s1,s2,aa]) rfl ⟨m0 0 0 none 0 0,by rw[T.out],by rw[S.out];exact W0.leaf _ _ _ _ _, ?_⟩;exact(((Y.setCell (by simp;omega) _).setCell (by simp;omega) _).setCell (by simp;omega) _).alloc _
 |true=>
  rw[Bool.true_and] at c;have HV:=hdq (fun W (hW:Ext I W)=> mw B F C R P W (hM.lies.ext hW));generalize ft:valid sigT (.mk B F C)=b at HV;have hO:K=if b=true then .mk B F C else D2:=by rw[J rfl];unfold okT;rw[ft]
  rw[ft] at c;have T:=hdq c.symm;have S:=hdq hO;clear hO c ft J U;go_wp2_with fail;refine(HV.out _ hx).mono ?_;cases b with
  |true=>
   simp only[if_true];rintro e w2 ⟨rfl,E⟩;obtain⟨q0,q1,q2,g0,g1,g2⟩:=own3 ((hx.trans E).blk O);go_wp2_with fail;refine aQ (v:= .tuple #[m0 B F R C.length P,.bool true]) (by simp[aS,results119,go_sem,q0,q1,q2]) rfl ⟨m0 B F R C.length P,by rw[T.out], ?_, ?_⟩
   · rw[S.out]
     simp only[if_true];exact W0.since (((hM.ext (hx.trans E)).after ((((Ua.refl _ _).setCell (by simp;omega) _).setCell (by simp;omega) _).setCell (by simp;omega) _))) (by omega)
   · exact(((((Y.trans hx).trans E).setCell (by simp;omega) _).setCell (by simp;omega) _).setCell (by simp;omega) _)
  |false=>
   simp only[Bool.false_eq_true,if_false];rintro e w2 ⟨rfl,E⟩;obtain⟨q0,q1,q2,g0,g1,g2⟩:=own3 ((hx.trans E).blk O);go_wp2_with fail;refine aQ (v:= .tuple #[m0 0 0 none 0 0,.bool false]) (by simp[aS,results119,go_sem,q0,q1,q2]) rfl ⟨m0 0 0 none 0 0,by rw[T.out],by rw[S.out];exact W0.leaf _ _ _ _ _, ?_⟩;exact(((((Y.trans hx).trans E).setCell (by simp;omega) _).setCell (by simp;omega) _).setCell (by simp;omega) _)
theorem Ug{d:Nat}{l:List UInt8}{a:Nat}{c:UInt8}(h:l[a]? =some c):b7 (d+1) l a=
 (if c=35 then(Y8 l (a+1) true).map (fun x=>(.mk 1 x.1 [],x.2))
 else if c=42 then(Y8 l (a+1) false).map (fun x=>(.mk 2 x.1 [],x.2))
 else if c=78 then some (.mk 6 0 [],a+1)
 else if c=48 then some (.mk 7 0 [],a+1)
 else if c=43 then one 8 (b7 d l (a+1))
 else if c=33 then one 11 (b7 d l (a+1))
 else if c=94 then one 15 (b7 d l (a+1))
 else if c=95 then one 16 (b7 d l (a+1))
 else if c=40 then Yz (b7 d l) l (a+1)
 else if c=91 then yD (b7 d l) l (a+1)
 else blk (b7 d l) l a c):=by
 conv=> lhs;unfold b7
 rw[h]
theorem qE{d:Nat}{l:List UInt8}{a:Nat}(h:l[a]? =none):b7 d l a=none:=by
 cases d with
 |zero=> rfl
 |succ d=>
  unfold b7;rw[h]
theorem qF{l:List UInt8}{a:Nat}{two:Bool}{x:Int×Nat}(h:Y8 l a two=some x):x.2<=l.length:=by
 unfold Y8 at h;cases e:l[a]?with
 |none=> rw[e] at h;cases h
 |some c=>
  have f:a < l.length:=by
   rcases kZ a l.length with g|g
   · exact g
   · rw[List.getElem?_eq_none g] at e;cases e
  rw[e] at h;simp only at h
  split at h
  · split at h
    · cases b:l[a+1]?with
      |none=> rw[b] at h;cases h;exact f
      |some d=>
       have i:a+1 < l.length:=by
        rcases kZ (a+1) l.length with g|g
        · exact g
        · rw[List.getElem?_eq_none g] at b;cases b
       rw[b] at h;simp only at h
       split at h
       · split at h
         · cases h
         · cases h;exact i
       · cases h;exact f
    · cases h;exact f
  · cases h
theorem iJ(d:Nat)(hd:d<=30)(s:ByteArray)(a:Nat)(w:aN)(hs:s.size<=1000000000)(n:a < s.size)(hc:s[a]=35):
 aY prog 176 #[.string s,j0 a,j0 ((d:Int)+1)] w (Sb w.heap.size w s.size (b7 (d+1) s.data.toList a)):=by
 have k:b7 (d+1) s.data.toList a=(Y8 s.data.toList (a+1) true).map (fun x=>(.mk 1 x.1 [],x.2)):=by rw[Ug (oe n hc)];rfl
 rw[k];have hN:=fun W=> FJ s (a+1) W hs (by omega)
 have b: ∀x,Y8 s.data.toList (a+1) true=some x->x.2<=s.size:=fun x h=> by have:=qF h;simpa using this
 obtain⟨S,hS⟩: ∃S,S=Y8 s.data.toList (a+1) true:=⟨_,rfl⟩;rw[<-hS] at hN b⊢;rw[show((a+1:Nat):Int)=(a:Int)+1 by omega] at hN;have p:=hdq hN;have o:=hdq b;clear k hN b hS;go_enter func176,ntmps176;go_wp2_with fail;refine(p.out _).mono ?_;rintro e u ⟨rfl,rfl⟩;obtain⟨x,hx⟩: ∃x,x=(gc S).1:=⟨_,rfl⟩;obtain⟨f,g⟩: ∃f,f=(gc S).2:=⟨_,rfl⟩;rw[<-hx,<-g];have q:=hdq hx;have j:=hdq g;clear hx g;go_wp2_with fail;refine(y15 _ 1 x).mono ?_;rintro e C ⟨rfl,i⟩;obtain⟨t,r,m,D,A,B⟩:=own3 i.newBlk;have l:=i.size_alloc;have hE:=((xr w).alloc M0).trans i;go_wp2_with fail;refine aQ (v:= .tuple #[m0 1 x none 0 0,j0 f]) (by simp[aS,results176,go_sem,t,r,m]) rfl ⟨.mk 1 x [],_,f,rfl,E2.leaf _ _ _ _,((hE.setCell (by simp) _).setCell (by simp) _).setCell (by simp) _, ?_, ?_⟩
 · intro z c
   cases S with
   |none=> cases c
   |some y=>
    cases c
    exact⟨by rw[q.out];rfl,by rw[j.out];rfl,o.out y rfl⟩
 · intro c
   cases S with
   |none=> rw[j.out];rfl
   |some y=> cases c
theorem qK(d:Nat)(hd:d<=30)(s:ByteArray)(a:Nat)(w:aN)(hs:s.size<=1000000000)(n:a < s.size)(hc:s[a]=42):
 aY prog 176 #[.string s,j0 a,j0 ((d:Int)+1)] w (Sb w.heap.size w s.size (b7 (d+1) s.data.toList a)):=by
 have k:b7 (d+1) s.data.toList a=(Y8 s.data.toList (a+1) false).map (fun x=>(.mk 2 x.1 [],x.2)):=by rw[Ug (oe n hc)];rfl
 rw[k];have hN:=fun W=> kI s (a+1) W hs (by omega)
 have b: ∀x,Y8 s.data.toList (a+1) false=some x->x.2<=s.size:=fun x h=> by have:=qF h;simpa using this
 obtain⟨S,hS⟩: ∃S,S=Y8 s.data.toList (a+1) false:=⟨_,rfl⟩;rw[<-hS] at hN b⊢;rw[show((a+1:Nat):Int)=(a:Int)+1 by omega] at hN;have p:=hdq hN;have o:=hdq b;clear k hN b hS;go_enter func176,ntmps176;go_wp2_with fail;refine(p.out _).mono ?_;rintro e u ⟨rfl,rfl⟩;obtain⟨x,hx⟩: ∃x,x=(gc S).1:=⟨_,rfl⟩;obtain⟨f,g⟩: ∃f,f=(gc S).2:=⟨_,rfl⟩;rw[<-hx,<-g];have q:=hdq hx;have j:=hdq g;clear hx g;go_wp2_with fail;refine(y15 _ 2 x).mono ?_;rintro e C ⟨rfl,i⟩;obtain⟨t,r,m,D,A,B⟩:=own3 i.newBlk;have l:=i.size_alloc;have hE:=((xr w).alloc M0).trans i;go_wp2_with fail;refine aQ (v:= .tuple #[m0 2 x none 0 0,j0 f]) (by simp[aS,results176,go_sem,t,r,m]) rfl ⟨.mk 2 x [],_,f,rfl,E2.leaf _ _ _ _,((hE.setCell (by simp) _).setCell (by simp) _).setCell (by simp) _, ?_, ?_⟩
 · intro z c
   cases S with
   |none=> cases c
   |some y=>
    cases c
    exact⟨by rw[q.out];rfl,by rw[j.out];rfl,o.out y rfl⟩
 · intro c
   cases S with
   |none=> rw[j.out];rfl
   |some y=> cases c
theorem PJ(d:Nat)(hd:d<=30)(s:ByteArray)(a:Nat)(w:aN)(hs:s.size<=1000000000)(f:a < s.size)(hc:s[a]=78):
 aY prog 176 #[.string s,j0 a,j0 ((d:Int)+1)] w (Sb w.heap.size w s.size (b7 (d+1) s.data.toList a)):=by
 have HR:=hdq (show b7 (d+1) s.data.toList a=some (.mk 6 0 [],a+1) from by rw[Ug (oe f hc)];rfl);generalize b7 (d+1) s.data.toList a=R at HR⊢;go_enter func176,ntmps176;go_wp2_with fail;refine(y15 _ 6 0).mono ?_;rintro e n ⟨rfl,c⟩;obtain⟨k,j,i,o,l,m⟩:=own3 c.newBlk;have g:=c.size_alloc;have hE:=((xr w).alloc M0).trans c;go_wp2_with fail;refine aQ (v:= .tuple #[m0 6 0 none 0 0,j0 ((a:Int)+1)]) (by simp[aS,results176,go_sem,k,j,i]) rfl ⟨.mk 6 0 [],_,_,rfl,E2.leaf _ _ _ _,((hE.setCell (by simp) _).setCell (by simp) _).setCell (by simp) _, ?_, ?_⟩
 · intro z b
   rw[HR.out] at b;cases b
   exact⟨rfl,by simp,f⟩
 · intro b
   rw[HR.out] at b;cases b
theorem tJ(d:Nat)(hd:d<=30)(s:ByteArray)(a:Nat)(w:aN)(hs:s.size<=1000000000)(f:a < s.size)(hc:s[a]=48):
 aY prog 176 #[.string s,j0 a,j0 ((d:Int)+1)] w (Sb w.heap.size w s.size (b7 (d+1) s.data.toList a)):=by
 have HR:=hdq (show b7 (d+1) s.data.toList a=some (.mk 7 0 [],a+1) from by rw[Ug (oe f hc)];rfl);generalize b7 (d+1) s.data.toList a=R at HR⊢;go_enter func176,ntmps176;go_wp2_with fail;refine(y15 _ 7 0).mono ?_;rintro e n ⟨rfl,c⟩;obtain⟨k,j,i,o,l,m⟩:=own3 c.newBlk;have g:=c.size_alloc;have hE:=((xr w).alloc M0).trans c;go_wp2_with fail;refine aQ (v:= .tuple #[m0 7 0 none 0 0,j0 ((a:Int)+1)]) (by simp[aS,results176,go_sem,k,j,i]) rfl ⟨.mk 7 0 [],_,_,rfl,E2.leaf _ _ _ _,((hE.setCell (by simp) _).setCell (by simp) _).setCell (by simp) _, ?_, ?_⟩
 · intro z b
   rw[HR.out] at b;cases b
   exact⟨rfl,by simp,f⟩
 · intro b
   rw[HR.out] at b;cases b
theorem Sb.on{B:Nat}{w:aN}{size:Nat}{o:Option (Tr×Nat)}{e:Ending}{b:aN}(h:Sb B w size o e b): ∃(t:Tr) (k n:Int) (A:Option Addr) (l c:Nat) (a:Int),e= .returned (.tuple #[m0 k n A l c,j0 a])/\E2 B b t (m0 k n A l c)/\Ext w b/\Hid ((∀x,o=some x->t=x.1/\a=x.2/\x.2<=size)/\(o=none->a= -1)):=by
 obtain⟨t,u,a,rfl,hF,d,q⟩:=h;obtain⟨k,n,A,l,c,rfl⟩:=hF.three;exact⟨t,k,n,A,l,c,a,rfl,hF,d,hdq q⟩
theorem cF(d:Nat)(ih:Yd d)(s:ByteArray)(a:Nat)(w:aN)(hs:s.size<=1000000000)(b:a < s.size):
 aY prog 194 #[.string s,j0 ((a:Int)+1),j0 d] w (Sb w.heap.size w s.size (Yz (b7 d s.data.toList) s.data.toList (a+1))):=by
 have:=fJ d ih s (a+1) w hs b
 rwa [show((a+1:Nat):Int)=(a:Int)+1 by omega] at this
theorem eH(d:Nat)(hd:d<=30)(ih:Yd d)(s:ByteArray)(a:Nat)(w:aN)(hs:s.size<=1000000000)(i:a < s.size)(hc:s[a]=43):
 aY prog 176 #[.string s,j0 a,j0 ((d:Int)+1)] w (Sb w.heap.size w s.size (b7 (d+1) s.data.toList a)):=by
 have z:=hdq (fun W=> EI d ih s a W hs i hc hd);have j:=Ug (d:=d) (oe i hc);rw[j];clear j
 repeat rw[if_neg (by decide)]
 try rw[if_pos rfl]
 clear ih;go_enter func176,ntmps176;go_wp2_with fail;refine(z.out _).mono ?_;intro e u m;obtain⟨t,n,g,k,l,f,o,rfl,hF,c,p⟩:=m.on;obtain⟨y,x,r,C,A,B⟩:=own3 c.newBlk;have q:=c.size_alloc;have hE:=((xr w).alloc M0).trans c;have b:E2 (w.heap.size+1) u t (m0 n g k l f):=by simpa using hF
 clear m hF;go_wp2_with fail;exact aQ (v:= .tuple #[m0 n g k l f,j0 o]) (by simp[aS,results176,go_sem,y,x,r]) rfl ⟨t,_,o,rfl,(((b.set (by simp) _).set (by simp) _).set (by simp) _).since (by omega),((hE.setCell (by simp) _).setCell (by simp) _).setCell (by simp) _,p.out.1,p.out.2⟩
theorem YG(d:Nat)(hd:d<=30)(ih:Yd d)(s:ByteArray)(a:Nat)(w:aN)(hs:s.size<=1000000000)(i:a < s.size)(hc:s[a]=33):
 aY prog 176 #[.string s,j0 a,j0 ((d:Int)+1)] w (Sb w.heap.size w s.size (b7 (d+1) s.data.toList a)):=by
 have z:=hdq (fun W=> PG d ih s a W hs i hc hd);have j:=Ug (d:=d) (oe i hc);rw[j];clear j
 repeat rw[if_neg (by decide)]
 try rw[if_pos rfl]
 clear ih;go_enter func176,ntmps176;go_wp2_with fail;refine(z.out _).mono ?_;intro e u m;obtain⟨t,n,g,k,l,f,o,rfl,hF,c,p⟩:=m.on;obtain⟨y,x,r,C,A,B⟩:=own3 c.newBlk;have q:=c.size_alloc;have hE:=((xr w).alloc M0).trans c;have b:E2 (w.heap.size+1) u t (m0 n g k l f):=by simpa using hF
 clear m hF;go_wp2_with fail;exact aQ (v:= .tuple #[m0 n g k l f,j0 o]) (by simp[aS,results176,go_sem,y,x,r]) rfl ⟨t,_,o,rfl,(((b.set (by simp) _).set (by simp) _).set (by simp) _).since (by omega),((hE.setCell (by simp) _).setCell (by simp) _).setCell (by simp) _,p.out.1,p.out.2⟩
theorem TG(d:Nat)(hd:d<=30)(ih:Yd d)(s:ByteArray)(a:Nat)(w:aN)(hs:s.size<=1000000000)(i:a < s.size)(hc:s[a]=94):
 aY prog 176 #[.string s,j0 a,j0 ((d:Int)+1)] w (Sb w.heap.size w s.size (b7 (d+1) s.data.toList a)):=by
 have z:=hdq (fun W=> AJ d ih s a W hs i hc hd);have j:=Ug (d:=d) (oe i hc);rw[j];clear j
 repeat rw[if_neg (by decide)]
 try rw[if_pos rfl]
 clear ih;go_enter func176,ntmps176;go_wp2_with fail;refine(z.out _).mono ?_;intro e u m;obtain⟨t,n,g,k,l,f,o,rfl,hF,c,p⟩:=m.on;obtain⟨y,x,r,C,A,B⟩:=own3 c.newBlk;have q:=c.size_alloc;have hE:=((xr w).alloc M0).trans c;have b:E2 (w.heap.size+1) u t (m0 n g k l f):=by simpa using hF
 clear m hF;go_wp2_with fail;exact aQ (v:= .tuple #[m0 n g k l f,j0 o]) (by simp[aS,results176,go_sem,y,x,r]) rfl ⟨t,_,o,rfl,(((b.set (by simp) _).set (by simp) _).set (by simp) _).since (by omega),((hE.setCell (by simp) _).setCell (by simp) _).setCell (by simp) _,p.out.1,p.out.2⟩
theorem yI(d:Nat)(hd:d<=30)(ih:Yd d)(s:ByteArray)(a:Nat)(w:aN)(hs:s.size<=1000000000)(i:a < s.size)(hc:s[a]=95):
 aY prog 176 #[.string s,j0 a,j0 ((d:Int)+1)] w (Sb w.heap.size w s.size (b7 (d+1) s.data.toList a)):=by
 have z:=hdq (fun W=> LG d ih s a W hs i hc hd);have j:=Ug (d:=d) (oe i hc);rw[j];clear j
 repeat rw[if_neg (by decide)]
 try rw[if_pos rfl]
 clear ih;go_enter func176,ntmps176;go_wp2_with fail;refine(z.out _).mono ?_;intro e u m;obtain⟨t,n,g,k,l,f,o,rfl,hF,c,p⟩:=m.on;obtain⟨y,x,r,C,A,B⟩:=own3 c.newBlk;have q:=c.size_alloc;have hE:=((xr w).alloc M0).trans c;have b:E2 (w.heap.size+1) u t (m0 n g k l f):=by simpa using hF
 clear m hF;go_wp2_with fail;exact aQ (v:= .tuple #[m0 n g k l f,j0 o]) (by simp[aS,results176,go_sem,y,x,r]) rfl ⟨t,_,o,rfl,(((b.set (by simp) _).set (by simp) _).set (by simp) _).since (by omega),((hE.setCell (by simp) _).setCell (by simp) _).setCell (by simp) _,p.out.1,p.out.2⟩
theorem MH(d:Nat)(hd:d<=30)(ih:Yd d)(s:ByteArray)(a:Nat)(w:aN)(hs:s.size<=1000000000)(i:a < s.size)(hc:s[a]=60):
 aY prog 176 #[.string s,j0 a,j0 ((d:Int)+1)] w (Sb w.heap.size w s.size (b7 (d+1) s.data.toList a)):=by
 have z:=hdq (fun W=> xJ d hd ih s a W hs i hc);have j:=Ug (d:=d) (oe i hc);rw[j];clear j
 repeat rw[if_neg (by decide)]
 try rw[if_pos rfl]
 clear ih;go_enter func176,ntmps176;go_wp2_with fail;refine(z.out _).mono ?_;intro e u m;obtain⟨t,n,g,k,l,f,o,rfl,hF,c,p⟩:=m.on;obtain⟨y,x,r,C,A,B⟩:=own3 c.newBlk;have q:=c.size_alloc;have hE:=((xr w).alloc M0).trans c;have b:E2 (w.heap.size+1) u t (m0 n g k l f):=by simpa using hF
 clear m hF;go_wp2_with fail;exact aQ (v:= .tuple #[m0 n g k l f,j0 o]) (by simp[aS,results176,go_sem,y,x,r]) rfl ⟨t,_,o,rfl,(((b.set (by simp) _).set (by simp) _).set (by simp) _).since (by omega),((hE.setCell (by simp) _).setCell (by simp) _).setCell (by simp) _,p.out.1,p.out.2⟩
theorem OH(d:Nat)(hd:d<=30)(ih:Yd d)(s:ByteArray)(a:Nat)(w:aN)(hs:s.size<=1000000000)(i:a < s.size)(hc:s[a]=123):
 aY prog 176 #[.string s,j0 a,j0 ((d:Int)+1)] w (Sb w.heap.size w s.size (b7 (d+1) s.data.toList a)):=by
 have z:=hdq (fun W=> JJ d hd ih s a W hs i hc);have j:=Ug (d:=d) (oe i hc);rw[j];clear j
 repeat rw[if_neg (by decide)]
 try rw[if_pos rfl]
 clear ih;go_enter func176,ntmps176;go_wp2_with fail;refine(z.out _).mono ?_;intro e u m;obtain⟨t,n,g,k,l,f,o,rfl,hF,c,p⟩:=m.on;obtain⟨y,x,r,C,A,B⟩:=own3 c.newBlk;have q:=c.size_alloc;have hE:=((xr w).alloc M0).trans c;have b:E2 (w.heap.size+1) u t (m0 n g k l f):=by simpa using hF
 clear m hF;go_wp2_with fail;exact aQ (v:= .tuple #[m0 n g k l f,j0 o]) (by simp[aS,results176,go_sem,y,x,r]) rfl ⟨t,_,o,rfl,(((b.set (by simp) _).set (by simp) _).set (by simp) _).since (by omega),((hE.setCell (by simp) _).setCell (by simp) _).setCell (by simp) _,p.out.1,p.out.2⟩
theorem CK(d:Nat)(hd:d<=30)(ih:Yd d)(s:ByteArray)(a:Nat)(w:aN)(hs:s.size<=1000000000)(i:a < s.size)(hc:s[a]=124):
 aY prog 176 #[.string s,j0 a,j0 ((d:Int)+1)] w (Sb w.heap.size w s.size (b7 (d+1) s.data.toList a)):=by
 have z:=hdq (fun W=> SH d hd ih s a W hs i hc);have j:=Ug (d:=d) (oe i hc);rw[j];clear j
 repeat rw[if_neg (by decide)]
 try rw[if_pos rfl]
 clear ih;go_enter func176,ntmps176;go_wp2_with fail;refine(z.out _).mono ?_;intro e u m;obtain⟨t,n,g,k,l,f,o,rfl,hF,c,p⟩:=m.on;obtain⟨y,x,r,C,A,B⟩:=own3 c.newBlk;have q:=c.size_alloc;have hE:=((xr w).alloc M0).trans c;have b:E2 (w.heap.size+1) u t (m0 n g k l f):=by simpa using hF
 clear m hF;go_wp2_with fail;exact aQ (v:= .tuple #[m0 n g k l f,j0 o]) (by simp[aS,results176,go_sem,y,x,r]) rfl ⟨t,_,o,rfl,(((b.set (by simp) _).set (by simp) _).set (by simp) _).since (by omega),((hE.setCell (by simp) _).setCell (by simp) _).setCell (by simp) _,p.out.1,p.out.2⟩
theorem UI(d:Nat)(hd:d<=30)(ih:Yd d)(s:ByteArray)(a:Nat)(w:aN)(hs:s.size<=1000000000)(i:a < s.size)(hc:s[a]=64):
 aY prog 176 #[.string s,j0 a,j0 ((d:Int)+1)] w (Sb w.heap.size w s.size (b7 (d+1) s.data.toList a)):=by
 have z:=hdq (fun W=> YF d hd ih s a W hs i hc);have j:=Ug (d:=d) (oe i hc);rw[j];clear j
 repeat rw[if_neg (by decide)]
 try rw[if_pos rfl]
 clear ih;go_enter func176,ntmps176;go_wp2_with fail;refine(z.out _).mono ?_;intro e u m;obtain⟨t,n,g,k,l,f,o,rfl,hF,c,p⟩:=m.on;obtain⟨y,x,r,C,A,B⟩:=own3 c.newBlk;have q:=c.size_alloc;have hE:=((xr w).alloc M0).trans c;have b:E2 (w.heap.size+1) u t (m0 n g k l f):=by simpa using hF
 clear m hF;go_wp2_with fail;exact aQ (v:= .tuple #[m0 n g k l f,j0 o]) (by simp[aS,results176,go_sem,y,x,r]) rfl ⟨t,_,o,rfl,(((b.set (by simp) _).set (by simp) _).set (by simp) _).since (by omega),((hE.setCell (by simp) _).setCell (by simp) _).setCell (by simp) _,p.out.1,p.out.2⟩
theorem FI(d:Nat)(hd:d<=30)(ih:Yd d)(s:ByteArray)(a:Nat)(w:aN)(hs:s.size<=1000000000)(i:a < s.size)(hc:s[a]=40):
 aY prog 176 #[.string s,j0 a,j0 ((d:Int)+1)] w (Sb w.heap.size w s.size (b7 (d+1) s.data.toList a)):=by
 have z:=hdq (fun W=> cF d ih s a W hs i);have j:=Ug (d:=d) (oe i hc);rw[j];clear j
 repeat rw[if_neg (by decide)]
 try rw[if_pos rfl]
 clear ih;go_enter func176,ntmps176;go_wp2_with fail;refine(z.out _).mono ?_;intro e u m;obtain⟨t,n,g,k,l,f,o,rfl,hF,c,p⟩:=m.on;obtain⟨y,x,r,C,A,B⟩:=own3 c.newBlk;have q:=c.size_alloc;have hE:=((xr w).alloc M0).trans c;have b:E2 (w.heap.size+1) u t (m0 n g k l f):=by simpa using hF
 clear m hF;go_wp2_with fail;exact aQ (v:= .tuple #[m0 n g k l f,j0 o]) (by simp[aS,results176,go_sem,y,x,r]) rfl ⟨t,_,o,rfl,(((b.set (by simp) _).set (by simp) _).set (by simp) _).since (by omega),((hE.setCell (by simp) _).setCell (by simp) _).setCell (by simp) _,p.out.1,p.out.2⟩
end Go.Proofs.YtckhbnmfnpolgaaGreat
namespace Go.Proofs.YtckhbnmfnpolgaaGreat
open Go.RowKit
attribute [local go_sem ↓] Go.wp_at_zero Go.wp_at_succ
theorem jj{t:Tr}(h:valid sigT t=true):cnt t<=400/\I0 sigT t 30=true:=by
 unfold valid at h;rw[aX] at h;exact⟨of_decide_eq_true h.2,h.1⟩
end Go.Proofs.YtckhbnmfnpolgaaGreat
namespace Go.Proofs.YtckhbnmfnpolgaaGreat
open Go Go.RowKit
def Ot(P:fM)(ops:Array Oper)(Q:Exit->Act->aN->Prop)(S:aN->Prop)(f:Nat)(l:Array Bool)(w:aN):List Nat->Act->Prop
 | [],a=> wpAnyH P .any ops Q S f l a w
 |i::is,a=> ∃o v,ops[i]? =some o/\YieldsIf P ops S o v a/\Ot P ops Q S f l w is (a.put o.dst v)
def Qn(ops:Array Oper):Array Bool->List Nat->Bool
 |_, []=> true
 |l,i::is=>((ops[i]?).bind (·.dst)).isSome && Region.free .any ops l i &&(Region.ready .any ops l).contains i && Qn ops (l.setIfInBounds i true) is
theorem Ot.run{P:fM}{ops:Array Oper}{Q:Exit->Act->aN->Prop}{S:aN->Prop}{f:Nat}{lT:Array Bool}{w:aN}(hn:Region.noSelect ops=true)(e: ∀d v c a w,Q (.panic c) (a.put (some d) v) w->Q (.panic c) a w)(hS:S w):
 ∀(is:List Nat) (l:Array Bool) (a:Act),Qn ops l is=true->is.foldl (fun l i=> l.setIfInBounds i true) l=lT->Ot P ops Q S f lT w is a->wpAnyH P .any ops Q S (f+is.length) l a w
 | [],l,a,_,hl,h=> by subst hl;exact h
 |i::is,l,a,b,hl,h=> by
  obtain⟨o,v,g,k,j⟩:=h;unfold Qn at b;simp only[aX] at b;obtain⟨d,hd⟩:=Option.isSome_iff_exists.1 b.1.1.1;rw[g] at hd;exact wpAnyH_take g hn b.1.1.2 b.1.2 (fun c a w=> by rw[show o.dst=some d from hd];exact e _ _ c a w) k hS (Ot.run hn e hS is _ _ b.2 hl j)
theorem B3{P:fM}{ops:Array Oper}{Q:Exit->Act->aN->Prop}{S:aN->Prop}{w:aN}{l:Array Bool}{a:Act}{fuel:Nat}(is:List Nat)(f:Nat)(hc:(Region.noSelect ops && Qn ops l is && fuel==f+is.length)=true)(hS:S w)
 (b: ∀d v c a w,Q (.panic c) (a.put (some d) v) w->Q (.panic c) a w) (h:Ot P ops Q S f (is.foldl (fun l i=> l.setIfInBounds i true) l) w is a):wpAnyH P .any ops Q S fuel l a w:=by
 simp only[aX,beq_iff_eq] at hc;obtain⟨⟨g,e⟩,rfl⟩:=hc;exact Ot.run g b hS is l a e rfl h
theorem tk{P:fM}{ops:Array Oper}{Q:Exit->Act->aN->Prop}{S:aN->Prop}{f:Nat}{l:Array Bool}{w:aN}{i:Nat}{is:List Nat}{a:Act}{o:Oper}{v:aU}(d:ops[i]? =some o)(b:Region.wanted o (yielded ops a.tmps)=true)(c: ∀w,S w->(execOp a.eval o).run P w= .ok (.value v) w)
 (h:Ot P ops Q S f l w is (a.put o.dst v)):Ot P ops Q S f l w (i::is) a:=⟨o,v,d,.inl ⟨b,c⟩,h⟩
theorem H0{P:fM}{ops:Array Oper}{Q:Exit->Act->aN->Prop}{S:aN->Prop}{w:aN}{l:Array Bool}{a:Act}{f:Nat}{o:Oper}(i:Nat)(hr:Region.ready .any ops l= [i])(c:ops[i]? =some o)(b:o.guard=none)
 (h: ∀K:Act->aN->Prop,Shut (∀a w,S w->(S w->wpAnyH P .any ops Q S f (l.setIfInBounds i true) a w)->K a w)->o.wp P a w K Q):wpAnyH P .any ops Q S (f+1) l a w:=by
 refine wpAnyH_ready hr (by simp) (AllReadyH.cons c (fun K hK=> ?_) AllReadyH.nil);rw[if_pos (by unfold Region.wanted;rw[b])];exact h K hK
theorem W2:(∀(a:Act) (d:Tmp) (v:aU),a.put (some d) v={a with tmps:=a.tmps.setIfInBounds d v})/\(∀(a:Act) (v:aU),a.put none v=a)/\(∀(l:List aU) (i:Nat) (x:aU),l.toArray.setIfInBounds i x=(l.set i x).toArray)/\(∀(l:List Oper) (i:Nat) (h:i < l.toArray.size),l.toArray[i]'h=l[i]'(by simpa using h))/\(∀(x y:aU) (l:List aU),(x::l).set 0 y=y::l)/\(∀(x y:aU) (l:List aU) (n:Nat),(x::l).set (n+1) y=x::l.set n y)/\(∀(x:Oper) (l:List Oper),(x::l)[0]=x)/\ ∀(x:Oper) (l:List Oper) (i:Nat) (h:i+1 <(x::l).length),(x::l)[i+1]=l[i]'(by simpa using h):=
 ⟨fun _ _ _=> rfl,fun _ _=> rfl,fun _ _ _=> by simp,fun _ _ _=> by simp,fun _ _ _=> rfl,fun _ _ _ _=> rfl,fun _ _=> rfl,fun _ _ _ _=> rfl⟩
end Go.Proofs.YtckhbnmfnpolgaaGreat
namespace Go.Proofs.YtckhbnmfnpolgaaGreat
open Go.RowKit
theorem dI(d:Nat)(hd:d<=30)(ih:Yd d)(s:ByteArray)(a:Nat)(w:aN)(hs:s.size<=1000000000)(Y:a < s.size)(hc:s[a]=91):
 aY prog 176 #[.string s,j0 a,j0 ((d:Int)+1)] w (Sb w.heap.size w s.size (b7 (d+1) s.data.toList a)):=by
 have C:b7 (d+1) s.data.toList a=yD (b7 d s.data.toList) s.data.toList (a+1):=by rw[Ug (oe Y hc)];rfl
 rw[C];clear C;have U:=hdq (fun(a:Nat) (A:Int) (hA:A=a) W (Y:a<=s.size+2)=>(show aY prog 176 #[.string s,j0 A,j0 d] W (Sb W.heap.size W s.size (b7 d s.data.toList a)) from by subst hA;exact ih s a W hs Y));obtain⟨F,hF⟩: ∃F,F=b7 d s.data.toList:=⟨_,rfl⟩;rw[<-hF] at U⊢;have gi:yD F s.data.toList (a+1)=match F (a+1) with
  |none=> none
  |some (x,b)=> if s.data.toList[b]? =some 93 then(match F (b+1) with|none=> none|some (y,c)=> some (.mk 4 0 [x,y],c)) else none:=rfl
 obtain⟨R,hR⟩: ∃R,R=yD F s.data.toList (a+1):=⟨_,rfl⟩;rw[<-hR] at gi⊢;have HD:=hdq gi;clear hR ih hF gi;go_enter func176,ntmps176;go_wp2_with fail;refine(U.out (a+1) _ (by omega) _ (by omega)).mono ?_;rintro e D ⟨t,u,nx,rfl,hF,T,o,p⟩;obtain⟨H,n0,I,L,E,rfl⟩:=hF.three;have hb:=T.newBlk;have n:=T.size_alloc;have N:=((xr w).alloc M0).trans T;have hx1:=N.trans ((xr D).alloc (D0 H n0 I L E));have W5:=hF.ext ((xr D).alloc (D0 H n0 I L E));simp only[World.size_alloc] at W5;have l:=((xr D).alloc (D0 H n0 I L E)).blk hb;have Hv:=aT D (D0 H n0 I L E);cases f:F (a+1) with
 |none=>
  obtain rfl:=p f;have K7:=HD.out;rw[f] at K7;have HR:=hdq K7;obtain⟨B,z,q,f0,f1,f2⟩:=own3 l;clear o p K7 f n;go_wp2_with fail;exact aQ (v:= .tuple #[m0 0 0 none 0 0,j0 (-1)]) (by simp[aS,results176,go_sem,B,z,q]) rfl (Pu _ _ _ _ _ HR.out (((hx1.setCell (by simp) _).setCell (by simp) _).setCell (by simp) _))
 |some y=>
  obtain⟨x,b⟩:=y;obtain⟨h1,h2,h3⟩:=o _ f;simp only at h1 h2 h3;have k:=HD.out;rw[f] at k;simp only at k;subst h1 h2;clear o p f;have t0:decide ((b:Int) < 0)=false:=decide_eq_false (by omega);by_cases hlt:b < s.size
  · obtain⟨c,Z⟩: ∃c,s[b]=c:=⟨_,rfl⟩
    rw[oe hlt Z] at k;have hbz:(b:Int) <(s.size:Int):=by omega
    have t1:decide ((s.size:Int)<=(b:Int))=false:=decide_eq_false (by omega);obtain⟨m,hm⟩: ∃m,c.toNat=m:=⟨_,rfl⟩;by_cases j:c=93
    · have Kt:m=93:=by rw[<-hm,j];rfl
      rw[if_pos (by rw[j])] at k;subst Kt;have Bl:=hdq k;clear k j;go_wp2_with fail;refine(U.out (b+1) _ (by omega) _ (by omega)).mono ?_;rintro e K ⟨t',u',Ju,rfl,r,J,o,p⟩;obtain⟨S,O,P,Q,c1,rfl⟩:=r.three;have X:=J.size_alloc;have G:=J.trans ((xr K).alloc (D0 S O P Q c1));have V:=G.blk l;have yc:=G.blk Hv;have T6:=aT K (D0 S O P Q c1);obtain⟨x0,x1,x2,-,-,-⟩:=own3 yc;have hx2:=hx1.trans G;have M:=W5.ext G;have xw:=(r.ext ((xr K).alloc (D0 S O P Q c1))).since (show w.heap.size+1<=_ by simp;omega);have ek:=hdq o;have ba:=hdq p;clear o p X;go_wp2_with fail;refine(Nw (w.heap.size+1) _ 4 _ 2 [t,t'] (by intro h;cases h) (Tc.two (g:=K.heap.size+1) (e:=25) M xw (by have:=J.size_alloc;simp;omega) (by simp)) (by have:=J.size_alloc;simp;omega) (by simp)).mono ?_;rintro e w3 ⟨v,rfl,hN,e3⟩;obtain⟨k3,n3,A3,l3,c3,rfl⟩:=hN.three;obtain⟨z0,z1,z2,g0,g1,g2⟩:=own3 (e3.blk (((xr _).alloc _).blk V));have hx3:=hx2.trans (((xr _).alloc _).trans e3);clear x0 x1 x2;go_wp2_with fail;refine aQ (v:= .tuple #[m0 k3 n3 A3 l3 c3,j0 Ju]) (by simp[aS,results176,go_sem,z0,z1,z2]) rfl ⟨_,_,_,rfl,(((hN.set (by simp) _).set (by simp) _).set (by simp) _).since (by omega),((hx3.setCell (by simp) _).setCell (by simp) _).setCell (by simp) _, ?_, ?_⟩
      · intro x hx
        rw[Bl.out] at hx;cases i:F (b+1) with
        |none=> rw[i] at hx;cases hx
        |some y2=>
         rw[i] at hx;cases hx
         obtain⟨g1,g2,g3⟩:=ek.out _ i;exact⟨by rw[g1],g2,g3⟩
      · intro hx
        rw[Bl.out] at hx;cases i:F (b+1) with
        |none=> exact ba.out i
        |some y2=> rw[i] at hx;cases hx
    · rw[if_neg (by intro h;cases h;exact j rfl)] at k
      have HR:=hdq k;have t7:((m:Int) !=93)=true:=by rw[bne_iff_ne];intro h;exact j (UInt8.toNat_inj.1 (by rw[hm];simp;omega))
      obtain⟨B,z,q,f0,f1,f2⟩:=own3 l;clear k j n;go_wp2_with fail;exact aQ (v:= .tuple #[m0 0 0 none 0 0,j0 (-1)]) (by simp[aS,results176,go_sem,B,z,q]) rfl (Pu _ _ _ _ _ HR.out (((hx1.setCell (by simp) _).setCell (by simp) _).setCell (by simp) _))
  · rw[Vp s (by omega),if_neg (by simp)] at k
    have HR:=hdq k;have t1:decide ((s.size:Int)<=(b:Int))=true:=decide_eq_true (by omega);obtain⟨B,z,q,f0,f1,f2⟩:=own3 l;clear k n;go_wp2_with fail;exact aQ (v:= .tuple #[m0 0 0 none 0 0,j0 (-1)]) (by simp[aS,results176,go_sem,B,z,q]) rfl (Pu _ _ _ _ _ HR.out (((hx1.setCell (by simp) _).setCell (by simp) _).setCell (by simp) _))
theorem tm{c:UInt8}{p:Nat}{v:UInt8}(a:c.toNat=p)(h:c≠v):((p:Int)==(v.toNat:Int))=false:=by
 rw[beq_eq_false_iff_ne];intro e;exact h (UInt8.toNat_inj.1 (by rw[a];omega))
theorem MI(d:Nat)(hd:d<=30)(s:ByteArray)(a:Nat)(w:aN)(hs:s.size<=1000000000)(z:a < s.size)(c:UInt8)(hc:s[a]=c)
 (u:c≠35) (o:c≠42) (g:c≠78) (i:c≠48) (j:c≠43) (r:c≠33) (m:c≠94) (h8:c≠95) (k:c≠40) (f:c≠91) (hk:Kk c=0):
 aY prog 176 #[.string s,j0 a,j0 ((d:Int)+1)] w (Sb w.heap.size w s.size (b7 (d+1) s.data.toList a)):=by
 have M:=hdq (fun W=> NJ d hd s a W hs z c hc hk);have l:=Ug (d:=d) (oe z hc);rw[if_neg u,if_neg o,if_neg g,if_neg i,if_neg j,if_neg r,if_neg m,if_neg h8,if_neg k,if_neg f] at l;rw[l];obtain⟨p,b⟩: ∃p,c.toNat=p:=⟨_,rfl⟩;have t1:((p:Int)==35)=false:=tm b u;have t2:((p:Int)==42)=false:=tm b o;have V:((p:Int)==78)=false:=tm b g;have O:((p:Int)==48)=false:=tm b i;have N:((p:Int)==43)=false:=tm b j;have P:((p:Int)==33)=false:=tm b r;have U:((p:Int)==94)=false:=tm b m;have R:((p:Int)==95)=false:=tm b h8;have T:((p:Int)==40)=false:=tm b k;have J:((p:Int)==91)=false:=tm b f;clear l u o g i j r m h8 k f hk;go_enter func176,ntmps176;go_wp2_with fail;refine(M.out _).mono ?_;intro e I C;obtain⟨t,D,y,A,B,x,E,rfl,hF,q,F⟩:=C.on;obtain⟨L,K,H,X,Q,S⟩:=own3 q.newBlk;have G:=q.size_alloc;have hE:=((xr w).alloc M0).trans q;have n:E2 (w.heap.size+1) I t (m0 D y A B x):=by simpa using hF
 clear C hF;go_wp2_with fail;exact aQ (v:= .tuple #[m0 D y A B x,j0 E]) (by simp[aS,results176,go_sem,L,K,H]) rfl ⟨t,_,E,rfl,(((n.set (by simp) _).set (by simp) _).set (by simp) _).since (by omega),((hE.setCell (by simp) _).setCell (by simp) _).setCell (by simp) _,F.out.1,F.out.2⟩
theorem NI(s:ByteArray)(a:Nat)(w:aN):aY prog 176 #[.string s,j0 a,j0 0] w (Sb w.heap.size w s.size none):=by
 go_enter func176,ntmps176;go_wp2_with fail;exact aQ (v:= .tuple #[m0 0 0 none 0 0,j0 (-1)]) (by simp[aS,results176,go_sem]) rfl (Pu _ _ _ _ _ rfl ((xr w).alloc _))
theorem uG(d:Nat)(hd:d<=30)(s:ByteArray)(a:Nat)(w:aN)(hs:s.size<=1000000000)(b:s.size<=a):aY prog 176 #[.string s,j0 a,j0 ((d:Int)+1)] w (Sb w.heap.size w s.size none):=by
 have t0:decide ((a:Int) < 0)=false:=decide_eq_false (by omega);have t1:decide ((s.size:Int)<=(a:Int))=true:=decide_eq_true (by omega);go_enter func176,ntmps176;go_wp2_with fail;exact aQ (v:= .tuple #[m0 0 0 none 0 0,j0 (-1)]) (by simp[aS,results176,go_sem]) rfl (Pu _ _ _ _ _ rfl ((xr w).alloc _))
theorem aC: ∀d:Nat,d<=30->Yd d
 |0,_=> fun s a w hs x=> NI s a w
 |d+1,hd=> by
  have ih:=aC d (by omega);intro s a w hs x;rw[show((d+1:Nat):Int)=(d:Int)+1 by omega];have e:d<=30:=by omega
  rcases kZ a s.size with b|v
  · obtain⟨c,hc⟩: ∃c,s[a]=c:=⟨_,rfl⟩
    by_cases j:c=35
    · exact iJ d e s a w hs b (by rw[hc,j])
    by_cases p:c=42
    · exact qK d e s a w hs b (by rw[hc,p])
    by_cases q:c=78
    · exact PJ d e s a w hs b (by rw[hc,q])
    by_cases u:c=48
    · exact tJ d e s a w hs b (by rw[hc,u])
    by_cases m:c=43
    · exact eH d e ih s a w hs b (by rw[hc,m])
    by_cases o:c=33
    · exact YG d e ih s a w hs b (by rw[hc,o])
    by_cases i:c=94
    · exact TG d e ih s a w hs b (by rw[hc,i])
    by_cases n:c=95
    · exact yI d e ih s a w hs b (by rw[hc,n])
    by_cases t:c=40
    · exact FI d e ih s a w hs b (by rw[hc,t])
    by_cases k:c=91
    · exact dI d e ih s a w hs b (by rw[hc,k])
    by_cases r:c=60
    · exact MH d e ih s a w hs b (by rw[hc,r])
    by_cases f:c=123
    · exact OH d e ih s a w hs b (by rw[hc,f])
    by_cases g:c=124
    · exact CK d e ih s a w hs b (by rw[hc,g])
    by_cases l:c=64
    · exact UI d e ih s a w hs b (by rw[hc,l])
    exact MI d e s a w hs b c hc j p q u m o i n t k (by unfold Kk;rw[if_neg r,if_neg f,if_neg g,if_neg l])
  · rw[qE (Vp s v)]
    exact uG d e s a w hs v
end Go.Proofs.YtckhbnmfnpolgaaGreat
namespace Go.Proofs.YtckhbnmfnpolgaaGreat
open Go.RowKit
attribute [local go_sem ↓] Go.wp_at_zero Go.wp_at_succ
theorem IG{k n i:Int}{a:List Tr}{q:List Int}:Qa (.mk k n a) (i::q)=if 0<=i/\i < a.length then Qa (kd a i.toNat) q else none:=by rw[Qa]
