/-
  Lemmas towards the law, 37: Rd5, SIt, InfN, MAgIt.
-/
import Derived.Test.YtckhbnmfnpolgaaGreatC00
import Derived.Test.YtckhbnmfnpolgaaGreatCBJ
open List renaming mem_of_getElem?->fY,length_cons->cN
open Go renaming World->aL,Value->aT,heap_alloc_new->aS,bodyPost_ret->aP,results->aR
open Go.Value renaming string->jS
open Go.Proofs.Tryz
set_option linter.all false
set_option maxHeartbeats 8000000
set_option maxRecDepth 100000
namespace Go.Proofs.YtckhbnmfnpolgaaGreat
open Go Go.RowKit
attribute [local go_sem ↓] Go.wp_at_zero Go.wp_at_succ
def Wa(a:List (List UInt8)):List Tr:=a.filterMap kc
theorem dF{a:List (List UInt8)}{j:Nat}(h:j < a.length):Wa (a.drop j)=(match kc a[j] with|none=> [] |some t=> [t])++Wa (a.drop (j+1)):=by
 unfold Wa;rw[List.drop_eq_getElem_cons h,List.filterMap_cons];cases kc a[j] <;> rfl
theorem zH{a:List (List UInt8)}{t:Tr}(h:t∈Wa a):j0 D0 t=true:=by
 unfold Wa at h;obtain⟨l,-,b⟩:=List.mem_filterMap.1 h;exact(LI b).1
def eC:List (List UInt8):= []
def wB:List (List UInt8):= [[91,42,48,93,91,35,48,93,35,48], [91,78,93,33,35,48], [91,78,93,91,78,93,60,91,78,93,78,44,35,49,44,91,78,93,91,78,93,43,35,48,44,35,48,62], [40,78,62,42,48,41], [40,91,42,48,93,91,35,48,93,35,48,32,78,41], [91,40,78,42,78,41,93,124,40,78,42,78,41,44,95,35,48,44,94,35,48,124], [91,78,93,124,40,78,42,123,78,44,35,48,44,35,49,125,41,44,35,48,44,33,35,48,124], [91,78,93,91,78,93,91,123,78,44,35,49,44,35,48,125,93,64,60,91,78,93,123,78,44,35,48,44,35,51,125,44,35,48,44,33,35,50,62], [60,91,78,93,42,48,44,78,44,91,78,93,91,42,48,93,40,78,62,35,49,41,44,43,43,48,62], [40,42,48,62,40,35,48,62,35,49,41,41], [91,42,48,93,91,40,35,48,62,35,49,41,93,35,48], [42,50]]
def Pz:List (List UInt8):= [[42,48], [35,48], [40,35,49,62,35,50,41]]
def dD:List (List UInt8):= [[40,35,48,32,35,49,41], [33,35,49], [123,35,50,44,35,49,44,40,35,48,32,35,49,41,125], [91,35,50,93,35,49], [124,40,35,50,42,35,51,41,44,35,49,44,40,35,48,32,35,49,41,124], [91,123,35,50,44,35,49,44,40,35,48,32,35,49,41,125,93,64,60,91,35,51,93,35,52,44,35,48,44,35,50,62]]
def MC:List (List UInt8):= [[78], [123,78,44,35,48,44,43,48,125]]
def eD:List (List UInt8):= [[35,48], [64,60,91,78,93,123,78,44,43,35,50,44,43,35,48,125,44,35,48,44,33,43,35,49,62], [43,35,49], [64,60,91,78,93,78,44,35,48,44,35,49,62], [60,91,78,93,78,44,48,44,91,78,93,91,78,93,35,49,44,35,49,62]]
def gE:List (List UInt8):= [[40,78,62,42,48,41], [40,78,62,40,35,49,32,35,48,41,41]]
def FB:List (List UInt8):= [[40,35,48,32,48,41], [91,78,93,40,35,49,32,35,48,41], [40,35,49,32,43,43,48,41], [91,78,93,91,123,78,44,35,48,44,48,125,93,64,60,35,51,44,35,48,44,40,35,50,32,35,49,41,62]]
def q88:List (List (List UInt8)×List (List UInt8)):= [(eC,wB),(Pz,dD),(MC,eD),(gE,FB)]
theorem Rr: ∀p∈q88,∃q∈txts,Wa p.1=ctxE q.1/\Wa p.2=q.2.map enc/\p.1.length<=12/\p.2.length<=12/\(∀x∈p.1,x.length<=1000)/\(∀x∈p.2,x.length<=1000)/\(Wa p.1).length<=3/\0 <(Wa p.2).length/\(Wa p.2).length<=12:=by
 intro p a;simp only[q88,List.mem_cons,List.not_mem_nil,or_false] at a;rcases a with rfl|rfl|rfl|rfl
 · exact⟨_,fY (i:=0) rfl,by decide+kernel,by decide+kernel,by decide,by decide,by decide,by decide,by decide+kernel,by decide+kernel,by decide+kernel⟩
 · exact⟨_,fY (i:=1) rfl,by decide+kernel,by decide+kernel,by decide,by decide,by decide,by decide,by decide+kernel,by decide+kernel,by decide+kernel⟩
 · exact⟨_,fY (i:=2) rfl,by decide+kernel,by decide+kernel,by decide,by decide,by decide,by decide,by decide+kernel,by decide+kernel,by decide+kernel⟩
 · exact⟨_,fY (i:=3) rfl,by decide+kernel,by decide+kernel,by decide,by decide,by decide,by decide,by decide+kernel,by decide+kernel,by decide+kernel⟩
def Uf(w:aL)(b:Nat)(xs:List (List UInt8)):Prop:=b < w.heap.size/\ ∀j (a:j < xs.length),w.cell? ⟨b,0+j,none⟩=some (.string (G5 xs[j]))
theorem Uf.ext{w a:aL}{b:Nat}{c:List (List UInt8)}(h:Uf w b c)(d:Ext w a):Uf a b c:=⟨Nat.lt_of_lt_of_le h.1 d.size,fun j e=> d.cell (h.2 j e)⟩
theorem Uf.of{w:aL}{b:Nat}{xs:List (List UInt8)}{e:TypeId}(h:w.heap[b]? =some (.cells (xs.map fun x=> jS (G5 x)).toArray e (0,0))):Uf w b xs:=
 ⟨O1 h,fun j a=> by rw[Nat.zero_add,U1 h];simp[a]⟩
theorem xw(p:List (List UInt8)×List (List UInt8))(i:p∈q88)(w:aL)(e:TypeId): ∃f g q,Ending.returned (Value.tuple #[.slice (some ⟨w.heap.size,0,none⟩) p.1.length p.1.length,.slice (some ⟨w.heap.size+1,0,none⟩) p.2.length p.2.length])= .returned (.tuple #[.slice (some ⟨f,0,none⟩) (Prod.fst q).length q.1.length,.slice (some ⟨g,0,none⟩) q.2.length q.2.length])/\q∈q88/\Uf ((w.alloc (.cells (p.1.map fun x=> jS (G5 x)).toArray e)).alloc (.cells (p.2.map fun x=> jS (G5 x)).toArray e)) f q.1/\Uf ((w.alloc (.cells (p.1.map fun x=> jS (G5 x)).toArray e)).alloc (.cells (p.2.map fun x=> jS (G5 x)).toArray e)) g q.2/\Ext w ((w.alloc (.cells (p.1.map fun x=> jS (G5 x)).toArray e)).alloc (.cells (p.2.map fun x=> jS (G5 x)).toArray e)):=by
 obtain⟨c,d,-,hx⟩:=box2 (w:=w) (a:= .cells (p.1.map fun x=> jS (G5 x)).toArray e) (b:= .cells (p.2.map fun x=> jS (G5 x)).toArray e) rfl;exact⟨_,_,p,rfl,i,Uf.of c,Uf.of d,hx⟩
theorem Oy(k:Int)(w:aL):Calls prog 110 #[m0 k] w fun e a=> ∃b f p,e= .returned (.tuple #[.slice (some ⟨b,0,none⟩) (Prod.fst p).length p.1.length,.slice (some ⟨f,0,none⟩) p.2.length p.2.length])/\p∈q88/\Uf a b p.1/\Uf a f p.2/\Ext w a:=by
 have H:=hdq fun p i=> xw p i w 9
 by_cases c:k=0
 · subst c
   go_enter func110,ntmps110;go_wp2_with fail;go_ret2;exact H.out (eC,wB) (by simp[q88])
 have j:(k==0)=false:=beq_eq_false_iff_ne.2 c;by_cases g:k=1
 · subst g
   go_enter func110,ntmps110;go_wp2_with fail;go_ret2;exact H.out (Pz,dD) (by simp[q88])
 have m:(k==1)=false:=beq_eq_false_iff_ne.2 g;by_cases d:k=2
 · subst d
   go_enter func110,ntmps110;go_wp2_with fail;go_ret2;exact H.out (MC,eD) (by simp[q88])
 have l:(k==2)=false:=beq_eq_false_iff_ne.2 d;go_enter func110,ntmps110;go_wp2_with fail;go_ret2;exact H.out (gE,FB) (by simp[q88])
theorem ox(a:List (List UInt8))(b:Nat)(w:aL)(hx:Uf w b a)(hn:a.length<=12)(q: ∀x∈a,x.length<=1000):
 Calls prog 98 #[.slice (some ⟨b,0,none⟩) a.length a.length] w fun e M=> ∃A c,e= .returned (.slice A (Wa a).length c)/\((Wa a).length<=c/\c<=maxLen/\(A=none->c=0))/\xb w.heap.size M A (Wa a)/\Ext w M:=by
 have HN:=hdq hx;have Y:=hdq q;obtain⟨N,D⟩: ∃N,a.length=N:=⟨_,rfl⟩;rw[D] at hn⊢;have P:=hdq D;obtain⟨R,C⟩: ∃R,Wa a=R:=⟨_,rfl⟩;rw[C];have HR:=hdq C;clear q D C hx;go_enter func98,ntmps98;go_wp2_with fail;have I:=kb.lit (xr w);have k:=(xr w).alloc (.cells #[] 25);generalize w.alloc _=w0 at k I⊢
 go_loopw [3,4] (fun T i wr=> ∃(v:aT) (j:Nat) (d:List Tr),v=T/\j<=N/\i= .int .i64 j/\kb w wr v d/\d.length<=j/\Hid (d++Wa (a.drop j)=R)/\Ext w wr) (fun _ i _=> N -(intOf i).toNat)
 case atStart=> exact⟨_,0, [],rfl,Nat.zero_le _,rfl,I,Nat.le_refl _,hdq (by simpa using HR.out),k⟩
 case round=>
  obtain⟨v,j,d,rfl,hj,rfl,hG,hkj,z,hx⟩:=hrel;clear I k;by_cases F:j < N
  · have uk:(j:Int) <(N:Int):=by omega
    have r:j < a.length:=by rw[P.out];exact F
    have f:=dF r;have O:=hx.cell (HN.out.2 j r);rw[Nat.zero_add] at O;obtain⟨x,E⟩: ∃x,x=a[j]:=⟨_,rfl⟩;have V:(G5 x).size<=1000000000:=by have:=Y.out _ (List.getElem_mem r);rw[jx,E];omega
    rw[<-E] at f O;have s:=hdq (fun W=> VE (G5 x) W V);rw[tD] at s;generalize kc x=L at s f;have p:=hdq f;clear f E r;go_wp2_with fail;refine(s.out _).mono ?_;rintro e y ⟨u,rfl,hF,e3⟩;obtain⟨l,g,m,n,o,rfl⟩:=hF.three;have G:=e3.alloc (.cells #[.int .i64 l,.int .i64 g,.slice m n o] 25);obtain⟨s0,s1,s2,-⟩:=own3 (aS y (.cells #[.int .i64 l,.int .i64 g,.slice m n o] 25));clear s;cases L with
    |none=>
     have B:=hdq (show d++Wa (a.drop (j+1))=R by rw[<-z.out,p.out];simp);have qm:=hG.ext G;clear s0 s1 s2;go_wp2_with fail
     go_roundw
     case rel=> exact⟨_,j+1,d,rfl,by omega,by go_num,qm,by omega,B,hx.trans G⟩
     case measure=> simp[intOf];omega
    |some t=>
     have B:=hdq (show(d++ [t])++Wa (a.drop (j+1))=R by rw[<-z.out,p.out];simp);have Q:=G.alloc (.cells #[.int .i64 l,.int .i64 g,.slice m n o] 25);have hT:=(hF.ext ((xr y).alloc (.cells #[.int .i64 l,.int .i64 g,.slice m n o] 25))).ext ((xr _).alloc (.cells #[.int .i64 l,.int .i64 g,.slice m n o] 25));have K:=aS (y.alloc (.cells #[.int .i64 l,.int .i64 g,.slice m n o] 25)) (.cells #[.int .i64 l,.int .i64 g,.slice m n o] 25);rw[World.size_alloc] at K;have S:=hx.trans Q;go_wp2_with (at_builtin;refine yH (.tmp 23) (.tmp 25) hG Q hx hT (by omega) rfl rfl rfl rfl K ?_)
     intro A c w6 U X;go_wp2_with fail
     go_roundw
     case rel=> exact⟨_,j+1,d++ [t],rfl,by omega,by go_num,U,by simp;omega,B,Below.trans S X⟩
     case measure=> simp[intOf];omega
  · have J:d=R:=by
     rw[<-z.out,List.drop_of_length_le (by rw[P.out];omega)];simp[Wa]
    obtain⟨A,c,rfl,q1,Z,q3,hK⟩:=hG.row;have H:=hdq J;clear J;go_wp2_with fail;go_ret;rw[<-H.out];exact⟨A,c,rfl,⟨q1,Z,q3⟩,hK,hx⟩
end Go.Proofs.YtckhbnmfnpolgaaGreat
namespace Go.Proofs.YtckhbnmfnpolgaaGreat
open Go.RowKit
attribute [local go_sem ↓] Go.wp_at_zero Go.wp_at_succ
theorem BI(s:Tr)(c:Int)(d:aL)(N:Nat->Prop)(hN: ∀b,d.heap.size<=b->N b)(v:aT)(p:Lies d s v)(hv:c=0->j0 D0 s=true)(r:Tr×Int)(w:c=0->r=(s,0))(y:c≠0->r=(j2,c)):Calls prog 90 #[v,m0 c] d (q8 N d r):=by
 have g:=hdq (fun(h:c=0) W (J:Ext d W)=> Vf s W v (p.ext J) (by have:=(Z3 (hv h)).2;omega));obtain⟨k,n,B⟩:=s;obtain⟨At,ct,rfl,-⟩:=Lies.mk_iff.1 p;clear p hv;by_cases a:c=0
 case neg=>
  obtain rfl:=y a;have t1:(c !=0)=true:=by simp[a]
  clear a w y g;obtain⟨q,f,A⟩:=blk2 (xr ((d.alloc (H0 k n At B.length ct)).alloc (H0 0 0 none 0 0)));obtain⟨j,m,i,H,P,Q⟩:=own3 f;clear q A f;go_enter func90,ntmps90;go_wp2_with fail;refine aP (v:= .tuple #[M0 0 0 none 0 0,m0 c]) (by simp[aR,results90,go_sem,j,m,i]) rfl ⟨_,rfl,d5 _ _ _ _,((xr _).alloc _).alloc _⟩
 subst a;obtain rfl:=w rfl;clear w y;obtain⟨D,o⟩: ∃x,x=((d.alloc (H0 k n At B.length ct)).alloc (H0 0 0 none 0 0)):=⟨_,rfl⟩;obtain⟨q,f,A,z⟩:=box2 o;obtain⟨M,l⟩: ∃M,M=(fun b=> N b/\b≠d.heap.size+1):=⟨_,rfl⟩;have X:=hdq (show∀b,D.heap.size<=b->M b by rw[l];exact Ia hN z.size (by omega));have G:=hdq l;clear l hN;go_enter func90,ntmps90;go_wp2_with fail;rw[<-o];clear o;refine(g.out (by first|rfl|trivial) D z).mono ?_;rintro e I ⟨u,rfl,E,t⟩;have Z:=t.size;have hT:=E.at' X.out;clear E g;obtain⟨S,F,R,T,V,rfl⟩:=hT.three;have U:=hdq hT;clear hT;have C:=t;have Y:=cb3 (C.blk q);have L:=m9 (C.blk f);have O:=z;have K:=O.trans t;go_wp2_with fail;refine aP (v:= .tuple #[M0 S F R T V,m0 0]) (by simp[aR,results90,go_sem,L]) rfl ⟨_,rfl,InT.ret (G.out▸(U.out.later (xr I))) _ _ _,(K.set3 (by omega) _ _ _)⟩
def Se(f:Nat)(ctx:List Tr)(t:Tr):An:=if Ob ctx=false\/j0 D0 t=false then some (j2,3) else thn (Yu f ctx) fun _=> thn (Q0 f ctx t) fun s=> some (s,0)
theorem Xk{w:aL}{A:Option Addr}{ca:Nat}{G:List Tr}(hl:G.length<=ca)(hc:ca<=maxLen)(hK:y22 w A G)(hA:A=none->ca=0)(h8:G.length<=8/\ ∀x∈G,j0 D0 x=true):SJ w AllN A G ca:=
 ⟨fun _ _=> trivial,hl,hc,InK.all hK,by omega,hA,h8.2⟩
theorem qK(f:Nat)(G:List Tr)(A:Option Addr)(ca:Nat)(g:aL)(hK:y22 g A G)(hl:G.length<=ca)(j:ca<=maxLen)(hA:A=none->ca=0)(t:Tr)(v:aT)(K:Lies g t v)(N:Nat->Prop)(hN: ∀b,g.heap.size<=b->N b)(r:Tr×Int)(h:Se f G t=some r):Calls prog 44 #[.slice A G.length ca,v] g (q8 N g r):=by
 have zq:=hdq (fun W (m:Ext g W)=> xC G W A ca (hK.ext m) hl j);have gp:=hdq (fun W (m:Ext g W)=> li t W v (K.ext m));have Z:=hdq (fun W (m:Ext g W) r0 h0=> pF f G W A ca (hK.ext m) hl j r0 h0);have C:=hdq (fun W (m:Ext g W) (h8:Ob G=true) q P=> Sq f G t q P W AllN A ca v (Xk hl j (hK.ext m) hA (mB h8)) (InT.all (K.ext m)));have HL:=hdq hl;have zi:=hdq j;obtain⟨z,R⟩: ∃z,Ob G=z:=⟨_,rfl⟩;obtain⟨za,X⟩: ∃z,j0 D0 t=z:=⟨_,rfl⟩;unfold Se at h;rw[R,X] at h;rw[R] at zq C;rw[X] at gp;obtain⟨k,n,ks⟩:=t;obtain⟨At,ct,rfl,-⟩:=Lies.mk_iff.1 K;clear K hK R X hl j hA;obtain⟨w1,U⟩: ∃x,x=((g.alloc (H0 k n At ks.length ct)).alloc (H0 0 0 none 0 0)):=⟨_,rfl⟩;obtain⟨o,l,s1,Q⟩:=box2 U;obtain⟨M,Y⟩: ∃M,M=(fun b=> N b/\b≠g.heap.size+1):=⟨_,rfl⟩;have O3:=hdq (show∀b,w1.heap.size<=b->M b by rw[Y];exact Ia hN Q.size (by omega));have HM:=hdq Y;clear Y hN;go_enter func44,ntmps44;go_wp2_with fail;rw[<-U];clear U;refine(zq.out w1 Q).mono ?_;rintro e w2 ⟨rfl,I⟩;have s2:=I.size;cases z with
 |false=>
  obtain rfl:r=(j2,3):=by simpa using h.symm
  clear h;have w:=I;have i:=cb3 (w.blk o);have a:=m9 (w.blk l);have V:=Q;have F:=V.trans I;go_wp2_with fail;refine aP (v:= .tuple #[M0 0 0 none 0 0,m0 3]) (by simp[aR,results44,go_sem,a]) rfl ⟨_,rfl,d5 _ _ 0 0,(F.set3 (by omega) _ _ _)⟩
 |true=>
  have w:=I;have i:=cb3 (w.blk o);have a:=m9 (w.blk l);go_wp2_with fail;clear i a;have V:=Q;have F:=V.trans I;refine(gp.out w2 F).mono ?_;rintro e w3 ⟨rfl,H⟩;have s3:=H.size;cases za with
  |false=>
   obtain rfl:r=(j2,3):=by simpa using h.symm
   clear h;have p:=w.trans H;have i:=cb3 (p.blk o);have a:=m9 (p.blk l);have D:=F.trans H;go_wp2_with fail;refine aP (v:= .tuple #[M0 0 0 none 0 0,m0 3]) (by simp[aR,results44,go_sem,a]) rfl ⟨_,rfl,d5 _ _ 0 0,(D.set3 (by omega) _ _ _)⟩
  |true=>
   rw[if_neg (by simp)] at h;obtain⟨s0,c,h1,h2,h3⟩:=Ud h;clear h;have H1:=hdq h1;have H2:=hdq h2;have H3:=hdq h3;clear h1 h2 h3;have p:=w.trans H;have i:=cb3 (p.blk o);have a:=m9 (p.blk l);go_wp2_with fail;clear i a;have D:=F.trans H;refine(Z.out w3 D _ H1.out).mono ?_;rintro e w4 ⟨rfl,E⟩;have s4:=E.size;simp only;by_cases d:c=0
   case neg=>
    obtain rfl:=H3.out d;have t1:(c !=0)=true:=by simp[d]
    have t2:(c==0)=false:=by simp[d]
    clear d H3;have y:=p.trans E;have i:=cb3 (y.blk o);have a:=m9 (y.blk l);have O:=D.trans E;go_wp2_with fail;refine aP (v:= .tuple #[M0 0 0 none 0 0,m0 c]) (by simp[aR,results44,go_sem,a]) rfl ⟨_,rfl,d5 _ _ 0 0,(O.set3 (by omega) _ _ _)⟩
   have P:=H2.out d;subst d;clear H2 H3;obtain⟨s,c,g1,g2,g3⟩:=Ud P;clear H1 P;have G1:=hdq g1;have G2:=hdq g2;have G3:=hdq g3;clear g1 g2 g3;have y:=p.trans E;have i:=cb3 (y.blk o);have a:=m9 (y.blk l);go_wp2_with fail;clear i a;have O:=D.trans E;refine(C.out w4 O (by first|rfl|trivial) _ G1.out).mono ?_;rintro e B ⟨u,rfl,hT,T⟩;have s5:=T.size;obtain⟨a1,a2,a3,a4,a5,rfl⟩:=hT.three;have Ta:=hdq hT;clear hT;simp only;have E7:=y.trans T;have i:=cb3 (E7.blk o);have a:=m9 (E7.blk l);obtain⟨w6,L⟩: ∃x,x=B.alloc (H0 a1 a2 a3 a4 a5):=⟨_,rfl⟩;have S:Ext B w6:=L▸(xr B).alloc _;have wy:=aS B (H0 a1 a2 a3 a4 a5);rw[<-L] at wy;have s6:B.heap.size < w6.heap.size:=O1 wy;go_wp2_with fail;rw[<-L];clear L;clear i a;have bv:=E7.trans S;have et:=S;refine(BI s c w6 M (fun b hb=> O3.out b (Nat.le_trans bv.size hb)) _ (Ta.out.later et).lies' (fun hc=> OE (hc▸G1.out)) r (fun hc=> by simpa using(G2.out hc).symm) G3.out).mono ?_;rintro e w7 ⟨u,rfl,hT,J⟩;have s7:=J.size;obtain⟨b1,b2,b3,b4,b5,rfl⟩:=hT.three;have Tb:=hdq hT;clear hT;have Ah:=bv.trans J;have i:=cb3 (Ah.blk o);have a:=m9 (Ah.blk l);have Ky:=J;have Zo:=cb3 (Ky.blk wy);have K9:=O.trans T;have gf:=K9.trans S;have pq:=gf.trans J;go_wp2_with fail;refine aP (v:= .tuple #[M0 b1 b2 b3 b4 b5,m0 r.2]) (by simp[aR,results44,go_sem,a]) rfl ⟨_,rfl,InT.ret (HM.out▸(Tb.out.later (xr w7))) _ _ _,(pq.set3 (by omega) _ _ _)⟩
theorem GJ{w:aL}{g:Nat}{e:TypeId}{t:Tr}{v0 v1 v2:aT}(a:w.heap[g]? =some (.cells #[v0,v1,v2] e (0,0)))(h:Lies w t (.agg #[v0,v1,v2])):y22 w (some ⟨g,0,none⟩) [t]:=
 .inr ⟨g,0,rfl,O1 a,⟨⟨v0,v1,v2,U1 a 0,U1 a 1,U1 a 2,h⟩,trivial⟩⟩
theorem lH{w:aL}{g:Nat}{e:TypeId}{t u:Tr}{v0 v1 v2 c d b:aT}(a:w.heap[g]? =some (.cells #[v0,v1,v2,c,d,b] e (0,0)))(h:Lies w t (.agg #[v0,v1,v2]))(k:Lies w u (.agg #[c,d,b])):y22 w (some ⟨g,0,none⟩) [t,u]:=
 .inr ⟨g,0,rfl,O1 a,⟨⟨v0,v1,v2,U1 a 0,U1 a 1,U1 a 2,h⟩,⟨c,d,b,U1 a 3,U1 a 4,U1 a 5,k⟩,trivial⟩⟩
theorem IA{f:Nat}{ctx l:List Tr}{u:Tr}(h:ra f ctx l=some (u,0)):Ob ctx=true:=by
 have:=(tl h).1;unfold ccV at this
 split at this
 · assumption
 · simp at this
theorem LF(f:Nat)(ctx:List Tr)(A:Option Addr)(ca:Nat)(o:aL)(hG:y22 o A ctx)(G0:ctx.length<=ca)(E:ca<=maxLen)(t:Tr)(v:aT)(ht:Lies o t v)(N:Nat->Prop)(hN: ∀b,o.heap.size<=b->N b)(r:Tr×Int)(h:Yb f ctx t=some r):Calls prog 21 #[.slice A ctx.length ca,v] o (q8 N o r):=by
 have HN:=hdq hN;clear hN;obtain⟨q1,c,h1,h2,h3⟩:=Ud h;obtain⟨k,n,L⟩:=t;obtain⟨At,ct,rfl,hl,l8,hK⟩:=Lies.mk_iff.1 ht;have HT:=hdq ht;have HG:=hdq hG;have C:=hdq h1;have Q:=hdq h2;have H3:=hdq h3;have zz:=hdq G0;have zi:=hdq E;clear h h1 h2 h3 ht hK hG G0 E;obtain⟨w1,T⟩: ∃x,x=(((o.alloc (H0 k n At L.length ct)).alloc (H0 0 0 none 0 0)).alloc (H0 k n At L.length ct)):=⟨_,rfl⟩;obtain⟨D,q,p,s1,H⟩:=Tg T;obtain⟨M,X⟩: ∃M,M=(fun b=> N b/\b≠o.heap.size+1):=⟨_,rfl⟩;have O3:=hdq (show∀b,w1.heap.size<=b->M b from X▸Ia HN.out H.size (by omega));have HM:=hdq X;clear X;go_enter func21,ntmps21;go_wp2_with fail;rw[<-T];clear T;refine(zC f ctx w1 A ca (HG.out.ext H) zz.out zi.out [.mk k n L] _ 1 (GJ p (HT.out.ext H)) (Nat.le_refl _) (by decide) _ C.out).mono ?_;rintro e w2 ⟨rfl,G⟩;have s2:=G.size;simp only;by_cases g:c=0
 case neg=>
  obtain rfl:=H3.out g;have t1:(c !=0)=true:=by simp[g]
  clear g C Q H3;have a:=G;have y:=cb3 (a.blk D);have j:=m9 (a.blk q);have z:=cb3 (a.blk p);have V:=H;have B:=V.trans G;go_wp2_with fail;refine aP (v:= .tuple #[M0 0 0 none 0 0,m0 c]) (by simp[aR,results21,go_sem,j]) rfl ⟨_,rfl,d5 _ _ 0 0,(B.set3 (by omega) _ _ _)⟩
 subst g;obtain⟨s,d,h4,h5,h6⟩:=Ud (Q.out rfl);have I:=hdq h4;have Y:=hdq h5;have S:=hdq h6;clear h4 h5 h6;have HF:=hdq (Fr (IA C.out));have HV:=hdq ((tl C.out).2 (.mk k n L) (by simp));have ir:=hdq (Ju (f:=f) (w:=w1) (A:=A) zz.out zi.out HF.out.2 (by have:=HF.out.1;omega));clear C Q H3;have a:=G;have y:=cb3 (a.blk D);have j:=m9 (a.blk q);have z:=cb3 (a.blk p);go_wp2_with fail;clear y j z;have V:=H;have B:=V.trans G;refine(ir.out w2 AllN a (fun _ _=> trivial) (InK.all (HG.out.ext B)) _ _ (InT.all (HT.out.ext B)) HV.out _ I.out).mono ?_;rintro e m ⟨u,rfl,hT,F⟩;have s3:=F.size;simp only at hT⊢;obtain⟨a1,P,Z,W,c1,rfl⟩:=hT.three;have T1:=hdq hT.lies';clear hT;by_cases J:d=0
 case neg=>
  obtain rfl:=S.out J;have t1:(d !=0)=true:=by simp[J]
  clear J I Y S;have i:=a.trans F;have y:=cb3 (i.blk D);have j:=cbn (i.blk q);have z:=cb3 (i.blk p);have qw:Ext m (m.alloc (H0 a1 P Z W c1)):=(xr m).alloc _;have R:=B.trans F;have Pr:=cbn (qw.blk (i.blk q));go_wp2_with fail;refine aP (v:= .tuple #[M0 0 0 none 0 0,m0 d]) (by simp[aR,results21,go_sem,j,Pr]) rfl ⟨_,rfl,d5 _ _ 0 0,((R.trans qw).set3 (by omega) _ _ _)⟩
 subst J;obtain rfl:(s,(0:Int))=r:=by simpa using Y.out rfl
 have Ff:=hdq (oI HV.out I.out);clear I Y S;have i:=a.trans F;have y:=cb3 (i.blk D);have j:=m9 (i.blk q);have z:=cb3 (i.blk p);obtain⟨w4,l⟩: ∃x,x=m.alloc (H0 a1 P Z W c1):=⟨_,rfl⟩;have e4:Ext m w4:=l▸(xr m).alloc _;have O:=aS m (H0 a1 P Z W c1);rw[<-l] at O;have s4:m.heap.size < w4.heap.size:=O1 O;go_wp2_with fail;rw[<-l];clear l;clear y j z;have U7:=e4;refine(Qg s w4 _ (T1.out.ext U7) (by have:=(Z3 Ff.out).2;omega)).mono ?_;rintro e w5 ⟨u,rfl,U,K⟩;have s5:=K.size;have o9:=i.trans e4;obtain⟨a2,b2,A2,l2,c2,rfl⟩:=U.three;have T2:=hdq (U.at' (N:=M) (fun b hb=> O3.out b (by have:=o9.size;omega)));clear U;have E7:=o9.trans K;have y:=cb3 (E7.blk D);have j:=m9 (E7.blk q);have z:=cb3 (E7.blk p);have V3:=K;have Zx:=cb3 (V3.blk O);have R:=B.trans F;have s8:=R.trans e4;have K9:=s8.trans K;go_wp2_with fail;refine aP (v:= .tuple #[M0 a2 b2 A2 l2 c2,m0 0]) (by simp[aR,results21,go_sem,j]) rfl ⟨_,rfl,InT.ret (HM.out▸T2.out) _ _ _,(K9.set3 (by omega) _ _ _)⟩
theorem XJ(f:Nat)(ctx:List Tr)(A:Option Addr)(ca:Nat)(o:aL)(hG:y22 o A ctx)(G0:ctx.length<=ca)(C:ca<=maxLen)(t:Tr)(v:aT)(ht:Lies o t v)(a:Tr)(vw:aT)(P:Lies o a vw)(r:Tr×Int)(h:Nq f ctx t a=some r):Calls prog 16 #[.slice A ctx.length ca,v,vw] o fun e w'=> e= .returned (m0 r.2)/\Ext o w':=by
 obtain⟨q1,c,h1,h2,h3⟩:=Ud h;obtain⟨k,n,J⟩:=t;obtain⟨At,ct,rfl,hl,l8,hK⟩:=Lies.mk_iff.1 ht;have HT:=hdq ht;have L:=hdq hG;have u:=hdq h1;have O:=hdq h2;have W:=hdq h3;have Z:=hdq G0;have zi:=hdq C;clear h h1 h2 h3 ht hK hG G0 C;obtain⟨H,K,I⟩:=a;obtain⟨A8,c8,rfl,hl8,hc8,Jr⟩:=Lies.mk_iff.1 P;have V:=hdq P;clear P Jr;obtain⟨w1,R⟩: ∃x,x=(((o.alloc (H0 k n At J.length ct)).alloc (H0 H K A8 I.length c8)).alloc (.cells #[m0 k,m0 n,.slice At J.length ct,m0 H,m0 K,.slice A8 I.length c8] 25)):=⟨_,rfl⟩;obtain⟨B,z,m,s1,F⟩:=Tg R;go_enter func16,ntmps16;go_wp2_with fail;rw[<-R];clear R;refine(zC f ctx w1 A ca (L.out.ext F) Z.out zi.out [.mk k n J,.mk H K I] _ 2 (lH m (HT.out.ext F) (V.out.ext F)) (Nat.le_refl _) (by decide) _ u.out).mono ?_;rintro e w2 ⟨rfl,E⟩;have s2:=E.size;simp only;by_cases g:c=0
 case neg=>
  obtain rfl:=W.out g;have t1:(c !=0)=true:=by simp[g]
  clear g u O W;have S:=F;have l:=S.trans E;have b:=E;have p:=cb3 (b.blk B);have q:=cb3 (b.blk z);have y:=kC (b.blk m);go_wp2_with fail;go_ret
  first|exact⟨rfl,l⟩ |exact l
 subst g;obtain⟨s,d,h4,h5,h6⟩:=Ud (O.out rfl);have M:=hdq h4;have T:=hdq h5;have Q:=hdq h6;clear h4 h5 h6;have HF:=hdq (Fr (IA u.out));have HV:=hdq ((tl u.out).2 (.mk k n J) (by simp));have Y:=hdq (Ju (f:=f) (w:=w1) (A:=A) Z.out zi.out HF.out.2 (by have:=HF.out.1;omega));have N:=hdq ((tl u.out).2 (.mk H K I) (by simp));clear u O W;have b:=E;have p:=cb3 (b.blk B);have q:=cb3 (b.blk z);have y:=kC (b.blk m);go_wp2_with fail;clear p q y;have S:=F;have l:=S.trans E;refine(Sv Y.out w2 AllN b (fun _ _=> trivial) (InK.all (L.out.ext l)) _ _ (InT.all (V.out.ext l)) N.out _ M.out).mono ?_;rintro e w3 ⟨rfl,D⟩;have s3:=D.size;simp only;by_cases G:d=0
 case neg=>
  obtain rfl:=Q.out G;have t1:(d !=0)=true:=by simp[G]
  clear G M T Q;have j:=l.trans D;have i:=b.trans D;have p:=cb3 (i.blk B);have q:=cb3 (i.blk z);have y:=kC (i.blk m);go_wp2_with fail;go_ret
  first|exact⟨rfl,j⟩ |exact j
 subst G;obtain⟨d,h7,h8,h9⟩:=Vv (T.out rfl);have H7:=hdq h7;obtain rfl:r.2=d:=by
  by_cases hd:d=0
  · obtain rfl:(j2,(0:Int))=r:=by simpa using h8 hd
    exact hd.symm
  · rw[h9 hd]
 clear h7 h8 h9 M T Q;have i:=b.trans D;have p:=cb3 (i.blk B);have q:=cb3 (i.blk z);have y:=kC (i.blk m);go_wp2_with fail;clear p q y;have j:=l.trans D;refine(kF Y.out w3 i (L.out.ext j) _ _ (HT.out.ext j) HV.out _ _ (V.out.ext j) _ H7.out).mono ?_;rintro e w4 ⟨rfl,U⟩;have s4:=U.size;have s8:=j.trans U;have X:=i.trans U;have p:=cb3 (X.blk B);have q:=cb3 (X.blk z);have y:=kC (X.blk m);go_wp2_with fail;go_ret
 first|exact⟨rfl,s8⟩ |exact s8
end Go.Proofs.YtckhbnmfnpolgaaGreat
namespace Go.Proofs.YtckhbnmfnpolgaaGreat
open Go.RowKit
open M (Hd HR Cv Ty Lim Wb y6 U4 dep DG fvb)
def SD:List Tr->Prop
 | []=> True
 |t::ts=>(∀A,t=enc A->dep A<=4)/\(ts≠ []-> ∀A,t=enc A->dep A<=3)/\SD ts
theorem Bs(f a:Nat): ∀(ts:List Tr) (G:List M.Tm),O6 G->DG G 3->G.length+ts.length<=8->(∀t∈ts,j0 D0 t=true)->SD ts->Rl False (ccRS f (ctxE G) ts) (ccR a (ctxE G) ts)
 | [],G,_,_,_,_,_=> Rl.rfl' _
 |t::ts,G,hG,hD,hl,hv,hs=> by
  obtain⟨A,rfl⟩:=Ol (hv t (by simp));simp only[cN] at hl;have d:=hs.1 A rfl;have ag:=yG A G hG hD d (by omega) (hv _ (by simp));refine((ag f a).frm 2).seq fun s e c=> ?_
  obtain⟨S,i,-,-,-,-,b,-⟩:=Sd (snd a) hG (hv _ (by simp)) c;rw[<-yd];by_cases ht:ts= []
  · subst ht;exact Rl.rfl' _
  · exact Bs f a ts (A::G) (hG.cons b (hv _ (by simp))) (hD.cons (hs.2.1 ht A rfl)) (by simp only[cN];omega) (fun x hx=> hv x (by simp[hx])) hs.2.2
theorem Hz{f b:Nat}{ctx:List Tr}{t:Tr}(hs:SD ctx)(i: ∀G a,ctx=ctxE G->t=enc a->O6 G->G.length<=8->j0 D0 t=true->Ag G a):Rl False (Se f ctx t) (Yb b ctx t):=by
 unfold Se Yb;by_cases hf:Ob ctx=true
 · obtain⟨h8,hv⟩:=Fr hf
   have c:=Bs f b ctx [] O6.nil M.DG.nil (by simpa using h8) hv hs;have k:Yu f ctx=ccRS f (ctxE []) ctx:=by unfold Yu;rw[if_pos hf];rfl
   have e:ccV b ctx=ccR b (ctxE []) ctx:=by unfold ccV;rw[if_pos hf];rfl
   by_cases ht:j0 D0 t=true
   · rw[if_neg (by simp[hf,ht])]
     have j:ra b ctx [t]=ccV b ctx:=by
      unfold ra;cases ccV b ctx with
      |none=> rfl
      |some r=> simp[ht]
     rw[j,k];rw[<-e] at c;refine c.seq fun s l g=> ?_
     obtain⟨G,rfl,hG,hl⟩:=Us g;obtain⟨a,rfl⟩:=Ol ht;exact(i G a rfl rfl hG hl ht f b).seq fun s _ _=> Rl.rfl' _
   · rw[if_pos (.inr (by simpa using ht))]
     unfold ra;cases h:ccV b ctx with
     |none=> exact Rl.no' _
     |some r=> simp[ht,thn];exact Rl.rfl' _
 · have d:Ob ctx=false:=by simpa using hf
   rw[if_pos (.inl d)];unfold ra;have e:ccV b ctx=some (j2,3):=by unfold ccV;rw[if_neg hf]
   rw[e];by_cases ht:j0 D0 t=true <;> simp[ht,thn] <;> exact Rl.rfl' _
theorem SD.mem: ∀{ts:List Tr},SD ts-> ∀A,enc A∈ts->dep A<=4
 | [],_,A,h=> by simp at h
 |t::ts,h,A,hm=> by
  rcases List.mem_cons.1 hm with e|hm
  · exact h.1 A e.symm
  · exact SD.mem h.2.2 A hm
theorem SD.dg{G:List M.Tm}(h:SD (ctxE G)):DG G 4:=fun A hA=> h.mem A (by unfold ctxE;rw[List.mem_reverse];exact List.mem_map_of_mem hA)
theorem SD.of{G:List M.Tm}(h:DG G 3):SD (ctxE G):=by
 have: ∀ts:List Tr,(∀A,enc A∈ts->dep A<=3)->SD ts:=by
  intro ts
  induction ts with
  |nil=> exact fun _=> trivial
  |cons t ts ih=> exact fun k=>⟨fun A e=> by have:=k A (by simp[e]);omega,fun _ A e=> k A (by simp[e]),ih fun A hA=> k A (by simp[hA])⟩
 refine this _ fun A hA=> ?_
 unfold ctxE at hA;rw[List.mem_reverse,List.mem_map] at hA;obtain⟨B,hB,e⟩:=hA;rw[<-Md e];exact h B hB
def Dr(G:List M.Tm)(a:M.Tm):Prop:=SG a\/(DG G 3/\(dep a<=4\/ ∃t i u,a=Po t i u/\SG t/\oe G t/\dep u<=4))
theorem j255{f f':Nat}{ctx:List Tr}{t:Tr}(hs:SD ctx)(hd: ∀G a,ctx=ctxE G->t=enc a->O6 G->j0 D0 t=true->Dr G a):Rl False (Se f ctx t) (Yb f' ctx t):=
 Hz hs fun G a e c hG h8 hv=> by
  subst e c;rcases hd G a rfl rfl hG hv with h|⟨hD,h|⟨t,i,u,rfl,h,b,d⟩⟩
  · exact Ft a G h hG hs.dg (by omega) hv
  · exact yG a G hG hD h (by omega) hv
  · exact Xu hG hD (by omega) _ (pm h b d i) hv
theorem NC.side{n:Nat}{t:M.Tm}(h:NC n t){G:List M.Tm}(hn:NG n G)(hG:O6 G)(hv:j0 D0 (enc t)=true):oe G t:=by
 cases h with
 |move d a=>
  obtain⟨T,c,-,b⟩:=a.ty hn;exact Yg.of hG (J1 hv (by simp)) c b
 |_=> trivial
theorem Ys{G:List M.Tm}{t:M.Tm}(h:yC G t=true):O6 G/\G.length<=8/\j0 D0 (enc t)=true/\ ∃A,Ty G t A/\Lim G t:=by
 unfold yC at h
 split at h
 · rename_i s c hc
   have:c=0:=by simpa using h
   subst this;obtain⟨g,a,A,d,hG,h8,f,hv,-,b,e,-⟩:=Vm hc;cases py d
   cases Md f
   exact⟨hG,h8,hv,A,b,e⟩
 · cases h
def Sk(G:List M.Tm):M.Tm->Bool
 | .pi A B=> decide (dep A<=3)
 | .lam A B=> decide (dep A<=3)
 | .sg A B=> decide (dep A<=3)
 | .move p e a=> yC G a
 | .pair T a b=> yC G b
 |_=> true
theorem Mm{G:List M.Tm}{t:M.Tm}(h:Sk G t=true):oe G t:=by
 cases t <;> simp only[Sk,decide_eq_true_eq] at h <;> simp only[oe] <;> try trivial
 case move p e a=>
  obtain⟨hG,-,hv,A,d,c⟩:=Ys h;exact Yg.of hG hv d c
 case pair T a b=>
  obtain⟨hG,-,hv,A,d,c⟩:=Ys h;exact Yg.of hG hv d c
theorem bI:(txts.all fun p=> p.2.all (Sk p.1))=true:=by decide+kernel
theorem gu{G:List M.Tm}{l:List M.Tm}{t:M.Tm}(h:(G,l)∈txts)(ht:t∈l):SG t/\oe G t/\DG G 3/\O6 G/\j0 D0 (enc t)=true/\ ∃A,Ty G t A/\Lim G t:=by
 have d:=List.all_eq_true.1 (List.all_eq_true.1 Su _ h) t ht;have b:=List.all_eq_true.1 (List.all_eq_true.1 bI _ h) t ht;have c:=List.all_eq_true.1 (List.all_eq_true.1 Zu _ h) t ht;have a:=List.all_eq_true.1 ix _ h;obtain⟨hG,-,hv,hA⟩:=Ys c;exact⟨mw d,Mm b,fun A hA=> by have:=List.all_eq_true.1 a A hA;simpa using this,hG,hv,hA⟩
