/-
  Lemmas towards the law, 39: D11.
-/
import Derived.Test.YtckhbnmfnpolgaaGreatBBL
open Go.World renaming alloc->aN
open Go renaming results->aQ
open Nat renaming le_refl->aM
open Go.Proofs.Tryz
set_option linter.unusedVariables false
set_option maxHeartbeats 40000000
set_option maxRecDepth 100000
namespace Go.Proofs.YtckhbnmfnpolgaaGreat
open Go Go.RowKit
attribute [local go_sem ↓] Go.wp_at_zero Go.wp_at_succ
def Tl:List (List UInt8):= [[78], [78], [78], [123,78,44,35,50,44,35,49,125], [123,78,44,35,50,44,35,49,125]]
def Vm:List (List UInt8):= [[42,48], [35,48], [35,49], [123,35,50,44,35,49,44,35,48,125]]
theorem BQ.var{xs:List (List UInt8)}{q:List M.Tm×List M.Tm}{i:Nat}(b:q∈txts)(a:Za xs=ctxE q.1)(hx:(Za xs).length<=5)(hi:M.Tm.var i∈q.2)(hv:i<=20):BQ (Za xs) (.mk 1 i []):=
 ⟨q.1,.var i,a,rfl,.txt b hi,by simp[j0,D0,m9,li,cnt,W1,m0,O0,Ja,Yf];omega,hx,fun x h=>(Z3 (AF h)).2⟩
theorem NC.fv{n:Nat}{a:M.Tm}(h:NC n a):M.fvb n a:=by
 induction h <;> simp only[M.fvb] <;> simp_all
theorem NC.stt{n:Nat}{a:M.Tm}(h:NC n a):ia a:=by
 induction h <;> simp only[ia] <;> simp_all
theorem BQ.rfl{t:Tr}(h:NQ 1 12 104 t):BQ [.mk 6 0 []] (.mk 11 0 [t]):=by
 obtain⟨a,c,b,d,e⟩:=h;subst c;refine⟨[.nat],.refl a,by simp[ctxE,enc],Eq.refl _,.rfl b, ?_,by simp,fun x hx=> by rw[List.mem_singleton.1 hx];decide⟩;have hs:=Yx (.refl a) 1 13 b.fv b.stt (by simp only[M.dep];omega) (by omega);unfold j0;rw[Bool.and_eq_true,decide_eq_true_eq];exact⟨If hs (by omega),by simp only[cnt,W1];omega⟩
theorem gG(j:World)(g m:Nat)(C:Rd j g m)(hm:m < 600000):Calls prog 54 #[.pointer (some ⟨g,0,none⟩)] j (CQ j g (m+3010) BQ):=by
 have f:=hdq C.lt;go_enter func54,ntmps54;go_wp2_with fail;generalize q:aN j _=V;obtain⟨br,e⟩:=nb q;have Z:=(St.of C e).id;have Y:X0 [g] j V:=oE e;clear q e C;refine(Pf _ g _ 4 Z.2 (by omega)).mono ?_;rintro e I ⟨x,rfl,U,hx1,R,o⟩;replace Z:=Z.tr o R;clear o R;by_cases M:x=0
 · subst M
   go_wp2_with fail;generalize q:aN I _=p;obtain⟨u,e⟩:=nb q;have S:=Nf.of (xs:=Tl) u;replace Z:=Z.up e;clear q u e;have s:=Z.news br;refine(Ww Tl _ _ S (by decide) (by decide)).mono ?_;rintro e v ⟨A,c,rfl,hA,K,e⟩;replace Z:=Z.up e;replace K:InK v (fun b=> j.heap.size < b) A _:=InK.mono (fun b E=> s b E.1) (fun _ _=> rfl) K;have D:=hdq (fun i hi hv=> BQ.var (xs:=Tl) (i:=i) (List.mem_of_getElem? (i:=4) rfl) (by decide+kernel) (by decide+kernel) hi hv);clear S s;obtain⟨L,r⟩: ∃L,(Za Tl).length=L:=⟨_,rfl⟩;rw[r] at hA⊢;have z:=hdq r;clear r;go_wp2_with fail;refine(Pf _ g _ 2 Z.2 (by omega)).mono ?_;rintro e O ⟨y,rfl,hy0,hy1,R,o⟩;replace Z:=Z.tr o R;replace K:=K.dl o (La (by have:=f.out;omega));clear o R;obtain⟨i,rfl⟩:=Int.eq_ofNat_of_zero_le hy0;go_wp2_with fail;refine(y15 _ 1 i).mono ?_;rintro e Q ⟨rfl,e⟩;replace Z:=Z.up e;replace K:=K.later e;have R:=cbn (Z.br br (by have:=f.out;omega));go_wp2_with fail;exact db (A:=A) (n:=L) (c:=c) (by simp[aQ,results54,go_sem,R]) (D.out i (by rcases(by omega:i=0\/i=1) with rfl|rfl <;> simp[txts]) (by omega)) z.out hA K (F5 _ _ 1 i) Y Z f.out (aM _) (by omega) rfl
 have t0:(x==0)=false:=beq_eq_false_iff_ne.2 M;by_cases N:x=1
 · subst N
   go_wp2_with fail;generalize q:aN I _=p;obtain⟨u,e⟩:=nb q;have S:=Nf.of (xs:=Vm) u;replace Z:=Z.up e;clear q u e;have s:=Z.news br;refine(Ww Vm _ _ S (by decide) (by decide)).mono ?_;rintro e v ⟨A,c,rfl,hA,K,e⟩;replace Z:=Z.up e;replace K:InK v (fun b=> j.heap.size < b) A _:=InK.mono (fun b E=> s b E.1) (fun _ _=> rfl) K;have D:=hdq (fun i hi hv=> BQ.var (xs:=Vm) (i:=i) (List.mem_of_getElem? (i:=5) rfl) (by decide+kernel) (by decide+kernel) hi hv);clear S s;obtain⟨L,r⟩: ∃L,(Za Vm).length=L:=⟨_,rfl⟩;rw[r] at hA⊢;have z:=hdq r;clear r;go_wp2_with fail;refine(y15 _ 1 0).mono ?_;rintro e O ⟨rfl,e⟩;replace Z:=Z.up e;replace K:=K.later e;have R:=cbn (Z.br br (by have:=f.out;omega));go_wp2_with fail;exact db (A:=A) (n:=L) (c:=c) (by simp[aQ,results54,go_sem,R]) (D.out 0 (by simp[txts]) (by omega)) z.out hA K (F5 _ _ 1 0) Y Z f.out (aM _) (by omega) rfl
 have t1:(x==1)=false:=beq_eq_false_iff_ne.2 N;by_cases G:x=2
 · subst G
   go_wp2_with fail;refine(y15 _ 6 0).mono ?_;rintro e p ⟨rfl,e⟩;replace Z:=Z.up e;go_wp2_with fail;obtain⟨e,K⟩:=Tc (w:=p) 25 (F5 _ (fun b=> j.heap.size < b) 6 0) (Z.news br);have hs:(aN p (.cells #[.int .i64 6,.int .i64 0,.slice none 0 0] 25)).heap.size=p.heap.size+1:=by simp
   rw[<-hs];clear hs;replace Z:=Z.up e;clear e;generalize aN p _=v at K Z⊢;generalize p.heap.size=P at K⊢;refine(numD [1,2,0] rfl rfl Z.2 (by omega)).mono ?_;rintro e O ⟨F,rfl,J,o,R⟩;replace Z:=Z.tr o R;replace K:=K.dl o (La (by have:=f.out;omega));clear o R;have W: -3<=F/\F<=2:=by simp at J;omega
   clear J;go_wp2_with fail;refine(dp _ g _ 1 1 F Z.2 (by omega) rfl (by omega) (by omega) (by omega)).mono ?_;intro e Q h;obtain⟨ta,ua,va,Aa,la,ca,rfl,X,a,o,Z⟩:=h.at Z br;replace K:=K.dl o (La (by have:=f.out;omega));clear o;go_wp2_with fail;obtain⟨e,H⟩:=Tc 25 a (Z.news br);replace Z:=Z.up e;replace K:=K.later e;refine(Ra 11 (Z.news br) H rfl).mono ?_;rintro e w7 ⟨Ab,cb,rfl,b,e⟩;replace Z:=Z.up e;replace K:=K.later e;clear H;have z:=hdq (show([.mk 6 0 []]:List Tr).length=1 from rfl);have R:=cbn (Z.br br (by have:=f.out;omega));go_wp2_with fail;exact db (A:=(some ⟨P,0,none⟩)) (n:=1) (c:=1) (by simp[aQ,results54,go_sem,R]) (BQ.rfl X) rfl ⟨aM _,by unfold maxLen;omega,fun h=> by cases h⟩ K b Y Z f.out (aM _) (by omega) rfl
 have t2:(x==2)=false:=beq_eq_false_iff_ne.2 G;go_wp2_with fail;refine(QG _ g _ Z.2 (by omega)).mono ?_;intro e p h;obtain⟨A,n,c,ks,t,k,i,B,l,d,rfl,hP,hn,hA,K,T,Z⟩:=h.at Z (Z.news br);have R:=cbn (Z.br br (by have:=f.out;omega));go_wp2_with fail;exact db (A:=A) (n:=n) (c:=c) (by simp[aQ,results54,go_sem,R]) (hP) hn hA K T Y Z f.out (aM _) (by omega) rfl
def SQ(b:List Tr)(t:Tr):Prop:=b.length<=9/\ ∃G a,ad G a/\j0 m0 (enc a)=true/\MW (ctxE G) (enc a) b t
theorem SQ.law{b:List Tr}{t:Tr}(h:SQ b t): ∃f d r,V0 (Yj f b t) 10=some r/\V0 (Uf d b t) 10=some r:=by
 obtain⟨-,G,a,c,v,e⟩:=h;exact EH c v e
def CN(w:World)(P:List Tr->Tr->Prop)(e:Ending)(a:World):Prop:= ∃A n c b t u,e= .returned (.tuple #[.slice A n c,u])/\P b t/\b.length=n/\(n<=c/\c<=maxLen/\(A=none->c=0))/\Mb w.heap.size a A b/\j2 w.heap.size a t u/\Ext w a
theorem nz{P:Program}{fn:Func}{a:Act}{w f:World}{t:Tr}{u x y z:Value}{r:Nat}{A:Option Addr}{n c:Nat}{e:List Tr}{T:List Tr->Tr->Prop}(g:(aQ fn a.tmps).run P (((w.setCell ⟨r,0,none⟩ x).setCell ⟨r,1,none⟩ y).setCell ⟨r,2,none⟩ z)= .ok (.tuple #[.slice A n c,u]) (((w.setCell ⟨r,0,none⟩ x).setCell ⟨r,1,none⟩ y).setCell ⟨r,2,none⟩ z))
 (hP:T e t) (hn:e.length=n) (hA:n<=c/\c<=maxLen/\(A=none->c=0)) (hK:InK w (fun b=> r < b) A e) (hT:InT w (fun b=> r < b) t u) (X:Ext f w) (hr:f.heap.size<=r) (i:a.defers= []):bodyPost P fn (CN f T) .ret a (((w.setCell ⟨r,0,none⟩ x).setCell ⟨r,1,none⟩ y).setCell ⟨r,2,none⟩ z):=by
 have hs: ∀b,r < b->b < w.heap.size->(((w.setCell ⟨r,0,none⟩ x).setCell ⟨r,1,none⟩ y).setCell ⟨r,2,none⟩ z).heap[b]? =w.heap[b]? :=fun b d _=> by
  have:b≠r:=by omega
  rw[Below.heap_setCell _ _ _ _ this,Below.heap_setCell _ _ _ _ this,Below.heap_setCell _ _ _ _ this]
 exact bodyPost_ret g i ⟨A,n,c,e,t,u,rfl,hP,hn,hA,InK.mono (fun b d=>⟨by omega,by simpa using d.2⟩) (fun b d=> hs b d.1 d.2) hK.bound,InT.mono (fun b d=>⟨by omega,by simpa using d.2⟩) (fun b d=> hs b d.1 d.2) hT.bound,X.set3 hr _ _ _⟩
theorem wJ(f:World)(A:Option Addr)(cap:Nat)(q:List Int)(hl:q.length<=cap)(hc:cap<=maxLen)(z:Wd f f.heap.size A q):Calls prog 18 #[.slice A q.length cap] f (CN f SQ):=by
 have o:=(xr f).alloc (.cells #[.int .i64 0,.int .i64 0,.slice none 0 0] 25);have br:=heap_alloc_new f (.cells #[.int .i64 0,.int .i64 0,.slice none 0 0] 25);go_enter func18,ntmps18;go_wp2_with fail;refine(lG _ A cap q hl hc ((z.ext o).mono o.size)).mono ?_;rintro e y ⟨rfl,j,e⟩;generalize x:(f.alloc (.cells #[.int .i64 0,.int .i64 0,.slice none 0 0] 25)).heap.size=g at j⊢;have p:=hdq (show f.heap.size < g by rw[<-x];simp);have X:=o.trans e;replace br:=e.blk br;have s:=hdq j.lt;have Z:St y y g 0:=⟨X0.refl _ _,j⟩;clear o e x j z;go_wp2_with fail;refine(gG _ g _ Z.2 (by omega)).mono ?_;intro e u h;obtain⟨B,n,c,r,t,k,i,At,l,d,rfl,⟨G,a,rfl,rfl,m,hv,v,w⟩,hn,hA,K,T,Z⟩:=h.at (N:=fun b=> g < b) Z (fun b m=> by have:=s.out;omega);have e:=(xr u).alloc (.cells #[.int .i64 k,.int .i64 i,.slice At l d] 25);have P:=heap_alloc_new u (.cells #[.int .i64 k,.int .i64 i,.slice At l d] 25);have R:=cbn (e.blk (Z.br br (by have:=p.out;omega)));have C:=hdq (fun W (j:Rd W g (0+3010)) hT hK=> bH (ctxE G) (enc a) W g _ (.agg #[.int .i64 k,.int .i64 i,.slice At l d]) B c j (by omega) hT (Z3 hv).2 hK (by rw[hn];exact hA.1) hA.2.1 v w);rw[hn] at C;have D:=hdq (fun r t (h:r.length<=9/\MW (ctxE G) (enc a) r t)=>(⟨h.1,G,a,m,hv,h.2⟩:SQ r t));replace Z:=Z.up e;have K:=K.later e;have T:=T.later e;have Q:=Z.1.size;clear m hv v w hA hn R;go_wp2_with fail;generalize aN u _=I at*;refine(C.out I Z.2 T K).mono ?_;intro S O h;have V:=hdq s.out;obtain⟨E,H,J,Q6,t2,L,Y,F,U,M,rfl,hP,hn,hA,K,T,Z⟩:=h.at (N:=fun b=> f.heap.size < b) Z (fun b m=> by have:=s.out;have:=p.out;omega);have R:=cbn (Z.br br (by have:=p.out;omega));go_wp2_with fail;exact nz (A:=E) (n:=H) (c:=J) (by simp[aQ,results18,go_sem,R]) (D.out _ _ hP) hn hA K T (Z.1.ext X (fun b m=> by rw[List.mem_singleton.1 m];exact Nat.le_of_lt p.out)) (aM _) rfl
theorem j111(a:World)(A:Option Addr)(cap:Nat)(d:List Int)(hl:d.length<=cap)(hc:cap<=maxLen)(g:Wd a a.heap.size A d):Calls prog 12 #[.slice A d.length cap] a (CN a SQ):=by
 go_enter func12,ntmps12;go_wp2_with fail;generalize i:aN a _=k;obtain⟨br,e⟩:=nb i;refine(wJ k A cap d hl hc ((g.ext e).mono e.size)).mono ?_;rintro l m ⟨B,n,c,o,t,u,rfl,hP,hn,hA,K,T,j⟩;obtain⟨_,_,_,_,_,rfl⟩:=T.three;have R:=cbn (j.blk br);have lt:=O1 br;clear i g;go_wp2_with fail;exact nz (A:=B) (n:=n) (c:=c) (by simp[aQ,results12,go_sem,R]) hP hn hA (InK.mono (fun b f=> by have:=f.1;omega) (fun _ _=> rfl) K) (InT.mono (fun b f=> by have:=f.1;omega) (fun _ _=> rfl) T) (e.trans j) (aM _) rfl
