/-
  Lemmas towards the law, 39: MSym, D11, SymI, SymP.
-/
import Derived.Test.YtckhbnmfnpolgaaGreatC00
import Derived.Test.YtckhbnmfnpolgaaGreatCBL
open Nat renaming le_refl->aN,le_succ->aQ
open Go renaming World->aL,results->aR,maxLen->aV,heap_alloc_new->aS,wpAnyH_done->bP
open Go.World renaming alloc->aO,setCell->cM
open List renaming mem_of_getElem?->fY,setIfInBounds_toArray->aU,set_cons_zero->bN,set_cons_succ->bM,mem_cons_self->gL,getElem?_toArray->dZ,getElem?_cons_zero->dQ,getElem?_cons_succ->dL
open Go.RowKit.Below renaming heap_setCell->aM
open Go.Proofs.Tryz
set_option linter.all false
set_option maxHeartbeats 40000000
set_option maxRecDepth 100000
namespace Go.Proofs.YtckhbnmfnpolgaaGreat
open Go.RowKit
open M (Hd HR Cv Ty Lim Wb y6 U4 dep DG fvb)
structure Vb (G:List M.Tm) (e T l r:M.Tm):Prop where
 hG:O6 G
 h8:G.length<=8
 ve:j0 D0 (enc e)=true
 vs:j0 D0 (enc (.id T l r))=true
 hE: ∃E,Ty G e E/\HR E (.id T l r)
 le:Lim G e
 hT: ∃j,j<=3/\U4 G T j
 lT:Lim G T
 hl: ∃B,Ty G l B/\Cv B T
 ll:Lim G l
 hr: ∃C,Ty G r C/\Cv C T
 lr:Lim G r
theorem TB{f:Nat}{ctx:List Tr}{t s:Tr}(h:X0 (Yb f ctx t) 10=some (s,0)): ∃G e T l r,ctx=ctxE G/\t=enc e/\s=enc (.id T l r)/\Vb G e T l r:=by
 obtain⟨u,d,w,o⟩:=We h;obtain⟨G,a,A,rfl,hG,h8,rfl,hv,rfl,m,g,J,-⟩:=Vm d;obtain⟨C,rfl,b,-,x⟩:=wi w;obtain⟨T,l,r,rfl⟩:=Rj o;have n:=hG.wf.wf;obtain⟨S,j,K,i,q,z⟩: ∃S j,j<=3/\Ty G A S/\HR S (.sort j)/\Lim G A:=by
  rcases Lim.type m hG.wf g with rfl|⟨y,k,hk,S,v,I⟩
  · cases b with
    |step d _=> cases d
  · exact⟨S,k,hk,v,I,y⟩
 obtain⟨L,D,F⟩:=Ty.red b.red i;have c:=Lim.red b.red n i z;cases D with
 |id t1 t2 E B p H=>
  have hi:=(F.trans q.cv).sort_inj;exact⟨G,a,T,l,r,rfl,rfl,rfl,hG,h8,hv,x,⟨A,m,b⟩,g,⟨_,by omega,_,t1,t2⟩,c.1,⟨_,E,B⟩,c.2.1,⟨_,p,H⟩,c.2.2⟩
def Y2(T l e:M.Tm):M.Tm:= .move (.lam T (.id (M.Tm.wk T) (.var 0) (M.Tm.wk l))) e (.refl l)
def me(s t:Tr):Tr:= .mk 12 0 [.mk 4 0 [kd s.kids 0,.mk 10 0 [shfT 1 (kd s.kids 0) 0,.mk 1 0 [],shfT 1 (kd s.kids 1) 0]],t,.mk 11 0 [kd s.kids 1]]
theorem Hk(t:M.Tm):shfT 1 (enc t) 0=enc (M.Tm.wk t):=by
 have:=Tj 1 t 0;rw[show fk 1 0=Nat.succ from funext fun n=> by simp[fk]] at this;exact this
theorem ZA(T l r e:M.Tm):me (enc (.id T l r)) (enc e)=enc (Y2 T l e):=by
 show Tr.mk 12 0 [.mk 4 0 [enc T,.mk 10 0 [shfT 1 (enc T) 0,.mk 1 0 [],shfT 1 (enc l) 0]],enc e,.mk 11 0 [enc l]]=_
 rw[Hk,Hk]
 rfl
def eg(f:Nat)(G:List Tr)(T:Tr):An:=thn (Q0 f G T) fun _=> some (T,0)
def Jb(f:Nat)(G:List Tr)(T:Tr):An:=if j0 D0 T=true then thn (Yb f G T) fun _=> some (T,0) else some (j2,2)
section
variable {G : List M.Tm} {e T l r : M.Tm}
theorem Vb.body(h:Vb G e T l r): ∃j,j<=3/\Ty (T::G) (.id (M.Tm.wk T) (.var 0) (M.Tm.wk l)) (.sort j)/\Lim (T::G) (.id (M.Tm.wk T) (.var 0) (M.Tm.wk l)):=by
 obtain⟨j,d,S,c,f⟩:=h.hT;obtain⟨B,b,g⟩:=h.hl;have a:=h.hG.wf.wf;exact⟨j,d,.id (c.wk T) (f.ren _) (.var (M.lk_zero T G)) (.rfl' _) (b.wk T) (g.ren _),Lim.ren c a (M.RenOk.wk T G) h.lT,trivial,Lim.ren b a (M.RenOk.wk T G) h.ll⟩
theorem Vb.tyb(h:Vb G e T l r):y6 G T:=by
 obtain⟨j,a,L⟩:=h.hT;exact⟨h.lT,j,a,L⟩
theorem Vb.lrf(h:Vb G e T l r):Lim G (.refl l):=by
 obtain⟨j,a,L⟩:=h.hT;obtain⟨B,d,f⟩:=h.hl;refine⟨h.ll,fun g k b c=> ?_⟩;obtain rfl:=d.det b;rw[c.cv L f];exact a
theorem Vb.ag(h:Vb G e T l r)(v:j0 D0 (enc (Y2 T l e))=true):Ag G (Y2 T l e):=by
 have hl:G.length<=20:=by have:=h.h8;omega
 have v1:j0 D0 (enc (.lam T (.id (M.Tm.wk T) (.var 0) (M.Tm.wk l))))=true:=J1 v (by simp[Y2]);have v2:j0 D0 (enc (.refl l))=true:=J1 v (by simp[Y2]);have d:j0 D0 (enc T)=true:=J1 v1 (by simp);obtain⟨j,o,k,g⟩:=h.body;obtain⟨E,n,-⟩:=h.hE;obtain⟨B,c,p⟩:=h.hl;obtain⟨i,hi,S,m,q⟩:=h.hT;refine k8 h.hG hl _ v ⟨k8 h.hG hl _ v1 ⟨fun f a=> PB h.hG hl d m h.lT,fun b s f a=> PB (h.hG.cons b d) (by simp only[List.length_cons];omega) (J1 v1 (by simp)) k g⟩ trivial,fun f a=> PB h.hG hl h.ve n h.le,k8 h.hG hl _ v2 (fun f a=> PB h.hG hl (J1 v2 (by simp)) c h.ll) trivial⟩ (.inr (Yg.of h.hG v2 (.refl c) h.lrf))
theorem Vb.typ(h:Vb G e T l r){A:M.Tm}(k:Ty G (Y2 T l e) A):Cv A (.id T r l):=by
 cases k with
 |move c b n i f m j g=>
  obtain⟨E,a,d⟩:=h.hE;obtain rfl:=a.det c;obtain⟨rfl,rfl,rfl⟩:=d.id_det b;have:=(HR.one (Hd.beta T (.id (M.Tm.wk T) (.var 0) (M.Tm.wk l)) r)).cv;rw[show(M.Tm.id (M.Tm.wk T) (.var 0) (M.Tm.wk l)).inst r= .id ((M.Tm.wk T).inst r) r ((M.Tm.wk l).inst r) from rfl,M.Tm.wk_inst,M.Tm.wk_inst] at this;exact this
end
theorem an{g:Nat}{G:List M.Tm}{e x:M.Tm}{s:Tr}(L:Yb g (ctxE G) (enc e)=some (s,0))(hG:O6 G)(F:j0 D0 (enc x)=true->Ag G x):
 ∃f w q,eg f (ctxE G) (enc x)=some q/\Jb w (ctxE G) (enc x)=some q/\(q.2=0->q.1=enc x/\ ∃A,Ty G x A/\Lim G x/\j0 D0 (enc x)=true):=by
 by_cases hv:j0 D0 (enc x)=true
 · obtain⟨u,p,-⟩:=M8 L
   obtain⟨p,-⟩:=tl p;obtain⟨i,J⟩:=So (ctxE G) (enc x);obtain⟨j,E⟩:=(Qw 21 G (by omega) hG x hv).at;obtain⟨⟨a,c⟩,t⟩:=E j (aN _);obtain⟨⟨C,v⟩,m⟩:=J (i+g) (by omega);have hr:ra (i+g) (ctxE G) [enc x]=some (u,0):=by
    have:=S4.ccV (show g<=i+g by omega) (ctxE G) _ p;unfold ra;rw[this];simp[hv]
   have o:=m;unfold Yb at o;rw[hr] at o;obtain⟨b,d,N,D,K⟩:=Ud (show thn (S0 (i+g) (ctxE G) (enc x)) (fun s=> some (s,0))=some (C,v) from o);rcases F hv j (i+g) a c b d t N with⟨rfl,rfl⟩ |⟨h,-⟩
   · by_cases hc:c=0
     · subst hc
       have:=D rfl;simp only[Option.some.injEq,Prod.mk.injEq] at this;obtain⟨rfl,rfl⟩:=this;refine⟨j,i+g,(enc x,0),by unfold eg;rw[t];rfl,by unfold Jb;rw[if_pos hv,m];rfl,fun _=>⟨rfl, ?_⟩⟩;obtain⟨P,y,A,B,-,-,z,-,-,H,I,-⟩:=Vm m;cases py B
       cases Md z
       exact⟨A,H,I,hv⟩
     · have:=K hc
       simp only[Prod.mk.injEq] at this;obtain⟨rfl,rfl⟩:=this;exact⟨j,i+g,(j2,v),by unfold eg;rw[t];unfold thn;simp[hc],by unfold Jb;rw[if_pos hv,m];unfold thn;simp[hc],fun h=> absurd h hc⟩
   · exact h.elim
 · refine⟨1,0,(j2,2), ?_,by unfold Jb;rw[if_neg hv],fun h=> by cases h⟩
   unfold eg;have:Q0 1 (ctxE G) (enc x)=some (j2,2):=by
    cases hx:enc x with
    |mk k n O=>
     rw[hx] at hv;unfold Q0;rw[if_pos (.inl (by simpa using hv))]
   rw[this]
   rfl
theorem y231{ctx:List Tr}{t:Tr}(h: ∃f a r,X0 (Se f ctx t) 10=some r/\X0 (Yb a ctx t) 10=some r): ∃f a r d g q,X0 (Se f ctx t) 10=some r/\X0 (Yb a ctx t) 10=some r/\(r.2=0->eg d ctx (me r.1 t)=some q/\Jb g ctx (me r.1 t)=some q)/\(r.2≠0->q=(j2,r.2))/\
 (q.2=0-> ∃G e T l u A,ctx=ctxE G/\t=enc e/\r=(enc (.id T l u),0)/\q.1=enc (Y2 T l e)/\Vb G e T l u/\Ty G (Y2 T l e) A/\Lim G (Y2 T l e)/\j0 D0 (enc (Y2 T l e))=true):=by
 obtain⟨f,a,⟨s,c⟩,i,b⟩:=h;by_cases hc:c=0
 · subst hc
   obtain⟨G,e,T,l,u,rfl,rfl,rfl,hS⟩:=TB b;obtain⟨z,w,-⟩:=We b;obtain⟨d,g,q,m,v,y⟩:=an (x:=Y2 T l e) w hS.hG hS.ag;refine⟨f,a,_,d,g,q,i,b,fun _=> by rw[ZA];exact⟨m,v⟩,fun h=> absurd rfl h,fun p=> ?_⟩;obtain⟨k,A,j,n,o⟩:=y p;exact⟨G,e,T,l,u,A,rfl,rfl,rfl,k,hS,j,n,o⟩
 · exact⟨f,a,_,0,0,(j2,c),i,b,fun h=> absurd h hc,fun _=> rfl,fun h=> absurd h hc⟩
theorem Vb.check{G:List M.Tm}{e T l r A:M.Tm}(h:Vb G e T l r)(k:Ty G (Y2 T l e) A)(a:Lim G (Y2 T l e))(v:j0 D0 (enc (Y2 T l e))=true)(c:j0 D0 (enc (.id T r l))=true)(f:Nat):Nb (Nq f (ctxE G) (enc (Y2 T l e)) (enc (.id T r l))):=by
 obtain⟨j,d,S,o,m⟩:=h.hT;obtain⟨B,i,g⟩:=h.hl;obtain⟨C,n,b⟩:=h.hr;exact Sr h.hG h.h8 v c k a (h.typ k) ⟨⟨h.lT,h.lr,h.ll⟩,j,d,_,.id o m n b i g,.refl _⟩
end Go.Proofs.YtckhbnmfnpolgaaGreat
namespace Go.Proofs.YtckhbnmfnpolgaaGreat
open Go Go.RowKit
attribute [local go_sem ↓] Go.wp_at_zero Go.wp_at_succ
def In:List (List UInt8):= [[78], [78], [78], [123,78,44,35,50,44,35,49,125], [123,78,44,35,50,44,35,49,125]]
def Ro:List (List UInt8):= [[42,48], [35,48], [35,49], [123,35,50,44,35,49,44,35,48,125]]
theorem BQ.var{xs:List (List UInt8)}{q:List M.Tm×List M.Tm}{i:Nat}(a:q∈txts)(b:Wa xs=ctxE q.1)(hx:(Wa xs).length<=5)(hi:M.Tm.var i∈q.2)(hv:i<=20):BQ (Wa xs) (.mk 1 i []):=
 ⟨q.1,.var i,b,rfl,.txt a hi,by simp[j0,P0,Z8,ni,cnt,W1,D0,U0,Ma,Pg];omega,hx,fun x h=>(Z3 (zH h)).2⟩
theorem NC.fv{n:Nat}{a:M.Tm}(h:NC n a):M.fvb n a:=by
 induction h <;> simp only[M.fvb] <;> simp_all
theorem NC.stt{n:Nat}{a:M.Tm}(h:NC n a):ea a:=by
 induction h <;> simp only[ea] <;> simp_all
theorem BQ.rfl{t:Tr}(h:NQ 1 12 104 t):BQ [.mk 6 0 []] (.mk 11 0 [t]):=by
 obtain⟨a,c,b,d,f⟩:=h;subst c;refine⟨[.nat],.refl a,by simp[ctxE,enc],Eq.refl _,.rfl b, ?_,by simp,fun x hx=> by rw[List.mem_singleton.1 hx];decide⟩;have hs:=Yz (.refl a) 1 13 b.fv b.stt (by simp only[M.dep];omega) (by omega);unfold j0;rw[Bool.and_eq_true,decide_eq_true_eq];exact⟨sf hs (by omega),by simp only[cnt,W1];omega⟩
theorem NF(p:aL)(g m:Nat)(E:Rd p g m)(hm:m < 600000):Calls prog 54 #[.pointer (some ⟨g,0,none⟩)] p (CQ p g (m+3010) BQ):=by
 have f:=hdq E.lt;go_enter func54,ntmps54;go_wp2_with fail;generalize q:aO p _=w1;obtain⟨br,e⟩:=nb q;have Z:=(St.of E e).id;have Y:D1 [g] p w1:=oE e;clear q e E;refine(Yf _ g _ 4 Z.2 (by omega)).mono ?_;rintro e N ⟨x,rfl,V,hx1,R,o⟩;replace Z:=Z.tr o R;clear o R;by_cases Q:x=0
 · subst Q
   go_wp2_with fail;generalize q:aO N _=j;obtain⟨u,e⟩:=nb q;have S:=Uf.of (xs:=In) u;replace Z:=Z.up e;clear q u e;have v:=Z.news br;refine(ox In _ _ S (by decide) (by decide)).mono ?_;rintro e C ⟨A,c,rfl,hA,K,e⟩;replace Z:=Z.up e;replace K:InK C (fun b=> p.heap.size < b) A _:=InK.mono (fun b F=> v b F.1) (fun _ _=> rfl) K;have H:=hdq (fun i hi hv=> BQ.var (xs:=In) (i:=i) (fY (i:=4) rfl) (by decide+kernel) (by decide+kernel) hi hv);clear S v;obtain⟨L,s⟩: ∃L,(Wa In).length=L:=⟨_,rfl⟩;rw[s] at hA⊢;have z:=hdq s;clear s;go_wp2_with fail;refine(Yf _ g _ 2 Z.2 (by omega)).mono ?_;rintro e J ⟨y,rfl,hy0,hy1,R,o⟩;replace Z:=Z.tr o R;replace K:=K.dl o (Na (by have:=f.out;omega));clear o R;obtain⟨i,rfl⟩:=Int.eq_ofNat_of_zero_le hy0;go_wp2_with fail;refine(q15 _ 1 i).mono ?_;rintro e w6 ⟨rfl,e⟩;replace Z:=Z.up e;replace K:=K.later e;have R:=cbn (Z.br br (by have:=f.out;omega));go_wp2_with fail;exact Za (A:=A) (n:=L) (c:=c) (by simp[aR,results54,go_sem,R]) (H.out i (by rcases(by omega:i=0\/i=1) with rfl|rfl <;> simp[txts]) (by omega)) z.out hA K (d5 _ _ 1 i) Y Z f.out (aN _) (by omega) rfl
 have t0:(x==0)=false:=beq_eq_false_iff_ne.2 Q;by_cases O:x=1
 · subst O
   go_wp2_with fail;generalize q:aO N _=j;obtain⟨u,e⟩:=nb q;have S:=Uf.of (xs:=Ro) u;replace Z:=Z.up e;clear q u e;have v:=Z.news br;refine(ox Ro _ _ S (by decide) (by decide)).mono ?_;rintro e C ⟨A,c,rfl,hA,K,e⟩;replace Z:=Z.up e;replace K:InK C (fun b=> p.heap.size < b) A _:=InK.mono (fun b F=> v b F.1) (fun _ _=> rfl) K;have H:=hdq (fun i hi hv=> BQ.var (xs:=Ro) (i:=i) (fY (i:=5) rfl) (by decide+kernel) (by decide+kernel) hi hv);clear S v;obtain⟨L,s⟩: ∃L,(Wa Ro).length=L:=⟨_,rfl⟩;rw[s] at hA⊢;have z:=hdq s;clear s;go_wp2_with fail;refine(q15 _ 1 0).mono ?_;rintro e J ⟨rfl,e⟩;replace Z:=Z.up e;replace K:=K.later e;have R:=cbn (Z.br br (by have:=f.out;omega));go_wp2_with fail;exact Za (A:=A) (n:=L) (c:=c) (by simp[aR,results54,go_sem,R]) (H.out 0 (by simp[txts]) (by omega)) z.out hA K (d5 _ _ 1 0) Y Z f.out (aN _) (by omega) rfl
 have t1:(x==1)=false:=beq_eq_false_iff_ne.2 O;by_cases I:x=2
 · subst I
   go_wp2_with fail;refine(q15 _ 6 0).mono ?_;rintro e j ⟨rfl,e⟩;replace Z:=Z.up e;go_wp2_with fail;obtain⟨e,K⟩:=mc (w:=j) 25 (d5 _ (fun b=> p.heap.size < b) 6 0) (Z.news br);have hs:(aO j (.cells #[.int .i64 6,.int .i64 0,.slice none 0 0] 25)).heap.size=j.heap.size+1:=by simp
   rw[<-hs];clear hs;replace Z:=Z.up e;clear e;generalize aO j _=C at K Z⊢;generalize j.heap.size=W at K⊢;refine(numD [1,2,0] rfl rfl Z.2 (by omega)).mono ?_;rintro e J ⟨D,rfl,U,o,R⟩;replace Z:=Z.tr o R;replace K:=K.dl o (Na (by have:=f.out;omega));clear o R;have X: -3<=D/\D<=2:=by simp at U;omega
   clear U;go_wp2_with fail;refine(Yl _ g _ 1 1 D Z.2 (by omega) rfl (by omega) (by omega) (by omega)).mono ?_;intro e w6 h;obtain⟨ta,ua,va,Aa,la,ca,rfl,Pa,a,o,Z⟩:=h.at Z br;replace K:=K.dl o (Na (by have:=f.out;omega));clear o;go_wp2_with fail;obtain⟨e,P⟩:=mc 25 a (Z.news br);replace Z:=Z.up e;replace K:=K.later e;refine(Qa 11 (Z.news br) P rfl).mono ?_;rintro e w7 ⟨Ab,cb,rfl,b,e⟩;replace Z:=Z.up e;replace K:=K.later e;clear P;have z:=hdq (show([.mk 6 0 []]:List Tr).length=1 from rfl);have R:=cbn (Z.br br (by have:=f.out;omega));go_wp2_with fail;exact Za (A:=(some ⟨W,0,none⟩)) (n:=1) (c:=1) (by simp[aR,results54,go_sem,R]) (BQ.rfl Pa) rfl ⟨aN _,by unfold aV;omega,fun h=> by cases h⟩ K b Y Z f.out (aN _) (by omega) rfl
 have t2:(x==2)=false:=beq_eq_false_iff_ne.2 I;go_wp2_with fail;refine(nG _ g _ Z.2 (by omega)).mono ?_;intro e j h;obtain⟨A,n,c,ks,t,k,i,B,l,d,rfl,hP,hn,hA,K,T,Z⟩:=h.at Z (Z.news br);have R:=cbn (Z.br br (by have:=f.out;omega));go_wp2_with fail;exact Za (A:=A) (n:=n) (c:=c) (by simp[aR,results54,go_sem,R]) (hP) hn hA K T Y Z f.out (aN _) (by omega) rfl
def SQ(b:List Tr)(t:Tr):Prop:=b.length<=9/\ ∃G a,zd G a/\j0 D0 (enc a)=true/\MW (ctxE G) (enc a) b t
theorem SQ.law{b:List Tr}{t:Tr}(h:SQ b t): ∃f c r,X0 (Se f b t) 10=some r/\X0 (Yb c b t) 10=some r:=by
 obtain⟨-,G,a,g,v,d⟩:=h;exact qG g v d
def CN(w:aL)(P:List Tr->Tr->Prop)(e:Ending)(a:aL):Prop:= ∃A n c b t u,e= .returned (.tuple #[.slice A n c,u])/\P b t/\b.length=n/\(n<=c/\c<=aV/\(A=none->c=0))/\xb w.heap.size a A b/\Y1 w.heap.size a t u/\Ext w a
theorem wI{P:Program}{fn:Func}{a:Act}{w g:aL}{t:Tr}{u x y z:Value}{r:Nat}{A:Option Addr}{n c:Nat}{f:List Tr}{T:List Tr->Tr->Prop}(j:(aR fn a.tmps).run P (((w.setCell ⟨r,0,none⟩ x).setCell ⟨r,1,none⟩ y).setCell ⟨r,2,none⟩ z)= .ok (.tuple #[.slice A n c,u]) (((w.setCell ⟨r,0,none⟩ x).setCell ⟨r,1,none⟩ y).setCell ⟨r,2,none⟩ z))
 (hP:T f t) (hn:f.length=n) (hA:n<=c/\c<=aV/\(A=none->c=0)) (hK:InK w (fun b=> r < b) A f) (hT:InT w (fun b=> r < b) t u) (X:Ext g w) (hr:g.heap.size<=r) (i:a.defers= []):bodyPost P fn (CN g T) .ret a (((w.setCell ⟨r,0,none⟩ x).setCell ⟨r,1,none⟩ y).setCell ⟨r,2,none⟩ z):=by
 have hs: ∀b,r < b->b < w.heap.size->(((w.setCell ⟨r,0,none⟩ x).setCell ⟨r,1,none⟩ y).setCell ⟨r,2,none⟩ z).heap[b]? =w.heap[b]? :=fun b d _=> by
  have:b≠r:=by omega
  rw[aM _ _ _ _ this,aM _ _ _ _ this,aM _ _ _ _ this]
 exact bodyPost_ret j i ⟨A,n,c,f,t,u,rfl,hP,hn,hA,InK.mono (fun b d=>⟨by omega,by simpa using d.2⟩) (fun b d=> hs b d.1 d.2) hK.bound,InT.mono (fun b d=>⟨by omega,by simpa using d.2⟩) (fun b d=> hs b d.1 d.2) hT.bound,X.set3 hr _ _ _⟩
theorem q66(f:aL)(A:Option Addr)(cap:Nat)(s:List Int)(hl:s.length<=cap)(hc:cap<=aV)(hB:ge f f.heap.size A s):Calls prog 18 #[.slice A s.length cap] f (CN f SQ):=by
 have o:=(xr f).alloc (.cells #[.int .i64 0,.int .i64 0,.slice none 0 0] 25);have br:=aS f (.cells #[.int .i64 0,.int .i64 0,.slice none 0 0] 25);go_enter func18,ntmps18;go_wp2_with fail;refine(wG _ A cap s hl hc ((hB.ext o).mono o.size)).mono ?_;rintro e z ⟨rfl,j,e⟩;generalize w:(f.alloc (.cells #[.int .i64 0,.int .i64 0,.slice none 0 0] 25)).heap.size=g at j⊢;have q:=hdq (show f.heap.size < g by rw[<-w];simp);have X:=o.trans e;replace br:=e.blk br;have v:=hdq j.lt;have Z:St z z g 0:=⟨D1.refl _ _,j⟩;clear o e w j hB;go_wp2_with fail;refine(NF _ g _ Z.2 (by omega)).mono ?_;intro e u h;obtain⟨B,n,c,p,t,k,i,At,l,d,rfl,⟨G,a,rfl,rfl,m,hv,C,x⟩,hn,hA,K,T,Z⟩:=h.at (N:=fun b=> g < b) Z (fun b m=> by have:=v.out;omega);have e:=(xr u).alloc (.cells #[.int .i64 k,.int .i64 i,.slice At l d] 25);have bt:=aS u (.cells #[.int .i64 k,.int .i64 i,.slice At l d] 25);have R:=cbn (e.blk (Z.br br (by have:=q.out;omega)));have y:=hdq (fun W (j:Rd W g (0+3010)) hT hK=> gH (ctxE G) (enc a) W g _ (.agg #[.int .i64 k,.int .i64 i,.slice At l d]) B c j (by omega) hT (Z3 hv).2 hK (by rw[hn];exact hA.1) hA.2.1 C x);rw[hn] at y;have I:=hdq (fun p t (h:p.length<=9/\MW (ctxE G) (enc a) p t)=>(⟨h.1,G,a,m,hv,h.2⟩:SQ p t));replace Z:=Z.up e;have K:=K.later e;have T:=T.later e;have L:=Z.1.size;clear m hv C x hA hn R;go_wp2_with fail;generalize aO u _=D at*;refine(y.out D Z.2 T K).mono ?_;intro O w4 h;have Q:=hdq v.out;obtain⟨J,F,E,U,t2,S,P,H,Y,V,rfl,hP,hn,hA,K,T,Z⟩:=h.at (N:=fun b=> f.heap.size < b) Z (fun b m=> by have:=v.out;have:=q.out;omega);have R:=cbn (Z.br br (by have:=q.out;omega));go_wp2_with fail;exact wI (A:=J) (n:=F) (c:=E) (by simp[aR,results18,go_sem,R]) (I.out _ _ hP) hn hA K T (Z.1.ext X (fun b m=> by rw[List.mem_singleton.1 m];exact Nat.le_of_lt q.out)) (aN _) rfl
def wg(f:Nat)(G:List Tr)(T:Tr)(z:Bool):An:=if z=true/\j0 D0 T=true then thn (Yb f G T) fun _=> some (T,0) else some (j2,2)
def dt(a b c S1 t:Tr):Tr:= .mk 12 0 [.mk 4 0 [a,.mk 10 0 [b,.mk 1 0 [],c]],t,.mk 11 0 [S1]]
theorem En{k n:Int}{a:List Tr}{x:Tr}(h:j0 D0 (.mk k n a)=true)(hx:x∈a):j0 D0 x=true:=ny h hx
theorem qo{f:Nat}{G:List Tr}{j k i S1 t:Tr}{z:Bool}{q:Tr×Int}(h:Jb f G (dt j k i S1 t)=some q)(m:j0 D0 k=true/\j0 D0 i=true->z=true):wg f G (dt j (okT k) (okT i) S1 t) z=some q:=by
 have hd:j0 D0 j2=false:=by decide+kernel
 have key: ∀d c,j0 D0 (dt j d c S1 t)=true->j0 D0 d=true/\j0 D0 c=true:=fun d c h=> by
  have b:j0 D0 (.mk 4 0 [j,.mk 10 0 [d,.mk 1 0 [],c]])=true:=En h (by simp);have a:j0 D0 (.mk 10 0 [d,.mk 1 0 [],c])=true:=En b (by simp);exact⟨En a (by simp),En a (by simp)⟩
 by_cases g:j0 D0 k=true/\j0 D0 i=true
 · unfold okT wg
   rw[if_pos g.1,if_pos g.2,m g];unfold Jb at h
   simpa using h
 · unfold Jb at h
   rw[if_neg (fun hv=> g (key _ _ hv))] at h;unfold wg;rw[if_neg]
   · exact h
   · intro hv
     obtain⟨b,a⟩:=key _ _ hv.2;refine g ⟨?_, ?_⟩
     · unfold okT at b
       split at b
       · assumption
       · rw[hd] at b;cases b
     · unfold okT at a
       split at a
       · assumption
       · rw[hd] at a;cases a
theorem InT.w{w:aL}{N:Nat->Prop}{r:Nat}{t:Tr}{v:Value}(h:InT w (fun b=> N b/\b≠r) t v):InT w (fun b=> b≠r) t v:=InT.mono (fun b a=> a.2) (fun _ _=> rfl) h
theorem Sn{f:Nat}{G:List Tr}{T:Tr}{z:Bool}{q:Tr×Int}(h:wg f G T z=some q): ∃m,Hid (m=if z=true then mkV T else(j2,2))/\Hid (m.2=0->m.1=T/\j0 D0 T=true/\thn (Yb f G T) (fun _=> some (T,0))=some q)/\Hid (m.2≠0->q=(j2,m.2)):=by
 refine⟨_,hdq rfl,hdq ?_,hdq ?_⟩
 all_goals
  unfold wg at h;unfold mkV;cases z <;> cases hv:j0 D0 T <;> simp[hv] at h⊢
 · exact h
 · exact h.symm
 · exact h.symm
 · exact h.symm
theorem oF(f:Nat)(G:List Tr)(A:Option Addr)(ca:Nat)(i:aL)(hG:y22 i A G)(V:G.length<=ca)(x:ca<=aV)(t:Tr)(z:Bool)(v:Value)(N:Nat->Prop)(hN: ∀b,i.heap.size<=b->N b)(ht:Lies i t v)(q:Tr×Int)(h:wg f G t z=some q):Calls prog 59 #[.slice A G.length ca,v,.bool z] i (q8 N i q):=by
 have Z:=hdq (fun W (P:Ext i W) N hN t v ht q w=> LF f G A ca W (hG.ext P) V x t v ht N hN q w);obtain⟨m,L,E,H⟩:=Sn h;have C:=hdq ht;obtain⟨k,n,ks⟩:=t;obtain⟨At,ct,rfl,-⟩:=Lies.mk_iff.1 ht;clear h ht hG;go_enter func59,ntmps59;go_wp2_with fail;generalize d:aO (aO i _) _=Y;obtain⟨a,br,S⟩:=sn2 d.symm hN;have F:=hdq (S);have X:=xr Y;have Q:=F.out _ X.off;clear S hN d;have p:=hdq (InT.keep C.out a (g:=i.heap.size+1) (aQ _));clear C;refine(Am _ z _ _ _ (p.out.later X)).mono ?_;rintro e O ⟨u,rfl,hT,e⟩;replace X:=X.trans e;replace Q:=F.out _ X.off;rw[<-L.out] at hT⊢;obtain⟨m,c⟩:=m;obtain⟨_,_,_,_,_,rfl⟩:=hT.three;simp only at hT⊢;clear p;obtain⟨y,t⟩ |rfl:=cz c
 · have R:=cbn (X.blk br)
   have B:=fun o=> cbn ((X.alloc o).blk br)
   go_wp2_with fail;exact D9 (by simp[aR,results59,go_sem,R,B]) (H.out y.out) (((a.trans X).alloc _).set3 (aQ _) _ _ _) rfl
 obtain⟨rfl,hv,w⟩:=E.out rfl;have HV:=hdq (Z3 hv).2;clear hv;obtain⟨s,c,K,G2,J⟩:=a7 w;clear w E H;go_wp2_with fail;generalize d:aO O _=I;obtain⟨j,e⟩:=nb d;replace F:=hdq (both (rb F.out (X.trans e)) (both (m7 j (X.ne br)) (hT.up e)));replace X:=X.trans e;replace br:=X.blk br;replace a:=a.trans X;replace X:=xr I;replace Q:=F.out _ X.off;clear d j e;clear hT;refine(Z.out _ (a.trans X) _ Q.1.1 _ _ Q.2.2.lies' _ K.out).mono ?_;rintro e w4 ⟨u,rfl,hT,e⟩;replace X:=X.trans e;replace Q:=F.out _ X.off;obtain⟨_,_,_,_,_,rfl⟩:=hT.three;simp only;clear hT;obtain⟨y,t⟩ |rfl:=cz c
 · have R:=cbn (X.blk br)
   have B:=fun o=> cbn ((X.alloc o).blk br)
   go_wp2_with fail;exact D9 (by simp[aR,results59,go_sem,R,B]) (J.out y.out) (((a.trans X).alloc _).set3 (aQ _) _ _ _) rfl
 go_wp2_with fail;generalize d:aO w4 _=U;obtain⟨j,e⟩:=nb d;replace F:=hdq (both (rb F.out (X.trans e)) (m7 j (X.ne br)));replace X:=X.trans e;replace br:=X.blk br;replace a:=a.trans X;replace X:=xr U;replace Q:=F.out _ X.off;clear d j e;have N9:=Q.1.1.1;refine(Qg _ _ _ Q.1.2.2.lies' (by have:=HV.out;omega)).mono ?_;rintro e w6 ⟨u,rfl,D,e⟩;replace X:=X.trans e;replace Q:=F.out _ X.off;have hT:=D.at' N9;obtain⟨_,_,_,_,_,rfl⟩:=hT.three;clear D;have R:=cbn (X.blk br);go_wp2_with fail;exact R6 (by simp[aR,results59,go_sem,R]) (hT) (dd (Option.some.inj (G2.out (by trivial))).symm) (a.trans X) (aQ _) rfl
theorem CI(J:Nat)(f:Nat)(G:List Tr)(A:Option Addr)(ca:Nat)(m:aL)(hG:y22 m A G)(G0:G.length<=ca)(hcm:ca<=aV)(t:Tr)(v:Value)(ht:Lies m t v)(N:Nat->Prop)(hN: ∀b,m.heap.size<=b->N b)(r q:Tr×Int)(h1:X0 (Yb f G t) 10=some r)(Z:r.2=0->Jb J G (me r.1 t)=some q)(h3:r.2≠0->q=(j2,r.2)):Calls prog 19 #[.slice A G.length ca,v] m (q8 N m q):=by
 have HI:=hdq (fun W (hW:Ext m W) N hN=> sz f G A ca W (hG.ext hW) G0 hcm t v (ht.ext hW) N hN r h1);have HP:=hdq (fun W (hW:Ext m W) N hN t z v ht q hq=> oF J G A ca W (hG.ext hW) G0 hcm t z v N hN ht q hq);obtain⟨s,c⟩:=r;have HH:=hdq h1;have H2:=hdq Z;have H3:=hdq h3;have HT:=hdq ht;obtain⟨k,n,ks⟩:=t;obtain⟨At,ct,rfl,-⟩:=Lies.mk_iff.1 ht;clear h1 Z h3 ht hG;go_enter func19,ntmps19;go_wp2_with fail;generalize I:aO (aO m _) _=w1;obtain⟨C,br,S⟩:=sn2 I.symm hN;have F:=hdq (S);have X:=xr w1;have Q:=F.out _ X.off;clear S hN I;refine(HI.out _ (C.trans X) _ Q.1).mono ?_;rintro e w2 ⟨u,rfl,hT,e⟩;replace X:=X.trans e;replace Q:=F.out _ X.off;obtain⟨_,_,_,_,_,rfl⟩:=hT.three;simp only at hT⊢;obtain⟨HC,t⟩ |rfl:=cz c
 · have R:=cbn (X.blk br)
   have R':=fun o=> cbn ((X.alloc o).blk br)
   go_wp2_with fail;exact D9 (by simp[aR,results19,go_sem,R,R']) (H3.out HC.out) (((C.trans X).alloc _).set3 (aQ _) _ _ _) rfl
 obtain⟨-,Q9,un⟩:=Mi HH.out;have HQ:=hdq (H2.out rfl);obtain⟨sk,sn,d⟩:=s;obtain⟨Af,cf,he,-,-,hK⟩:=InT.mk_iff.1 hT;simp only[Value.agg.injEq] at he;cases he
 clear hT;simp only[Tr.kids] at Q9;have Q9:d.length=3:=by have:U0 10=3:=rfl;omega
 have V0:=hdq (Vc un (i:=0) (by simp only[Tr.kids];omega));have V1:=hdq (Vc un (i:=1) (by simp only[Tr.kids];omega));unfold me at HQ;simp only[Tr.kids] at V0 V1 HQ;obtain⟨b,o,rfl,j,⟨jm,jw,jq,jl,jk,F0⟩,⟨O,P,Y,U,V,F1⟩,f21,f22,f23,f24,f25,F2⟩:=j19 hK Q9;rw[Q9];clear HH H2 H3 hK Q9 un;go_wp2_with fail;generalize I:aO w2 _=w3;obtain⟨bq,e⟩:=nb I;replace F:=hdq (both (rb F.out (X.trans e)) (both (m7 bq (X.ne br)) (both (F0.fm j e) (F1.fm j e))));replace X:=X.trans e;replace br:=X.blk br;replace C:=C.trans X;replace X:=xr w3;replace Q:=F.out _ X.off;clear I bq e;clear F0 F1 F2 j;refine rgn (m.heap.size+1) (by kernel_rfl) X ?_;replace X:=X.drew;refine O2 [0,1,2,3,4,5,6,7] 4 (by kernel_rfl) X.off (fun _ _ _ _ _ h=> h) ?_
 iterate 8 (refine tk rfl (by rfl) (by intro w X;have Q:=F.out _ X;go_simp;(try with_reducible rfl)) ?_;try simp only[N2])
 refine sE (lT:=#[true,true,true,true,true,true,true,true,true,true,true,true]) (f:=0) (T:=25) (z0:= m0 0) (z1:= m0 0) (z2:= .slice none 0 0) (x0:= m0 jm) (x1:= m0 jw) (x2:= .slice jq jl jk) (y0:= m0 O) (y1:= m0 P) (y2:= .slice Y U V) 8 9 10 11 8 9 (by kernel_rfl) ⟨rfl,rfl,rfl,rfl⟩ ⟨rfl,rfl,rfl,rfl⟩ (fun E h=>(X.trans h).off) (by decide) (by simp) (by simp) ?hA ?hB ?hC ?hD ?fin
 case hA=>(intro a w K hK;go_simp;exact hK)
 case hB=>(intro a w K hK;go_simp;exact hK)
 case hC=>(intro a' w g K C e2 b hK;have f:=D3 C;have J:=D3 (show a'.eval (.tmp 25)= M0 jm jw jq jl jk from e2 25 (by decide) (by decide));have Q:=cbn b;go_simp;exact hK)
 case hD=>(intro a' w g K C e2 b hK;have f:=D3 C;have J:=D3 (show a'.eval (.tmp 29)= M0 O P Y U V from e2 29 (by decide) (by decide));have Q:=cbn b;go_simp;exact hK)
 case fin=>
  intro g1 g2 x e l1 l2 H b1 b2;simp only[Act.put,aU,bN,bM];refine bP (by kernel_rfl) ?_ _;have ne: ∀{g},w3.drew.heap.size<=g->g≠m.heap.size+1:=fun{g} h=> by have:=O1 br;have:=X.size;omega
  replace F:=hdq (both (rb F.out (X.trans e)) (both (m7 b1 (ne l1)) (m7 b2 (ne l2))));replace X:=X.trans e;replace br:=X.blk br;replace C:=C.trans X;replace X:=xr x;replace Q:=F.out _ X.off;clear e b1 b2 H ne l1 l2;go_wp2_with fail;generalize I:aO x _=w5;obtain⟨bk,e⟩:=nb I;replace X:=X.trans e;replace Q:=F.out _ X.off;clear I;refine rgn (m.heap.size+1) (by kernel_rfl) X ?_;replace X:=X.drew;refine O2 [0,1,4] 9 (by kernel_rfl) X.off (fun _ _ _ _ _ h=> h) ?_
  iterate 3 (refine tk rfl (by rfl) (by intro w X;have Q:=F.out _ X;go_simp;(try with_reducible rfl)) ?_;try simp only[N2])
  have L:x.heap.size < w5.drew.heap.size:=O1 bk;have K0:=hdq (InT.keep (F.out _ (Off.refl _ _)).1.2.2.1.i X (aN _));have K1:=hdq (InT.keep (F.out _ (Off.refl _ _)).1.2.2.2.i X (aN _));have N0:=hdq (show∀b,w5.drew.heap.size<=b->(N b/\b≠(m.heap.size+1))/\b≠x.heap.size from fun b j=>⟨(F.out _ X.off).1.1.1 b j,by omega⟩);replace Q:=F.out _ X.off;refine mE (x.heap.size) (Ql (x.heap.size) (j0 D0 (shfT 1 (kd d 0) 0)=true/\j0 D0 (shfT 1 (kd d 1) 0)=true)) 11 52 #[true,true,true,true,true,true,true,true,true,true,true,false] 1 [.any,.any,Sp.tree (fun b=>(N b/\b≠m.heap.size+1)/\b≠x.heap.size) (okT (shfT 1 (kd d 0) 0)),Sp.tree (fun b=>(N b/\b≠m.heap.size+1)/\b≠x.heap.size) (.mk 1 0 []),.any,Sp.tree (fun b=>(N b/\b≠m.heap.size+1)/\b≠x.heap.size) (okT (shfT 1 (kd d 1) 0)),Sp.row (fun b=>(N b/\b≠m.heap.size+1)/\b≠x.heap.size) [okT (shfT 1 (kd d 0) 0),.mk 1 0 [],okT (shfT 1 (kd d 1) 0)],Sp.tree (fun b=>(N b/\b≠m.heap.size+1)/\b≠x.heap.size) (.mk 10 0 [okT (shfT 1 (kd d 0) 0),.mk 1 0 [],okT (shfT 1 (kd d 1) 0)]),Sp.row (fun b=>(N b/\b≠m.heap.size+1)/\b≠x.heap.size) [kd d 0,.mk 10 0 [okT (shfT 1 (kd d 0) 0),.mk 1 0 [],okT (shfT 1 (kd d 1) 0)]],Sp.tree (fun b=>(N b/\b≠m.heap.size+1)/\b≠x.heap.size) (.mk 4 0 [kd d 0,.mk 10 0 [okT (shfT 1 (kd d 0) 0),.mk 1 0 [],okT (shfT 1 (kd d 1) 0)]]),Sp.box w5.drew] [2,3,5,6,7,8,9,10] L ⟨_,bk,fun _=> rfl⟩ (by refine⟨trivial,trivial,trivial,trivial,trivial,trivial,trivial,trivial,trivial,trivial,L,trivial⟩) (fun w h=>(h.ext X (fun b j=> by rw[List.mem_singleton.1 j];exact aN _)).off) (by kernel_rfl) rfl ?st1 ?fi1
  case st1=>
   repeat' first|exact trivial|refine And.intro ⟨_,rfl, ?_⟩ ?_
   all_goals(intro a w z hE B i6;refine Ord.step_of rfl rfl ?_;intro K hK)
   · (have f31:=D3 (show a.eval (.tmp 31)= M0 jm jw jq jl jk from B 31 (by kernel_rfl));have f10:=D3 (show a.eval (.tmp 10)= .pointer (some ⟨x.heap.size,0,none⟩) from B 10 (by kernel_rfl));go_simp;go_at_call 57;obtain⟨y,hy,hz⟩:=hE.ok;refine(el _ V0.out w _ (InT.oldH K0.out (fun b h=> h.2) hE).lies' _ _ hy).mono ?_;rintro e E ⟨u,rfl,hu,ho,j⟩;exact hK _ _ ⟨_,z,rfl,hE.put ho ⟨_,j,fun p=> by rw[hz p,p.1];rfl⟩,InT.mono (fun b j=> np N0.out hE b j) (fun _ _=> rfl) hu⟩)
   · (go_simp;go_at_call 58;refine(fC 0 w).mono ?_;rintro e E ⟨rfl,D⟩;exact hK _ _ ⟨_,z,rfl,EH.ex hE D,d5 _ _ _ _⟩)
   · (have f34:=D3 (show a.eval (.tmp 34)= M0 O P Y U V from B 34 (by kernel_rfl));have f10:=D3 (show a.eval (.tmp 10)= .pointer (some ⟨x.heap.size,0,none⟩) from B 10 (by kernel_rfl));go_simp;go_at_call 57;obtain⟨y,hy,hz⟩:=hE.ok;refine(el _ V1.out w _ (InT.oldH K1.out (fun b h=> h.2) hE).lies' _ _ hy).mono ?_;rintro e E ⟨u,rfl,hu,ho,j⟩;exact hK _ _ ⟨_,z,rfl,hE.put ho ⟨_,j,fun p=> by rw[hz p,p.2];rfl⟩,InT.mono (fun b j=> np N0.out hE b j) (fun _ _=> rfl) hu⟩)
   · (have Z:InT w (Mz _ z) (okT (shfT 1 (kd d 0) 0)) (a.eval (.tmp 32)):=i6 2 32 (by kernel_rfl);obtain⟨_,_,_,_,_,J⟩:=Z.three;rw[J] at Z;replace J:=D3 J;have h3:InT w (Mz _ z) (.mk 1 0 []) (a.eval (.tmp 33)):=i6 3 33 (by kernel_rfl);obtain⟨_,_,_,_,_,f3⟩:=h3.three;rw[f3] at h3;replace f3:=D3 f3;have h5:InT w (Mz _ z) (okT (shfT 1 (kd d 1) 0)) (a.eval (.tmp 35)):=i6 5 35 (by kernel_rfl);obtain⟨_,_,_,_,_,f5⟩:=h5.three;rw[f5] at h5;replace f5:=D3 f5;go_simp;obtain⟨D,h⟩:=fd 25 Z h3 h5 (np N0.out hE);exact hK _ _ ⟨_,z,rfl,EH.ex hE D,_,3,rfl,aN _,by decide,h⟩)
   · (obtain⟨A6,c6,f6,mn,rj,nl⟩: ∃A c,a.eval (.tmp 36)= .slice A 3 c/\3<=c/\c<=aV/\InK w (Mz _ z) A [okT (shfT 1 (kd d 0) 0),.mk 1 0 [],okT (shfT 1 (kd d 1) 0)]:=i6 6 36 (by kernel_rfl);replace f6:=D3 f6;go_simp;go_at_call 56;refine(de w 10 A6 3 c6).mono ?_;rintro e E ⟨rfl,D⟩;exact hK _ _ ⟨_,z,rfl,EH.ex hE D,InT.mk_iff.2 ⟨_,_,rfl,mn,rj,nl.later D⟩⟩)
   · (have f30:=D3 (show a.eval (.tmp 30)= M0 jm jw jq jl jk from B 30 (by kernel_rfl));have h7:InT w (Mz _ z) (.mk 10 0 [okT (shfT 1 (kd d 0) 0),.mk 1 0 [],okT (shfT 1 (kd d 1) 0)]) (a.eval (.tmp 37)):=i6 7 37 (by kernel_rfl);obtain⟨_,_,_,_,_,f7⟩:=h7.three;rw[f7] at h7;replace f7:=D3 f7;go_simp;obtain⟨D,h⟩:=K6 25 (K0.out.oldH (fun b h=> h.2) hE) h7 (np N0.out hE);exact hK _ _ ⟨_,z,rfl,EH.ex hE D,_,2,rfl,aN _,by decide,h⟩)
   · (obtain⟨A8,c8,f8,ml,xz,lx⟩: ∃A c,a.eval (.tmp 38)= .slice A 2 c/\2<=c/\c<=aV/\InK w (Mz _ z) A [kd d 0,.mk 10 0 [okT (shfT 1 (kd d 0) 0),.mk 1 0 [],okT (shfT 1 (kd d 1) 0)]]:=i6 8 38 (by kernel_rfl);replace f8:=D3 f8;go_simp;go_at_call 56;refine(de w 4 A8 2 c8).mono ?_;rintro e E ⟨rfl,D⟩;exact hK _ _ ⟨_,z,rfl,EH.ex hE D,InT.mk_iff.2 ⟨_,_,rfl,ml,xz,lx.later D⟩⟩)
   · (go_simp;exact hK _ _ ⟨_,_,rfl,EH.bx hE,_,rfl,gL ..,(show _<=w.heap.size from hE.1.size),aS _ _⟩)
  case fi1=>
   intro v E z hE hG;have ht:InT E (Mz _ z) (.mk 4 0 [kd d 0,.mk 10 0 [okT (shfT 1 (kd d 0) 0),.mk 1 0 [],okT (shfT 1 (kd d 1) 0)]]) (v 9):=hG 9 (by decide) (by kernel_rfl);obtain⟨a1,a2,a3,a4,a5,C4⟩:=ht.three;rw[C4] at ht;obtain⟨gb,hv2,gz,bl,bx⟩: ∃g,v 10= .pointer (some ⟨g,0,none⟩)/\g∈z/\w5.drew.heap.size<=g/\E.heap[g]? =_:=hG 10 (by decide) (by kernel_rfl);simp only[List.foldl,Ord.dstOf,dZ,dQ,dL,Option.bind_some,Act.put,aU,bN,bM];rw[C4,hv2];replace ht:=(InT.mono (fun b j=>(⟨j.1.1,fun h=> j.2 (h▸gz)⟩:(N b/\b≠(m.heap.size+1))/\b≠gb)) (fun _ _=> rfl) ht).ret (m0 a1) (m0 a2) (.slice a3 a4 a5);have H:=De X bl br;have yq:=Nat.le_trans X.size bl;have rz: ¬x.heap.size=gb:=by omega
   have hnR:x.heap.size≠(m.heap.size+1):=(xr _).ne br;replace X:=hE.1.ext X (fun b j=> by rw[List.mem_singleton.1 j];exact aN _);obtain⟨y,hy1,hy2⟩:=hE.ok;have HY:=hdq (qo HQ.out hy2);have Zx:=cbn bx;clear hG hE gz C4 hv2 hy2 HQ K0 K1 N0 V0 V1;refine O0 11 (by kernel_rfl) rfl rfl (fun K hK=> ?_)
   go_simp
   have e:=Off.new3 X yq bx (m0 a1) (m0 a2) (.slice a3 a4 a5);refine hK.out _ _ e.1.off (fun _=> ?_);clear hK K Zx;have hy:(cM (cM (cM E ⟨gb,0,none⟩ (m0 a1)) ⟨gb,1,none⟩ (m0 a2)) ⟨gb,2,none⟩ (.slice a3 a4 a5)).heap[x.heap.size]? =some (.cells #[.bool y] 4 (0,0)):=by rw[aM _ _ _ _ rz,aM _ _ _ _ rz,aM _ _ _ _ rz];exact hy1
   replace X:=e.1;have bq:=e.2;generalize cM (cM (cM E _ _) _ _) _ _=w6 at*;refine bP (by kernel_rfl) ?_ _;clear e bx hy1;replace F:=hdq (both (rb F.out X) (both (m7 bq H) (both (ht.up (xr _)) (fun E h=> sy (h.blk hy hnR)))));replace br:=X.blk br;replace C:=C.trans X;replace X:=xr w6;replace Q:=F.out _ X.off;clear bq ht H bl yq rz hnR hy bk L;go_wp2_with fail;refine rgn (m.heap.size+1) (by kernel_rfl) X ?_;replace X:=X.drew;refine O2 [0,1,2,3,8] 9 (by kernel_rfl) X.off (fun _ _ _ _ _ h=> h) ?_
   iterate 5 (refine tk rfl (by rfl) (by intro w X;have Q:=F.out _ X;go_simp;(try with_reducible rfl)) ?_;try simp only[N2])
   replace Q:=F.out _ X.off;refine O0 4 (by kernel_rfl) rfl rfl (fun K hK=> ?_)
   go_simp
   obtain⟨e,o6⟩:=mc 25 Q.1.1.2.2.2.i.w (fun b j=>(Q.1.1.1.1 b j).2);replace X:=X.trans e;replace Q:=F.out _ X.off;refine hK.out _ _ X.off (fun _=> ?_);clear hK K;refine O0 5 (by kernel_rfl) rfl rfl (fun K hK=> ?_)
   go_simp
   go_at_call 56
   refine(rg 11 o6 rfl).mono ?_;rintro e w7 ⟨rfl,hr,e⟩;replace X:=X.trans e;replace Q:=F.out _ X.off;refine hK.out _ _ X.off (fun _=> ?_);clear hK K;clear o6;refine O0 6 (by kernel_rfl) rfl rfl (fun K hK=> ?_)
   go_simp
   obtain⟨e,o6⟩:=fd 25 Q.2.2.1.w (InT.w (r:=(m.heap.size+1)) (InT.keep HT.out (C.trans X) (aQ _))) hr (fun b j=>(Q.1.1.1.1 b j).2);replace X:=X.trans e;replace Q:=F.out _ X.off;refine hK.out _ _ X.off (fun _=> ?_);clear hK K;refine O0 7 (by kernel_rfl) rfl rfl (fun K hK=> ?_)
   go_simp
   go_at_call 56
   refine(rg 12 o6 rfl).mono ?_;rintro e w8 ⟨rfl,hp,e⟩;replace X:=X.trans e;replace Q:=F.out _ X.off;refine hK.out _ _ X.off (fun _=> ?_);clear hK K;clear o6 hr;refine O0 9 (by kernel_rfl) rfl rfl (fun K hK=> ?_)
   go_simp
   go_at_call 59
   refine(HP.out _ (C.trans X) _ Q.1.1.1.1 _ y _ hp.lies' q HY.out).mono ?_;rintro e w9 ⟨u,rfl,hu,e⟩;replace X:=X.trans e;replace Q:=F.out _ X.off;refine hK.out _ _ X.off (fun _=> ?_);clear hK K;obtain⟨_,_,_,_,_,rfl⟩:=hu.three;clear hp;refine O2 [10,11] 2 (by kernel_rfl) X.off (fun _ _ _ _ _ h=> h) ?_
   iterate 2 (refine tk rfl (by rfl) (by intro w X;go_simp;(try with_reducible rfl)) ?_;try simp only[N2])
   have R:=cbn (X.blk br);refine O0 12 (by kernel_rfl) rfl rfl (fun K hK=> ?_)
   go_simp
   refine hK.out _ _ (X.off.set3 _ _ _) (fun _=> ?_);clear hK K;refine O2 [13] 0 (by kernel_rfl) (X.off.set3 _ _ _) (fun _ _ _ _ _ h=> h) ?_;refine tk rfl (by rfl) (by intro w X;go_simp;(try with_reducible rfl)) ?_
   try simp only[N2]
   refine bP (by kernel_rfl) ?_ _;go_wp2_with fail;exact R6 (by simp[aR,results19,go_sem,R]) (hu) (dd rfl) (C.trans X) (aQ _) rfl
theorem UI{f:Nat}{G:List Tr}{t s:Tr}(h:X0 (Se f G t) 10=some (s,0)):(G.length<=8/\ ∀x∈G,j0 D0 x=true)/\j0 D0 t=true/\s.kids.length=3/\j0 D0 s=true:=by
 obtain⟨u,a,b,c⟩:=We h;obtain⟨-,l,v⟩:=Mi h;unfold Se at a
 split at a
 · cases a
 · rename_i hn
   simp only[not_or,Bool.not_eq_false] at hn;exact⟨Fr hn.1,hn.2,by have:U0 10=3:=rfl;omega,v⟩
theorem WJ(f P:Nat)(G:List Tr)(A:Option Addr)(ca:Nat)(d:aL)(hG:y22 d A G)(G0:G.length<=ca)(hcm:ca<=aV)(hA:A=none->ca=0)(t:Tr)(v:Value)(ht:Lies d t v)(r q:Tr×Int)(h1:X0 (Se f G t) 10=some r)(I:r.2=0->eg P G (me r.1 t)=some q)(O:r.2≠0->q=(j2,r.2)):Calls prog 20 #[.slice A G.length ca,v] d (q8 AllN d q):=by
 have HI:=hdq (fun W (hW:Ext d W)=> PE f G A ca W (hG.ext hW) G0 hcm hA t v (ht.ext hW) r h1);obtain⟨s,c⟩:=r;have H2:=hdq I;have H3:=hdq O;have HF:=hdq (fun hc:c=0=> UI (s:=s) (by rw[hc] at h1;exact h1));have HJ:=hdq (fun h8=> Xk G0 hcm hG hA h8);have HT:=hdq ht;obtain⟨k,n,ks⟩:=t;obtain⟨At,ct,rfl,-⟩:=Lies.mk_iff.1 ht;have hN: ∀b,d.heap.size<=b->AllN b:=fun _ _=> trivial
 clear h1 I O ht hG;go_enter func20,ntmps20;go_wp2_with fail;generalize Y:aO (aO d _) _=w1;obtain⟨C,br,S⟩:=sn2 Y.symm hN;have F:=hdq (S);have X:=xr w1;have Q:=F.out _ X.off;clear S hN Y;have N0:=Q.1;have HJ1:=hdq (fun h8=>(HJ.out h8).keep C (g:=d.heap.size+1) (aQ _) (O1 br));clear HJ;refine(HI.out _ (C.trans X)).mono ?_;rintro e w2 ⟨u0,u1,u2,rfl,H,E,L2,e⟩;replace H:=InT.mono (S':=fun b=> AllN b/\b≠d.heap.size+1) (fun b N=> N0 b N) (fun _ _=> rfl) H;replace E:=InT.mono (S':=fun b=> AllN b/\b≠d.heap.size+1) (fun b N=> N0 b N) (fun _ _=> rfl) E;obtain⟨s1,s2,s3,s4,s5,rfl⟩:=H.three;obtain⟨a1,a2,a3,a4,a5,rfl⟩:=E.three;obtain⟨b1,b2,b3,b4,b5,rfl⟩:=L2.three;replace X:=X.trans e;replace Q:=F.out _ X.off;clear L2 e HI N0;obtain⟨HC,t⟩ |rfl:=cz c
 · have R:=cbn (X.blk br)
   have R1:=fun o=> cbn ((X.alloc o).blk br)
   have R2:=fun o U=> cbn (((X.alloc o).alloc U).blk br)
   have R3:=fun o U o2=> cbn ((((X.alloc o).alloc U).alloc o2).blk br)
   have R4:=fun o U o2 x y z=> cbn ((((xr _).alloc U).alloc o2).blk (N5 (N5 (N5 ((X.alloc o).blk br) 0 x) 1 y) 2 z))
   go_wp2_with fail;exact D9 (by simp[aR,results20,go_sem,R4]) (H3.out HC.out) (((((C.trans X).alloc _).set3 (aQ _) _ _ _).alloc _).alloc _) rfl
 obtain⟨h8,hv,Q9,un⟩:=HF.out rfl;rw[tf] at H E;have V0:=hdq (Vc un (i:=0) (by omega));have V1:=hdq (Vc un (i:=1) (by omega));have VT:=hdq hv;have rp:=hdq (HJ1.out h8);have HQ:=hdq (H2.out rfl);generalize Z:kd s.kids 0=j at H V0;generalize V:kd s.kids 1=S1 at E V1;unfold me at HQ;rw[Z,V] at HQ;clear HF HJ1 H2 H3 h8 hv Q9 un Z V;go_wp2_with fail;generalize Y:aO (aO (aO w2 _) _) _=w3;obtain⟨q6,q7,-,-,e⟩:=Tg Y.symm;replace F:=hdq (both (rb F.out (X.trans e)) (both (m7 q6 (X.ne br)) (both (m7 q7 (by have:=X.size;have:=O1 br;omega)) (both (H.up e) (E.up e)))));replace X:=X.trans e;replace rp:=hdq (rp.out.ext X);replace br:=X.blk br;replace C:=C.trans X;replace X:=xr w3;replace Q:=F.out _ X.off;clear Y q6 q7 e H E;refine rgn (d.heap.size+1) (by kernel_rfl) X ?_;replace X:=X.drew;refine O2 [0,1,4] 9 (by kernel_rfl) X.off (fun _ _ _ _ _ h=> h) ?_
 iterate 3 (refine tk rfl (by rfl) (by intro w X;have Q:=F.out _ X;go_simp;(try with_reducible rfl)) ?_;try simp only[N2])
 replace Q:=F.out _ X.off;refine Vi 11 46 #[true,true,true,true,true,true,true,true,true,true,true,false] 1 [.any,.any,Sp.tree (fun b=> AllN b/\b≠d.heap.size+1) (shfT 1 j 0),Sp.tree (fun b=> AllN b/\b≠d.heap.size+1) (.mk 1 0 []),.any,Sp.tree (fun b=> AllN b/\b≠d.heap.size+1) (shfT 1 S1 0),Sp.row (fun b=> AllN b/\b≠d.heap.size+1) [shfT 1 j 0,.mk 1 0 [],shfT 1 S1 0],Sp.tree (fun b=> AllN b/\b≠d.heap.size+1) (.mk 10 0 [shfT 1 j 0,.mk 1 0 [],shfT 1 S1 0]),Sp.row (fun b=> AllN b/\b≠d.heap.size+1) [j,.mk 10 0 [shfT 1 j 0,.mk 1 0 [],shfT 1 S1 0]],Sp.tree (fun b=> AllN b/\b≠d.heap.size+1) (.mk 4 0 [j,.mk 10 0 [shfT 1 j 0,.mk 1 0 [],shfT 1 S1 0]]),Sp.box w3.drew] [2,3,5,6,7,8,9,10] (fun w h=>(X.trans h).off) (by kernel_rfl) rfl ?st1 ?fi1
 case st1=>
  repeat' first|exact trivial|refine And.intro ⟨_,rfl, ?_⟩ ?_
  all_goals(intro a w z hE p J;refine Ord.step_of rfl rfl ?_;intro K hK)
  · (have f24:=D3 (show a.eval (.tmp 24)= M0 s1 s2 s3 s4 s5 from p 24 (by kernel_rfl));go_simp;go_at_call 61;refine(aE j V0.out w _ (md Q.1.1 hE) _ (Q.2.2.2.1.oldG' hE).lies').mono ?_;rintro e D ⟨u,rfl,L,m⟩;exact hK _ _ ⟨_,z,rfl,n9 hE m,L⟩)
  · (go_simp;go_at_call 62;refine(q15 w 1 0).mono ?_;rintro e D ⟨rfl,m⟩;exact hK _ _ ⟨_,z,rfl,n9 hE m,d5 _ _ _ _⟩)
  · (have f27:=D3 (show a.eval (.tmp 27)= M0 a1 a2 a3 a4 a5 from p 27 (by kernel_rfl));go_simp;go_at_call 61;refine(aE S1 V1.out w _ (md Q.1.1 hE) _ (Q.2.2.2.2.oldG' hE).lies').mono ?_;rintro e D ⟨u,rfl,L,m⟩;exact hK _ _ ⟨_,z,rfl,n9 hE m,L⟩)
  · (have I:InT w (Mz _ z) (shfT 1 j 0) (a.eval (.tmp 25)):=J 2 25 (by kernel_rfl);obtain⟨_,_,_,_,_,P⟩:=I.three;rw[P] at I;replace P:=D3 P;have O:InT w (Mz _ z) (.mk 1 0 []) (a.eval (.tmp 26)):=J 3 26 (by kernel_rfl);obtain⟨_,_,_,_,_,f3⟩:=O.three;rw[f3] at O;replace f3:=D3 f3;have h5:InT w (Mz _ z) (shfT 1 S1 0) (a.eval (.tmp 28)):=J 5 28 (by kernel_rfl);obtain⟨_,_,_,_,_,f5⟩:=h5.three;rw[f5] at h5;replace f5:=D3 f5;go_simp;obtain⟨m,h⟩:=fd 25 I O h5 (md Q.1.1 hE);exact hK _ _ ⟨_,z,rfl,n9 hE m,_,3,rfl,aN _,by decide,h⟩)
  · (obtain⟨A6,c6,f6,mn,rj,nl⟩: ∃A c,a.eval (.tmp 29)= .slice A 3 c/\3<=c/\c<=aV/\InK w (Mz _ z) A [shfT 1 j 0,.mk 1 0 [],shfT 1 S1 0]:=J 6 29 (by kernel_rfl);replace f6:=D3 f6;go_simp;go_at_call 60;refine(Kx 10 _ _ (md Q.1.1 hE) A6 c6 _ nl (by simp) mn (by simp)).mono ?_;rintro e D ⟨u,rfl,hx,m⟩;exact hK _ _ ⟨_,z,rfl,n9 hE m,hx⟩)
  · (have f23:=D3 (show a.eval (.tmp 23)= M0 s1 s2 s3 s4 s5 from p 23 (by kernel_rfl));have h7:InT w (Mz _ z) (.mk 10 0 [shfT 1 j 0,.mk 1 0 [],shfT 1 S1 0]) (a.eval (.tmp 30)):=J 7 30 (by kernel_rfl);obtain⟨_,_,_,_,_,f7⟩:=h7.three;rw[f7] at h7;replace f7:=D3 f7;go_simp;obtain⟨m,h⟩:=K6 25 (Q.2.2.2.1.oldG' hE) h7 (md Q.1.1 hE);exact hK _ _ ⟨_,z,rfl,n9 hE m,_,2,rfl,aN _,by decide,h⟩)
  · (obtain⟨A8,c8,f8,ml,xz,lx⟩: ∃A c,a.eval (.tmp 31)= .slice A 2 c/\2<=c/\c<=aV/\InK w (Mz _ z) A [j,.mk 10 0 [shfT 1 j 0,.mk 1 0 [],shfT 1 S1 0]]:=J 8 31 (by kernel_rfl);replace f8:=D3 f8;go_simp;go_at_call 60;refine(Kx 4 _ _ (md Q.1.1 hE) A8 c8 _ lx (by simp) ml (by simp)).mono ?_;rintro e D ⟨u,rfl,hx,m⟩;exact hK _ _ ⟨_,z,rfl,n9 hE m,hx⟩)
  · (go_simp;exact hK _ _ ⟨_,_,rfl,EG.box hE,_,rfl,gL ..,(show _<=w.heap.size from hE.1.size),aS _ _⟩)
 case fi1=>
  intro v D z hE hG;have ht:InT D (Mz _ z) (.mk 4 0 [j,.mk 10 0 [shfT 1 j 0,.mk 1 0 [],shfT 1 S1 0]]) (v 9):=hG 9 (by decide) (by kernel_rfl);obtain⟨a1,a2,a3,a4,a5,C4⟩:=ht.three;rw[C4] at ht;obtain⟨gb,hv2,gz,bl,bx⟩: ∃g,v 10= .pointer (some ⟨g,0,none⟩)/\g∈z/\w3.drew.heap.size<=g/\D.heap[g]? =_:=hG 10 (by decide) (by kernel_rfl);simp only[List.foldl,Ord.dstOf,dZ,dQ,dL,Option.bind_some,Act.put,aU,bN,bM];rw[C4,hv2];replace ht:=(InT.mono (fun b (N:Mz _ z b)=>(⟨N.1,fun h=> N.2 (h▸gz)⟩:(fun b=> AllN b/\b≠d.heap.size+1) b/\b≠gb)) (fun _ _=> rfl) ht).ret (m0 a1) (m0 a2) (.slice a3 a4 a5);have hne:=De X bl br;have X1:=X;replace X:=X.trans hE.1;have Zx:=cbn bx;clear hG hE gz C4 hv2;refine O0 11 (by kernel_rfl) rfl rfl (fun K hK=> ?_)
  go_simp
  have e:=Off.new3 X (Nat.le_trans X1.size bl) bx (m0 a1) (m0 a2) (.slice a3 a4 a5);refine hK.out _ _ e.1.off (fun _=> ?_);clear hK K Zx;replace X:=e.1;have bq:=e.2;generalize cM (cM (cM D _ _) _ _) _ _=w4 at*;refine bP (by kernel_rfl) ?_ _;clear bx e X1;replace F:=hdq (both (rb F.out X) (both (m7 bq hne) (ht.up (xr _))));replace rp:=hdq (rp.out.ext X);replace br:=X.blk br;replace C:=C.trans X;replace X:=xr w4;replace Q:=F.out _ X.off;clear bq ht hne bl;go_wp2_with fail;refine rgn (d.heap.size+1) (by kernel_rfl) X ?_;replace X:=X.drew;refine O2 [0,1,2,4] 11 (by kernel_rfl) X.off (fun _ _ _ _ _ h=> h) ?_
  iterate 4 (refine tk rfl (by rfl) (by intro w X;have Q:=F.out _ X;go_simp;(try with_reducible rfl)) ?_;try simp only[N2])
  replace Q:=F.out _ X.off;refine O0 3 (by kernel_rfl) rfl rfl (fun K hK=> ?_)
  go_simp
  go_at_call 46
  have N9:=Q.1.1.1;refine(Vf _ _ _ (HT.out.ext (C.trans X)) (by have:=(Z3 VT.out).2;omega)).mono ?_;rintro e w5 ⟨u,rfl,hM,e⟩;have B:=hM.at' N9;obtain⟨_,_,_,_,_,rfl⟩:=B.three;clear hM N9;replace X:=X.trans e;replace Q:=F.out _ X.off;refine hK.out _ _ X.off (fun _=> ?_);clear hK K;refine O0 5 (by kernel_rfl) rfl rfl (fun K hK=> ?_)
  go_simp
  go_at_call 46
  have N9:=Q.1.1.1;refine(Vf _ _ _ (Q.1.2.2.2.2.lies') (by have:=(Z3 V1.out).2;omega)).mono ?_;rintro e w6 ⟨u,rfl,hM,e⟩;have ha:=hM.at' N9;obtain⟨_,_,_,_,_,rfl⟩:=ha.three;clear hM N9;replace B:=B.later e;replace X:=X.trans e;replace Q:=F.out _ X.off;refine hK.out _ _ X.off (fun _=> ?_);clear hK K;refine O0 6 (by kernel_rfl) rfl rfl (fun K hK=> ?_)
  go_simp
  obtain⟨e,o6⟩:=mc 25 ha Q.1.1.1;replace B:=B.later e;replace X:=X.trans e;replace Q:=F.out _ X.off;refine hK.out _ _ X.off (fun _=> ?_);clear hK K;clear ha;refine O0 7 (by kernel_rfl) rfl rfl (fun K hK=> ?_)
  go_simp
  go_at_call 60
  refine(Qa 11 Q.1.1.1 o6 rfl).mono ?_;rintro e w7 ⟨A7,c7,rfl,hr,e⟩;replace B:=B.later e;replace X:=X.trans e;replace Q:=F.out _ X.off;refine hK.out _ _ X.off (fun _=> ?_);clear hK K;clear o6;refine O0 8 (by kernel_rfl) rfl rfl (fun K hK=> ?_)
  go_simp
  obtain⟨e,o6⟩:=fd 25 Q.2.2 B hr Q.1.1.1;replace X:=X.trans e;replace Q:=F.out _ X.off;refine hK.out _ _ X.off (fun _=> ?_);clear hK K;clear B hr;refine O0 9 (by kernel_rfl) rfl rfl (fun K hK=> ?_)
  go_simp
  go_at_call 60
  refine(Qa 12 Q.1.1.1 o6 rfl).mono ?_;rintro e w8 ⟨A9,c9,rfl,hp,e⟩;replace X:=X.trans e;replace Q:=F.out _ X.off;refine hK.out _ _ X.off (fun _=> ?_);clear hK K;clear o6;refine O0 10 (by kernel_rfl) rfl rfl (fun K hK=> ?_)
  go_simp
  go_at_call 63
  refine(NI P _ _ (rp.out.ext X) _ _ hp q HQ.out).mono ?_;rintro e w9 ⟨u,rfl,L,e⟩;replace X:=X.trans e;replace Q:=F.out _ X.off;refine hK.out _ _ X.off (fun _=> ?_);clear hK K;obtain⟨_,_,_,_,_,rfl⟩:=L.three;clear hp;refine O2 [11,12] 2 (by kernel_rfl) X.off (fun _ _ _ _ _ h=> h) ?_
  iterate 2 (refine tk rfl (by rfl) (by intro w X;go_simp;(try with_reducible rfl)) ?_;try simp only[N2])
  have R:=cbn (X.blk br);refine O0 13 (by kernel_rfl) rfl rfl (fun K hK=> ?_)
  go_simp
  refine hK.out _ _ (X.off.set3 _ _ _) (fun _=> ?_);clear hK K;refine O2 [14] 0 (by kernel_rfl) (X.off.set3 _ _ _) (fun _ _ _ _ _ h=> h) ?_;refine tk rfl (by rfl) (by intro w X;go_simp;(try with_reducible rfl)) ?_
  try simp only[N2]
  refine bP (by kernel_rfl) ?_ _;go_wp2_with fail;exact R6 (by simp[aR,results20,go_sem,R]) (L) (dd rfl) (C.trans X) (aQ _) rfl
