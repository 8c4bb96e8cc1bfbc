/-
  Lemmas towards the law, 35: MNb, Head.
-/
import Derived.Test.YtdkamgafpphdjaaGreatUBH
set_option maxHeartbeats 4000000
set_option maxRecDepth 100000
namespace Go.Proofs.YtdkamgafpphdjaaGreat
open Go.RowKit
set_option linter.unusedVariables false
open M (Hd HR Cv Ty Lim WfL TyB Lev)
def Nb(x:An):Prop:= ∀s c,x=some (s,c)->c=0\/c=2
theorem Nb.thn{x:An}{f:Tr->An}(h:Nb x)(k: ∀s,x=some (s,0)->Nb (f s)):Nb (thn x f):=by
 intro s c e;rcases y29 e with⟨u,h1,h2⟩ |⟨u,c',h1,h2,h3⟩
 · exact k u h1 s c h2
 · simp only[Prod.mk.injEq] at h3
   obtain⟨-,rfl⟩:=h3;exact h u _ h1
theorem Nb.one{y:Tr×Int}(h:y.2=0\/y.2=2):Nb (some y):=by
 intro s c e;simp only[Option.some.injEq] at e;subst e;exact h
theorem Nb.ok(u:Tr):Nb (some (u,0)):=Nb.one (.inl rfl)
theorem Nb.mk(t:Tr):Nb (some (mkV t)):=Nb.one (by unfold mkV;split <;> simp)
theorem Nb.shp{F c:M.Tm}{kind:Int}(r:HR F c)(hc:M.hk c≠0)(hk:(enc c).kind=kind):Nb (some (shpV (enc F) kind)):=by
 refine Nb.one ?_;unfold shpV
 split
 · simp
 · rename_i h1
   have h2:hnfV (enc F) 200=((hnfV (enc F) 200).1,0):=by
    have h3:(hnfV (enc F) 200).2=0:=by simpa using h1
    rw[<-h3]
   obtain⟨B,e,rB,hs,-⟩:=j49 h2;rw[y117 rB hs r hc] at e;rw[e,if_neg (by rw[hk];simp)];simp
theorem Nb.frm{x:An}{kind:Int}(h:Nb x)(k: ∀s,x=some (s,0)-> ∃F c,s=enc F/\HR F c/\M.hk c≠0/\(enc c).kind=kind):Nb (frmV x kind):=
 h.thn fun s e=> by
  obtain⟨F,c,rfl,r,hc,hk⟩:=k s e;exact Nb.shp r hc hk
theorem Nb.chk{x y:An}{W:M.Tm}(h:Nb x)(k: ∀s,x=some (s,0)-> ∃X,s=enc X/\Cv X W)(hy:Nb y):Nb (chkV x (enc W) y):=
 h.thn fun s e=> by
  obtain⟨X,rfl,cX⟩:=k s e
  split
  · exact hy
  · rename_i h0
    exact Nb.one (.inr ((cvt_nb cX).resolve_left h0))
theorem Nb.fam{x y:An}{T:M.Tm}(h:Nb x)(k: ∀s,x=some (s,0)-> ∃F C D j,s=enc F/\HR F (.pi C D)/\Cv C T/\HR D (.sort j))(hy:Nb y):Nb (famV x (enc T) y):=by
 have h1:Nb (frmV x 3):=h.frm fun s e=> by
  obtain⟨F,C,D,j,rfl,r,-,-⟩:=k s e;exact⟨F,.pi C D,rfl,r,by simp[M.hk],rfl⟩
 refine h1.thn fun s e=> ?_
 obtain⟨u,e1,e2,e3⟩:=j46 e;obtain⟨F,C,D,j,rfl,r,cC,rD⟩:=k u e1;obtain⟨B,rfl,rB,hs,-⟩:=j49 e2;obtain rfl:=y117 rB hs r (by simp[M.hk])
 split
 · exact(Nb.shp (F:=D) rD (by simp[M.hk]) rfl).thn fun _ _=> hy
 · rename_i h0
   exact Nb.one (.inr ((cvt_nb (A:=C) cC).resolve_left h0))
theorem j43{f:Nat}{G:List M.Tm}{t A:M.Tm}{s:Tr}(hG:y26 G)(hv:valid sigT (enc t)=true)(h:Ty G t A)(e:infV f (ctxE G) (enc t)=some (s,0)):s=enc A/\valid sigT (enc A)=true:=by
 obtain⟨B,rfl,tB,-,v⟩:=snd f G t s hG hv e;obtain rfl:=tB.det h;exact⟨rfl,v⟩
theorem q110{f:Nat}{G:List M.Tm}{k:Int}{A t:M.Tm}(hk:und k 1=1)(h:Nb (infV f (ctxE (A::G)) (enc t))):Nb (tyV (infV f) (ctxE G) k [enc A,enc t] 1):=by
 rw[j90 _ _ hk]
 split
 · exact Nb.one (.inr rfl)
 · rw[show ctxE G++ [kd [enc A,enc t] 0]=ctxE (A::G) from(q26 A G).symm]
   exact h
theorem q90{f:Nat}{G:List M.Tm}{k:Int}{A t:M.Tm}{s:Tr}(hk:und k 1=1)(h:tyV (infV f) (ctxE G) k [enc A,enc t] 1=some (s,0)):infV f (ctxE (A::G)) (enc t)=some (s,0):=by
 have:=(uty hk h).2
 rwa [show ctxE G++ [kd [enc A,enc t] 0]=ctxE (A::G) from(q26 A G).symm] at this
theorem q150: ∀(f:Nat) (G:List M.Tm) (t A:M.Tm),y26 G->valid sigT (enc t)=true->Ty G t A->Lim G t->Nb (infV f (ctxE G) (enc t))
 |0,G,t,A,hG,hv,h,hl=> by intro s c e;cases e
 |f+1,G,t,A,hG,hv,h,hl=> by
  have ih:=q150 f G;have ihs:=q150 f;have tyB: ∀{X S:M.Tm} {i:Nat},Ty G X S->HR S (.sort i)->Lim G X->TyB G X:=fun{X S i} h1 h2 h3=>⟨h3,i,M.lev_le (Lim.type h1 hG.wf h3) h2,S,h1,h2⟩
  have lev: ∀{X S:M.Tm} {i:Nat},valid sigT (enc X)=true->Ty G X S->HR S (.sort i)->Lim G X->Nb (frmV (infV f (ctxE G) (enc X)) 2):=fun{X S i} v h1 h2 h3=>
   (ih X S hG v h1 h3).frm fun s e=>⟨S,.sort i,(j43 hG v h1 e).1,h2,by simp[M.hk],rfl⟩
  have chk: ∀{X S W:M.Tm} {y:An},valid sigT (enc X)=true->Ty G X S->Cv S W->Lim G X->Nb y->Nb (chkV (infV f (ctxE G) (enc X)) (enc W) y):=fun{X S W y} v h1 h2 h3 hy=>
   (ih X S hG v h1 h3).chk (fun s e=>⟨S,(j43 hG v h1 e).1,h2⟩) hy
  have fam: ∀{X F C D T:M.Tm} {j:Nat} {y:An},valid sigT (enc X)=true->Ty G X F->HR F (.pi C D)->Cv C T->HR D (.sort j)->Lim G X->Nb y->Nb (famV (infV f (ctxE G) (enc X)) (enc T) y):=fun{X F C D T j y} v h1 h2 h3 h4 h5 hy=>
   (ih X F hG v h1 h5).fam (fun s e=>⟨F,C,D,j,(j43 hG v h1 e).1,h2,h3,h4⟩) hy
  cases h with
  | @var _ n A h=>
   have hn:=M.lk_lt h
   show Nb (some (lkV (ctxE G) (n:Int)))
   rw[j175 hn];exact Nb.mk _
  | @sort _ n=>
   have hn:n < 3:=hl;have e:infV (f+1) (ctxE G) (enc (.sort n))=some (if(n:Int)=3 then(y13,(1:Int)) else(srtT ((n:Int)+1),0)):=by simp[enc,infV,judV]
   rw[e,if_neg (by omega)];exact Nb.ok _
  |nat=> exact Nb.ok (srtT 0)
  |zero=> exact Nb.ok natT
  | @succ _ a X h1 h2=> exact chk (W:= .nat) (y11 hv (by simp)) h1 h2 hl (Nb.ok natT)
  | @pi _ A B S S' i k h1 h2 h3 h4=>
   have hG':=hG.cons (tyB h1 h2 hl.1) (y11 hv (by simp));exact(lev (y11 hv (by simp)) h1 h2 hl.1).thn fun s _=>((q110 rfl (ihs _ B S' hG' (y11 hv (by simp)) h3 hl.2)).frm fun s e=>⟨S',.sort k,(j43 hG' (y11 hv (by simp)) h3 (q90 rfl e)).1,h4,by simp[M.hk],rfl⟩).thn fun _ _=> Nb.ok _
  | @sg _ A B S S' i k h1 h2 h3 h4=>
   have hG':=hG.cons (tyB h1 h2 hl.1) (y11 hv (by simp));exact(lev (y11 hv (by simp)) h1 h2 hl.1).thn fun s _=>((q110 rfl (ihs _ B S' hG' (y11 hv (by simp)) h3 hl.2)).frm fun s e=>⟨S',.sort k,(j43 hG' (y11 hv (by simp)) h3 (q90 rfl e)).1,h4,by simp[M.hk],rfl⟩).thn fun _ _=> Nb.ok _
  | @lam _ A t B S i h1 h2 h3=>
   have bA:=tyB h1 h2 hl.1;have hG':=hG.cons bA (y11 hv (by simp));refine(lev (y11 hv (by simp)) h1 h2 hl.1).thn fun s _=>(q110 rfl (ihs _ t B hG' (y11 hv (by simp)) h3 hl.2.1)).thn fun b e=> ?_
   obtain⟨rfl,vB⟩:=j43 hG' (y11 hv (by simp)) h3 (q90 rfl e);refine(Nb.mk (.mk 3 0 [enc A,enc B])).thn fun o eo=> ?_
   obtain⟨v,rfl⟩:=j27 eo;obtain⟨k,lk⟩:=h3.corr hG'.wf.wf;have hk:=hl.2.2 B k h3 lk;have lB:Lim (A::G) B:=by
    rcases Lim.type h3 hG'.wf hl.2.1 with rfl|b
    · have:=lk.det (Lev.sort _ 3)
      omega
    · exact b.1
   obtain⟨S',k1,k2⟩:=lk;exact(ih (.pi A B) _ hG v (.pi h1 h2 k1 k2) ⟨hl.1,lB⟩).thn fun _ _=> Nb.ok _
  | @app _ g a F X C R h1 h2 h3 h4=>
   refine((ih g F hG (y11 hv (by simp)) h1 hl.1).frm fun s e=>⟨F,.pi C R,(j43 hG (y11 hv (by simp)) h1 e).1,h2,by simp[M.hk],rfl⟩).thn fun s e=> ?_
   obtain⟨F',C',R',rfl,tF,rF,-,-,-⟩:=q176 (snd f) hG (y11 hv (by simp)) e;obtain rfl:=tF.det h1;obtain⟨rfl,rfl⟩:=rF.pi_det h2;exact chk (W:=C') (y11 hv (by simp)) h3 h4 hl.2 (Nb.mk _)
  | @elim _ p z s a F Z S X C D k h1 h2 h3 h4 h5 h6 h7 h8 h9 h10=>
   refine fam (T:= .nat) (y11 hv (by simp)) h1 h2 h3 h4 hl.1 ((Nb.mk (.mk 5 0 [enc p,.mk 7 0 []])).thn fun w ew=> ?_);obtain⟨v,rfl⟩:=j27 ew;refine chk (W:= .app p .zero) (y11 hv (by simp)) h5 h6 hl.2.1 ((Nb.mk (stpT (enc p))).thn fun w ew=> ?_);obtain⟨v,rfl⟩:=j27 ew;rw[y154];exact chk (y11 hv (by simp)) h7 h8 hl.2.2.1 (chk (W:= .nat) (y11 hv (by simp)) h9 h10 hl.2.2.2 (Nb.mk _))
  | @id _ T a b S X Y i h1 h2 h3 h4 h5 h6=>
   exact(lev (y11 hv (by simp)) h1 h2 hl.1).thn fun s _=> chk (y11 hv (by simp)) h3 h4 hl.2.1 (chk (y11 hv (by simp)) h5 h6 hl.2.2 (Nb.ok _))
  | @refl _ a X h1=>
   refine(ih a X hG (y11 hv (by simp)) h1 hl.1).thn fun s e=> ?_
   obtain⟨rfl,vX⟩:=j43 hG (y11 hv (by simp)) h1 e;obtain⟨k,lk⟩:=h1.corr hG.wf.wf;have hk:=hl.2 X k h1 lk;have lX:Lim G X:=by
    rcases Lim.type h1 hG.wf hl.1 with rfl|b
    · have:=lk.det (Lev.sort _ 3)
      omega
    · exact b.1
   obtain⟨S',k1,k2⟩:=lk;exact(lev vX k1 k2 lX).thn fun _ _=> Nb.mk _
  | @move _ p e a E T b c F T' D k X h1 h2 h3 h4 h5 h6 h7 h8=>
   refine((ih e E hG (y11 hv (by simp)) h1 hl.2.1).frm fun s e'=>⟨E,.id T b c,(j43 hG (y11 hv (by simp)) h1 e').1,h2,by simp[M.hk],rfl⟩).thn fun s e'=> ?_
   obtain⟨E',U,b',c',rfl,tE,rE,-,-,-,-⟩:=snd_id (snd f) hG (y11 hv (by simp)) e';obtain rfl:=tE.det h1;obtain⟨rfl,rfl,rfl⟩:=rE.id_det h2;refine fam (T:=U) (y11 hv (by simp)) h3 h4 h5 h6 hl.1 ((Nb.mk (.mk 5 0 [enc p,enc b'])).thn fun w ew=> ?_);obtain⟨v,rfl⟩:=j27 ew;exact chk (W:= .app p b') (y11 hv (by simp)) h7 h8 hl.2.2 (Nb.mk _)
  | @pair _ T a b S i C D X Y h1 h2 h3 h4 h5 h6 h7=>
   refine(lev (y11 hv (by simp)) h1 h2 hl.1).thn fun s _=>(Nb.shp (F:=A) h3 (by simp[M.hk]) rfl).thn fun s e=> ?_
   have e1:shpV (enc A) 13=(s,0):=Option.some.inj e;obtain⟨e2,e3⟩:=j96 (t:=enc A) (kind:=13) (by rw[e1]);rw[e1] at e2 e3;obtain⟨B,rfl,rB,hs,-⟩:=j49 e2;obtain rfl:=y117 rB hs h3 (by simp[M.hk]);refine chk (W:=C) (y11 hv (by simp)) h4 h5 hl.2.1 ((Nb.mk _).thn fun w ew=> ?_);obtain⟨v,rfl⟩:=j27 ew;rw[show sbsT (kd [enc A,enc a,enc b] 1) (kd (enc (.sg C D)).kids 1) 0 0=enc (D.inst a) from j38 D a];exact chk (y11 hv (by simp)) h6 h7 hl.2.2 (Nb.ok _)
  | @fst _ a X C D h1 h2=> exact((ih a X hG (y11 hv (by simp)) h1 hl).frm fun s e=>⟨X,.sg A D,(j43 hG (y11 hv (by simp)) h1 e).1,h2,by simp[M.hk],rfl⟩).thn fun _ _=> Nb.ok _
  | @snd _ a X C D h1 h2=> exact((ih a X hG (y11 hv (by simp)) h1 hl).frm fun s e=>⟨X,.sg C D,(j43 hG (y11 hv (by simp)) h1 e).1,h2,by simp[M.hk],rfl⟩).thn fun _ _=> Nb.mk _
end Go.Proofs.YtdkamgafpphdjaaGreat
namespace Go.Proofs.YtdkamgafpphdjaaGreat
open Go.RowKit
set_option linter.unusedVariables false
def HdC(t:Tr):Prop:= ∀(w:World) (v:Value) (d:Int),shape sigT t d=true->Lies w t v->d<=1000->Calls Tryz.prog 191 #[v] w fun e w'=> ∃x,e= .returned (.tuple #[x,.bool (hdW t).2])/\w'.ownsRow w.heap.size 3 1 x (hdW t).1.length ((hdW t).1.map (Value.int .i64))/\Ext w w'
theorem q213: ∀t:Tr,HdC t:=Tr.ind fun k n ks hk=> by
 intro w v d hsh hin hd;have HR:=hdq (fun V (hV:Ext w V)=> y32 (.mk k n ks) d hsh V v (hin.ext hV));obtain⟨hops,-,-,hsk⟩:=j31 hsh;have hlo:(hdW (.mk k n ks)).1.length<=1000:=by have:=q180 (.mk k n ks) d hsh;omega
 obtain⟨A,cap,rfl,hl,hc,hK⟩:=Lies.mk_iff.1 hin;obtain⟨i0,hi,hz0,hz1,hz2⟩:=info_parts q152;have hcc:=hc;unfold maxLen at hcc;have hx0:=(xr w).alloc (.cells #[.int .i64 k,.int .i64 n,.slice A ks.length cap] 25);have hbB:=heap_alloc_new w (.cells #[.int .i64 k,.int .i64 n,.slice A ks.length cap] 25);obtain⟨r,hr⟩: ∃r,rdx k ks=r:=⟨_,rfl⟩;have HR2:=hdq (show∀V,Ext w V->Calls Tryz.prog 56 #[.agg #[.int .i64 k,.int .i64 n,.slice A ks.length cap]] V fun e w'=> e= .returned (.int .i64 r)/\Ext V w' from fun V hV=> by have:=HR.out V hV;rw[show rdxT (.mk k n ks)=r from hr] at this;exact this);have HRR:=hdq hr;clear hr HR;by_cases h0:r=0
 · have hb0:(r !=0)=false:=by rw[h0];rfl
   subst h0;by_cases hm:k=5\/k=15\/k=16\/k=9\/k=12
   · rcases hm with rfl|rfl|rfl|rfl|rfl
     · have hlen:ks.length=2:=by have:(2:Int)=(ks.length:Int):=hops;omega
       have hlt:(0:Int) <(ks.length:Int):=by omega
       have hml:0 < ks.length:=by omega
       have hW:hdW (.mk 5 n ks)=((0:Int)::(hdW (kd ks 0)).1,(hdW (kd ks 0)).2):=by rw[hdW,if_neg (by rw[HRR.out];decide)];rw[<-j57 hml];rfl
       rw[hW] at hlo⊢;obtain⟨b,o,k',n',A',cap',kids,rfl,HK,c0,c1,c2,hkl,hkc,hK',hin',hmem⟩:=hK.get (j:=0) (xr w) hml;have hkd:kd ks 0= .mk k' n' kids:=j71 hml HK.out;have HC:=hdq (fun W (hx:Ext w W)=> hk _ hmem W _ (d - 1) (hsk _ hmem) (hin'.ext hx) (by omega));rw[hkd] at hlo⊢;generalize hdW (.mk k' n' kids)=q at hlo HC⊢;obtain⟨p,z⟩:=q;simp only[List.length_cons] at hlo;have hpl:p.length<=1000:=by omega
       simp only[Nat.zero_mul,Nat.add_zero] at c0 c1 c2;clear hin HRR hops hlen hW hkd HK hlo hsk hk;go_enter Tryz.func191,Tryz.ntmps191;go_wp2_with fail;refine(HR2.out _ hx0).mono ?_;rintro e w1 ⟨rfl,h1⟩;obtain⟨z0,z1,z2,-,-,-⟩:=own3 (h1.blk hbB);have lz:=q10 (h1.blk hbB);have hx1:=hx0.trans h1;have d0:=hx1.cell c0;have d1:=hx1.cell c1;have d2:=hx1.cell c2;clear hbB h1 hx0 HR2 c0 c1 c2;go_wp2_with fail;refine(HC.out _ hx1).mono ?_;rintro e w2 ⟨x,rfl,hq,h2⟩;have hpa:=j26 hq;obtain⟨Bq,cq,rfl,-,-,-⟩:=y25 hq;have hx2:=hx1.trans h2;have hx3:=(xr w2).alloc (.cells #[.int .i64 0] 3);have hG:(w2.alloc (.cells #[.int .i64 0] 3)).ownsRow w2.heap.size 3 1 (.slice (some ⟨w2.heap.size,0,none⟩) 1 1) ([(0:Int)]).length (([(0:Int)]).map (Value.int .i64)):=World.ownsRow_lit w2 #[.int .i64 0] 1 (Nat.le_refl _) (by decide) rfl;have hpa3:=hpa.ext hx3;clear HC hpa hq z0 z1 z2 d0 d1 d2;go_wp2_with (at_builtin;refine q19 _ rfl (.tmp 32) (.tmp 33) 26 rfl w2.heap.size 3 i0 _ 8 Tryz.underlying26 hi hz0 hz1 hz2 (by decide) rfl (ns:= [(0:Int)]) (p:=p) rfl hG (by simp) rfl hpa3 (by simp;omega) ?_)
       intro va wa hva hga hoa;have hEa:Ext w wa:=hx2.trans (hx3.grown hga (by intro g hg;simp[Value.ownBlock] at hg;omega));have hsz:=hx2.size;have hvw:wa.ownsRow w.heap.size 3 1 va ((0:Int)::p).length ((((0:Int)::p)).map (Value.int .i64)):=q27 hva hsz;have HVW:=hdq hvw;clear hva hga hoa hvw;go_wp2_with fail;go_ret2;exact⟨_,rfl,HVW.out,hEa⟩
     · have hlen:ks.length=1:=by have:(1:Int)=(ks.length:Int):=hops;omega
       have hlt:(0:Int) <(ks.length:Int):=by omega
       have hml:0 < ks.length:=by omega
       have hW:hdW (.mk 15 n ks)=((0:Int)::(hdW (kd ks 0)).1,(hdW (kd ks 0)).2):=by rw[hdW,if_neg (by rw[HRR.out];decide)];rw[<-j57 hml];rfl
       rw[hW] at hlo⊢;obtain⟨b,o,k',n',A',cap',kids,rfl,HK,c0,c1,c2,hkl,hkc,hK',hin',hmem⟩:=hK.get (j:=0) (xr w) hml;have hkd:kd ks 0= .mk k' n' kids:=j71 hml HK.out;have HC:=hdq (fun W (hx:Ext w W)=> hk _ hmem W _ (d - 1) (hsk _ hmem) (hin'.ext hx) (by omega));rw[hkd] at hlo⊢;generalize hdW (.mk k' n' kids)=q at hlo HC⊢;obtain⟨p,z⟩:=q;simp only[List.length_cons] at hlo;have hpl:p.length<=1000:=by omega
       simp only[Nat.zero_mul,Nat.add_zero] at c0 c1 c2;clear hin HRR hops hlen hW hkd HK hlo hsk hk;go_enter Tryz.func191,Tryz.ntmps191;go_wp2_with fail;refine(HR2.out _ hx0).mono ?_;rintro e w1 ⟨rfl,h1⟩;obtain⟨z0,z1,z2,-,-,-⟩:=own3 (h1.blk hbB);have lz:=q10 (h1.blk hbB);have hx1:=hx0.trans h1;have d0:=hx1.cell c0;have d1:=hx1.cell c1;have d2:=hx1.cell c2;clear hbB h1 hx0 HR2 c0 c1 c2;go_wp2_with fail;refine(HC.out _ hx1).mono ?_;rintro e w2 ⟨x,rfl,hq,h2⟩;have hpa:=j26 hq;obtain⟨Bq,cq,rfl,-,-,-⟩:=y25 hq;have hx2:=hx1.trans h2;have hx3:=(xr w2).alloc (.cells #[.int .i64 0] 3);have hG:(w2.alloc (.cells #[.int .i64 0] 3)).ownsRow w2.heap.size 3 1 (.slice (some ⟨w2.heap.size,0,none⟩) 1 1) ([(0:Int)]).length (([(0:Int)]).map (Value.int .i64)):=World.ownsRow_lit w2 #[.int .i64 0] 1 (Nat.le_refl _) (by decide) rfl;have hpa3:=hpa.ext hx3;clear HC hpa hq z0 z1 z2 d0 d1 d2;go_wp2_with (at_builtin;refine q19 _ rfl (.tmp 32) (.tmp 33) 26 rfl w2.heap.size 3 i0 _ 8 Tryz.underlying26 hi hz0 hz1 hz2 (by decide) rfl (ns:= [(0:Int)]) (p:=p) rfl hG (by simp) rfl hpa3 (by simp;omega) ?_)
       intro va wa hva hga hoa;have hEa:Ext w wa:=hx2.trans (hx3.grown hga (by intro g hg;simp[Value.ownBlock] at hg;omega));have hsz:=hx2.size;have hvw:wa.ownsRow w.heap.size 3 1 va ((0:Int)::p).length ((((0:Int)::p)).map (Value.int .i64)):=q27 hva hsz;have HVW:=hdq hvw;clear hva hga hoa hvw;go_wp2_with fail;go_ret2;exact⟨_,rfl,HVW.out,hEa⟩
     · have hlen:ks.length=1:=by have:(1:Int)=(ks.length:Int):=hops;omega
       have hlt:(0:Int) <(ks.length:Int):=by omega
       have hml:0 < ks.length:=by omega
       have hW:hdW (.mk 16 n ks)=((0:Int)::(hdW (kd ks 0)).1,(hdW (kd ks 0)).2):=by rw[hdW,if_neg (by rw[HRR.out];decide)];rw[<-j57 hml];rfl
       rw[hW] at hlo⊢;obtain⟨b,o,k',n',A',cap',kids,rfl,HK,c0,c1,c2,hkl,hkc,hK',hin',hmem⟩:=hK.get (j:=0) (xr w) hml;have hkd:kd ks 0= .mk k' n' kids:=j71 hml HK.out;have HC:=hdq (fun W (hx:Ext w W)=> hk _ hmem W _ (d - 1) (hsk _ hmem) (hin'.ext hx) (by omega));rw[hkd] at hlo⊢;generalize hdW (.mk k' n' kids)=q at hlo HC⊢;obtain⟨p,z⟩:=q;simp only[List.length_cons] at hlo;have hpl:p.length<=1000:=by omega
       simp only[Nat.zero_mul,Nat.add_zero] at c0 c1 c2;clear hin HRR hops hlen hW hkd HK hlo hsk hk;go_enter Tryz.func191,Tryz.ntmps191;go_wp2_with fail;refine(HR2.out _ hx0).mono ?_;rintro e w1 ⟨rfl,h1⟩;obtain⟨z0,z1,z2,-,-,-⟩:=own3 (h1.blk hbB);have lz:=q10 (h1.blk hbB);have hx1:=hx0.trans h1;have d0:=hx1.cell c0;have d1:=hx1.cell c1;have d2:=hx1.cell c2;clear hbB h1 hx0 HR2 c0 c1 c2;go_wp2_with fail;refine(HC.out _ hx1).mono ?_;rintro e w2 ⟨x,rfl,hq,h2⟩;have hpa:=j26 hq;obtain⟨Bq,cq,rfl,-,-,-⟩:=y25 hq;have hx2:=hx1.trans h2;have hx3:=(xr w2).alloc (.cells #[.int .i64 0] 3);have hG:(w2.alloc (.cells #[.int .i64 0] 3)).ownsRow w2.heap.size 3 1 (.slice (some ⟨w2.heap.size,0,none⟩) 1 1) ([(0:Int)]).length (([(0:Int)]).map (Value.int .i64)):=World.ownsRow_lit w2 #[.int .i64 0] 1 (Nat.le_refl _) (by decide) rfl;have hpa3:=hpa.ext hx3;clear HC hpa hq z0 z1 z2 d0 d1 d2;go_wp2_with (at_builtin;refine q19 _ rfl (.tmp 32) (.tmp 33) 26 rfl w2.heap.size 3 i0 _ 8 Tryz.underlying26 hi hz0 hz1 hz2 (by decide) rfl (ns:= [(0:Int)]) (p:=p) rfl hG (by simp) rfl hpa3 (by simp;omega) ?_)
       intro va wa hva hga hoa;have hEa:Ext w wa:=hx2.trans (hx3.grown hga (by intro g hg;simp[Value.ownBlock] at hg;omega));have hsz:=hx2.size;have hvw:wa.ownsRow w.heap.size 3 1 va ((0:Int)::p).length ((((0:Int)::p)).map (Value.int .i64)):=q27 hva hsz;have HVW:=hdq hvw;clear hva hga hoa hvw;go_wp2_with fail;go_ret2;exact⟨_,rfl,HVW.out,hEa⟩
     · have hlen:ks.length=4:=by have:(4:Int)=(ks.length:Int):=hops;omega
       have hlt:(3:Int) <(ks.length:Int):=by omega
       have hml:3 < ks.length:=by omega
       have hW:hdW (.mk 9 n ks)=((3:Int)::(hdW (kd ks 3)).1,(hdW (kd ks 3)).2):=by rw[hdW,if_neg (by rw[HRR.out];decide)];rw[<-j57 hml];rfl
       rw[hW] at hlo⊢;obtain⟨b,o,k',n',A',cap',kids,rfl,HK,c0,c1,c2,hkl,hkc,hK',hin',hmem⟩:=hK.get (j:=3) (xr w) hml;have hkd:kd ks 3= .mk k' n' kids:=j71 hml HK.out;have HC:=hdq (fun W (hx:Ext w W)=> hk _ hmem W _ (d - 1) (hsk _ hmem) (hin'.ext hx) (by omega));rw[hkd] at hlo⊢;generalize hdW (.mk k' n' kids)=q at hlo HC⊢;obtain⟨p,z⟩:=q;simp only[List.length_cons] at hlo;have hpl:p.length<=1000:=by omega
       simp only[Nat.reduceMul,Nat.add_assoc,Nat.reduceAdd] at c0 c1 c2;clear hin HRR hops hlen hW hkd HK hlo hsk hk;go_enter Tryz.func191,Tryz.ntmps191;go_wp2_with fail;refine(HR2.out _ hx0).mono ?_;rintro e w1 ⟨rfl,h1⟩;obtain⟨z0,z1,z2,-,-,-⟩:=own3 (h1.blk hbB);have lz:=q10 (h1.blk hbB);have hx1:=hx0.trans h1;have d0:=hx1.cell c0;have d1:=hx1.cell c1;have d2:=hx1.cell c2;clear hbB h1 hx0 HR2 c0 c1 c2;go_wp2_with fail;refine(HC.out _ hx1).mono ?_;rintro e w2 ⟨x,rfl,hq,h2⟩;have hpa:=j26 hq;obtain⟨Bq,cq,rfl,-,-,-⟩:=y25 hq;have hx2:=hx1.trans h2;have hx3:=(xr w2).alloc (.cells #[.int .i64 3] 3);have hG:(w2.alloc (.cells #[.int .i64 3] 3)).ownsRow w2.heap.size 3 1 (.slice (some ⟨w2.heap.size,0,none⟩) 1 1) ([(3:Int)]).length (([(3:Int)]).map (Value.int .i64)):=World.ownsRow_lit w2 #[.int .i64 3] 1 (Nat.le_refl _) (by decide) rfl;have hpa3:=hpa.ext hx3;clear HC hpa hq z0 z1 z2 d0 d1 d2;go_wp2_with (at_builtin;refine q19 _ rfl (.tmp 32) (.tmp 33) 26 rfl w2.heap.size 3 i0 _ 8 Tryz.underlying26 hi hz0 hz1 hz2 (by decide) rfl (ns:= [(3:Int)]) (p:=p) rfl hG (by simp) rfl hpa3 (by simp;omega) ?_)
       intro va wa hva hga hoa;have hEa:Ext w wa:=hx2.trans (hx3.grown hga (by intro g hg;simp[Value.ownBlock] at hg;omega));have hsz:=hx2.size;have hvw:wa.ownsRow w.heap.size 3 1 va ((3:Int)::p).length ((((3:Int)::p)).map (Value.int .i64)):=q27 hva hsz;have HVW:=hdq hvw;clear hva hga hoa hvw;go_wp2_with fail;go_ret2;exact⟨_,rfl,HVW.out,hEa⟩
     · have hlen:ks.length=3:=by have:(3:Int)=(ks.length:Int):=hops;omega
       have hlt:(1:Int) <(ks.length:Int):=by omega
       have hml:1 < ks.length:=by omega
       have hW:hdW (.mk 12 n ks)=((1:Int)::(hdW (kd ks 1)).1,(hdW (kd ks 1)).2):=by rw[hdW,if_neg (by rw[HRR.out];decide)];rw[<-j57 hml];rfl
       rw[hW] at hlo⊢;obtain⟨b,o,k',n',A',cap',kids,rfl,HK,c0,c1,c2,hkl,hkc,hK',hin',hmem⟩:=hK.get (j:=1) (xr w) hml;have hkd:kd ks 1= .mk k' n' kids:=j71 hml HK.out;have HC:=hdq (fun W (hx:Ext w W)=> hk _ hmem W _ (d - 1) (hsk _ hmem) (hin'.ext hx) (by omega));rw[hkd] at hlo⊢;generalize hdW (.mk k' n' kids)=q at hlo HC⊢;obtain⟨p,z⟩:=q;simp only[List.length_cons] at hlo;have hpl:p.length<=1000:=by omega
       simp only[Nat.one_mul,Nat.add_assoc,Nat.reduceAdd] at c0 c1 c2;clear hin HRR hops hlen hW hkd HK hlo hsk hk;go_enter Tryz.func191,Tryz.ntmps191;go_wp2_with fail;refine(HR2.out _ hx0).mono ?_;rintro e w1 ⟨rfl,h1⟩;obtain⟨z0,z1,z2,-,-,-⟩:=own3 (h1.blk hbB);have lz:=q10 (h1.blk hbB);have hx1:=hx0.trans h1;have d0:=hx1.cell c0;have d1:=hx1.cell c1;have d2:=hx1.cell c2;clear hbB h1 hx0 HR2 c0 c1 c2;go_wp2_with fail;refine(HC.out _ hx1).mono ?_;rintro e w2 ⟨x,rfl,hq,h2⟩;have hpa:=j26 hq;obtain⟨Bq,cq,rfl,-,-,-⟩:=y25 hq;have hx2:=hx1.trans h2;have hx3:=(xr w2).alloc (.cells #[.int .i64 1] 3);have hG:(w2.alloc (.cells #[.int .i64 1] 3)).ownsRow w2.heap.size 3 1 (.slice (some ⟨w2.heap.size,0,none⟩) 1 1) ([(1:Int)]).length (([(1:Int)]).map (Value.int .i64)):=World.ownsRow_lit w2 #[.int .i64 1] 1 (Nat.le_refl _) (by decide) rfl;have hpa3:=hpa.ext hx3;clear HC hpa hq z0 z1 z2 d0 d1 d2;go_wp2_with (at_builtin;refine q19 _ rfl (.tmp 32) (.tmp 33) 26 rfl w2.heap.size 3 i0 _ 8 Tryz.underlying26 hi hz0 hz1 hz2 (by decide) rfl (ns:= [(1:Int)]) (p:=p) rfl hG (by simp) rfl hpa3 (by simp;omega) ?_)
       intro va wa hva hga hoa;have hEa:Ext w wa:=hx2.trans (hx3.grown hga (by intro g hg;simp[Value.ownBlock] at hg;omega));have hsz:=hx2.size;have hvw:wa.ownsRow w.heap.size 3 1 va ((1:Int)::p).length ((((1:Int)::p)).map (Value.int .i64)):=q27 hva hsz;have HVW:=hdq hvw;clear hva hga hoa hvw;go_wp2_with fail;go_ret2;exact⟨_,rfl,HVW.out,hEa⟩
   · have hW:hdW (.mk k n ks)=([],false):=by rw[hdW,if_neg (by rw[HRR.out];decide),if_neg (by omega),if_neg (by omega),if_neg (by omega)]
     rw[hW];have t1:(k==5)=false:=beq_eq_false_iff_ne.2 (by omega);have t2:(k==15)=false:=beq_eq_false_iff_ne.2 (by omega);have t3:(k==16)=false:=beq_eq_false_iff_ne.2 (by omega);have t4:(k==9)=false:=beq_eq_false_iff_ne.2 (by omega);have t5:(k==12)=false:=beq_eq_false_iff_ne.2 (by omega);clear hin HRR hops hW hlo hsk hk hm;go_enter Tryz.func191,Tryz.ntmps191;go_wp2_with fail;refine(HR2.out _ hx0).mono ?_;rintro e w1 ⟨rfl,h1⟩;obtain⟨z0,z1,z2,-,-,-⟩:=own3 (h1.blk hbB);have lz:=q10 (h1.blk hbB);go_wp2_with fail;go_ret2;exact⟨_,rfl,World.ownsRow_nil _ _ _ _,hx0.trans h1⟩
 · have hb0:(r !=0)=true:=bne_iff_ne.2 h0
   have hW:hdW (.mk k n ks)=([],true):=by rw[hdW,if_pos (by rw[HRR.out];exact h0)]
   rw[hW];clear hW HRR;go_enter Tryz.func191,Tryz.ntmps191;go_wp2_with fail;refine(HR2.out _ hx0).mono ?_;rintro e w1 ⟨rfl,h1⟩;go_wp2_with fail;go_ret2;exact⟨_,rfl,World.ownsRow_nil _ _ _ _,hx0.trans h1⟩
theorem y139(t:Tr)(f:Int)(w:World)(v:Value)(hin:Lies w t v):
 Calls Tryz.prog 130 #[v,.int .i64 f,.func (.func 191) #[] #[]] w fun e w'=> ∃r s,e= .returned (.tuple #[r,.int .i64 s,.int .i64 (hnfV t f).2])/\Made w w' 25 (hnfV t f).1 r/\Ext w w':=by
 have HV:=hdq (fun W (hW:Ext w W)=> q17 t W v (hin.ext hW));have E:hnfV t f=if(valid sigT t && inR f 0 200)=true then hnfC f.toNat t else(y13,3):=rfl
 rw[E];clear E;obtain⟨z,hz⟩: ∃z,valid sigT t=z:=⟨_,rfl⟩;obtain⟨y,hy⟩: ∃y,inR f 0 200=y:=⟨_,rfl⟩;rw[hz] at HV⊢;rw[hy];obtain⟨k,n,ks⟩:=t;obtain⟨A,cap,rfl,hl,hc,hK⟩:=Lies.mk_iff.1 hin;have hx0:=((xr w).alloc (.cells #[.int .i64 k,.int .i64 n,.slice A ks.length cap] 25)).alloc (.cells #[.int .i64 0,.int .i64 0,.slice none 0 0] 25);obtain⟨hb0,hb1,hs2⟩:=blk2 (xr ((w.alloc (.cells #[.int .i64 k,.int .i64 n,.slice A ks.length cap] 25)).alloc (.cells #[.int .i64 0,.int .i64 0,.slice none 0 0] 25)));obtain⟨wS,hwS⟩: ∃x,x=(w.alloc (.cells #[.int .i64 k,.int .i64 n,.slice A ks.length cap] 25)).alloc (.cells #[.int .i64 0,.int .i64 0,.slice none 0 0] 25):=⟨_,rfl⟩;rw[<-hwS] at hx0 hb0 hb1 hs2;cases z with
 |false=>
  rw[if_neg (by simp)];go_enter Tryz.func130,Tryz.ntmps130;go_wp2_with fail;rw[<-hwS];clear hwS;refine(HV.out _ hx0).mono ?_;rintro e w1 ⟨rfl,h1⟩;obtain⟨s0,s1,s2,f0,f1,f2⟩:=own3 (h1.blk hb1);go_wp2_with fail;refine bodyPost_ret (v:= .tuple #[.agg #[.int .i64 0,.int .i64 0,.slice none 0 0],.int .i64 0,.int .i64 3]) (by simp[results,Tryz.results130,go_sem,s0,s1,s2]) rfl ⟨_,_,rfl,Made.leaf _ _ _ 0 0, ?_⟩;exact((((hx0.trans h1).setCell (by simp) _).setCell (by simp) _).setCell (by simp) _)
 |true=>
  cases y with
  |false=>
   rw[if_neg (by simp)];go_enter Tryz.func130,Tryz.ntmps130;go_wp2_with fail;rw[<-hwS];clear hwS;refine(HV.out _ hx0).mono ?_;rintro e w1 ⟨rfl,h1⟩;obtain⟨s0,s1,s2,f0,f1,f2⟩:=own3 (h1.blk hb1);go_wp2_with (go_at_call 67;refine(q22 _ _ _ _).mono ?_;rw[hy];rintro e w3 ⟨rfl,rfl⟩)
   refine bodyPost_ret (v:= .tuple #[.agg #[.int .i64 0,.int .i64 0,.slice none 0 0],.int .i64 0,.int .i64 3]) (by simp[results,Tryz.results130,go_sem,s0,s1,s2]) rfl ⟨_,_,rfl,Made.leaf _ _ _ 0 0, ?_⟩;exact((((hx0.trans h1).setCell (by simp) _).setCell (by simp) _).setCell (by simp) _)
  |true=>
   rw[if_pos (by simp)];obtain⟨hf1,hf2⟩:=q33.1 hy;obtain⟨F,rfl⟩:=Int.eq_ofNat_of_zero_le hf1;rw[show((F:Int)).toNat=F from by omega];obtain⟨R,hR⟩: ∃R,hnfC F (.mk k n ks)=R:=⟨_,rfl⟩;rw[hR];have HR:=hdq hR;have HY:=hdq hy;have HZ:=hdq hz;have HF:=hdq hf2;clear hy hR hz hf1 hf2;go_enter Tryz.func130,Tryz.ntmps130;go_wp2_with fail;rw[<-hwS];clear hwS;refine(HV.out _ hx0).mono ?_;rintro e w1 ⟨rfl,h1⟩;have hb10:=h1.blk hb0;have hb11:=h1.blk hb1;have hx1:=hx0.trans h1;go_wp2_with (go_at_call 67;refine(q22 _ _ _ _).mono ?_;rw[HY.out];rintro e w3 ⟨rfl,rfl⟩)
   clear HV hx0 hb0 hb1 hs2 h1 hin HY
   go_loopw [9] (fun i wr=> ∃(j:Nat) (k' n':Int) (kids:List Tr) (A':Option Addr) (c':Nat),j<=F/\i= .int .i64 j/\
    Hid (hnfC (F - j) (.mk k' n' kids)=R)/\Hid (valid sigT (.mk k' n' kids)=true)/\kids.length<=c'/\c'<=maxLen/\InK wr (fun b=> b < wr.heap.size/\(b < w.heap.size\/w.heap.size+2<=b)) A' kids/\
    wr.heap[w.heap.size]? =some (.cells #[.int .i64 k',.int .i64 n',.slice A' kids.length c'] 25 (0,0))/\wr.heap[w.heap.size+1]? =some (.cells #[.int .i64 0,.int .i64 0,.slice none 0 0] 25 (0,0))/\Ext w wr) (fun i _=> F -(intOf i).toNat)
   case atStart=> exact⟨0,k,n,ks,A,cap,Nat.zero_le _,rfl,hdq HR.out,HZ,hl,hc,InK.mono (fun b hb=>⟨Nat.lt_of_lt_of_le hb hx1.size,.inl hb⟩) (fun b hb=> hx1.heap b hb) hK,hb10,hb11,hx1⟩
   case round=>
    obtain⟨j,k',n',kids,A',c',hj,rfl,HN,HVX,hkl,hkc,hT,hb,hbR,hx⟩:=hrel;have hsz:w.heap.size+1 < wr.heap.size:=q10 hbR;have hL:Lies wr (.mk k' n' kids) (.agg #[.int .i64 k',.int .i64 n',.slice A' kids.length c']):=Lies.mk hkl hkc (InK.mono (fun b hb=> hb.1) (fun _ _=> rfl) hT);have HO:=q213 (.mk k' n' kids) wr _ 30 (q21 HVX.out).2 hL (by decide);have HOW:=hdq (fun W (hW:Ext wr W)=> q35 (.mk k' n' kids) W _ (hL.ext hW) (by have:=(q21 HVX.out).1;omega));have HCO:=hdq (fun p (hp:hdQ (.mk k' n' kids)=some p) W (hW:Ext wr W) B c (hP:PFs W B p.length c p)=> q64 (.mk k' n' kids) p HVX.out (hdQ_at _ p hp) W _ (hL.ext hW) B p.length c hP (by have:=q180 _ 30 (q21 HVX.out).2;rw[q75 hp] at this;simp only at this;omega));have HO2:=hdq (show∀q,hdQ (.mk k' n' kids)=q->Calls Tryz.prog 191 #[.agg #[.int .i64 k',.int .i64 n',.slice A' kids.length c']] wr fun e w'=> ∃x,e= .returned (.tuple #[x,.bool q.isSome])/\(q.isSome=true->w'.ownsRow wr.heap.size 3 1 x (q.getD []).length ((q.getD []).map (Value.int .i64)))/\Ext wr w' from fun q hq=> by
     refine HO.mono ?_;rintro e w' ⟨x,rfl,h1,h2⟩;cases q with
     |none=> exact⟨x,by rw[q113 hq];rfl,(fun h=> by cases h),h2⟩
     |some p=> exact⟨x,by rw[q75 hq];rfl,(fun _=> by rw[q75 hq] at h1;exact h1),h2⟩)
    clear HO hT hK hb10 hb11 hx1;obtain⟨z0,z1,z2,-,-,-⟩:=own3 hb;obtain⟨q,hq⟩: ∃q,hdQ (.mk k' n' kids)=q:=⟨_,rfl⟩;have HO2:=hdq (HO2.out q hq);cases q with
    |none=>
     have HE:=hdq (HN.out.symm.trans (y54 hq (F - j)));clear HCO hq HN;go_wp2_with fail;refine HO2.out.mono ?_;rintro e w2 ⟨x,rfl,-,h2⟩;obtain⟨y0,y1,y2,-,-,-⟩:=own3 (h2.blk hb);clear z0 z1 z2;go_wp2_with fail;refine(HOW.out _ h2).mono ?_;rintro e w3 ⟨r,rfl,hM,h3⟩;obtain⟨b1,b2,b3,b4,b5,rfl⟩:=hM.three';have h16:=h2.trans h3;obtain⟨s0,s1,s2,f0,f1,f2⟩:=own3 (h16.blk hbR);have hw4:w.heap.size+2<=w2.heap.size:=by have:=h2.size;omega
     clear y0 y1 y2;go_wp2_with fail;rw[HE.out];refine bodyPost_ret (v:= .tuple #[.agg #[.int .i64 b1,.int .i64 b2,.slice b3 b4 b5],.int .i64 j,.int .i64 0]) (by simp[results,Tryz.results130,go_sem,s0,s1,s2]) rfl ⟨_,_,rfl,Made.since (hM.after ((((q23.refl _ _).setCell (p:=⟨w.heap.size+1,0,none⟩) (by show w.heap.size+1 < _;omega) (.int .i64 b1)).setCell (p:=⟨w.heap.size+1,1,none⟩) (by show w.heap.size+1 < _;omega) (.int .i64 b2)).setCell (p:=⟨w.heap.size+1,2,none⟩) (by show w.heap.size+1 < _;omega) (.slice b3 b4 b5))) (by omega), ?_⟩;exact((((hx.trans h16).setCell (by simp) _).setCell (by simp) _).setCell (by simp) _)
    |some p=>
     have HCO2:=hdq (HCO.out p hq);simp only[Option.isSome_some,Option.getD_some] at HO2;have HQ:=hdq hq;clear HCO hq HOW;by_cases hjF:j=F
     · have HE:=hdq (HN.out.symm.trans (show hnfC (F - j) (.mk k' n' kids)=(y13,1) by rw[show F - j=0 by omega];exact y94 HQ.out))
       clear HCO2 HN;subst hjF;go_wp2_with fail;refine HO2.out.mono ?_;rintro e w2 ⟨x,rfl,hRw0,h2⟩;have hRw:=hRw0 trivial;clear hRw0;obtain⟨B,c,rfl,hP⟩:=y85 hRw;obtain⟨s0,s1,s2,f0,f1,f2⟩:=own3 (h2.blk hbR);clear z0 z1 z2 hRw;go_wp2_with fail;rw[HE.out];refine bodyPost_ret (v:= .tuple #[.agg #[.int .i64 0,.int .i64 0,.slice none 0 0],.int .i64 j,.int .i64 1]) (by simp[results,Tryz.results130,go_sem,s0,s1,s2]) rfl ⟨_,_,rfl,Made.leaf _ _ _ 0 0, ?_⟩;exact((((hx.trans h2).setCell (by simp) _).setCell (by simp) _).setCell (by simp) _)
     · have hj1:((j:Int)==(F:Int))=false:=beq_eq_false_iff_ne.2 (by omega)
       have hj2:(j==F)=false:=beq_eq_false_iff_ne.2 hjF;have hlt:j < F:=by omega
       have hj3:(j:Int) < 200:=by have:=HF.out;omega
       have hj4:F<=200:=by have:=HF.out;omega
       obtain⟨g,hg⟩: ∃g,F - j=g+1:=⟨F - j - 1,by omega⟩;have hg2:F -(j+1)=g:=by omega
       have hcv:conV (.mk k' n' kids) p=if valid sigT (conA (.mk k' n' kids) p)=true then(conA (.mk k' n' kids) p,true) else(y13,false):=rfl
       have HN1:=HN.out;rw[hg] at HN1;by_cases hcx:valid sigT (conA (.mk k' n' kids) p)=true
       · rw[if_pos hcx] at hcv
         rw[j136 HQ.out hcx,<-hg2] at HN1;rw[hcv] at HCO2;clear hcv HN hg hg2;generalize conA (.mk k' n' kids) p=X at HCO2 HN1 hcx;obtain⟨k2,n2,kids2⟩:=X;have HX1:=hdq HN1;have HX2:=hdq hcx;clear HN1 hcx;go_wp2_with fail;refine HO2.out.mono ?_;rintro e w2 ⟨x,rfl,hRw0,h2⟩;have hRw:=hRw0 trivial;clear hRw0;obtain⟨B,c,rfl,hP⟩:=y85 hRw;obtain⟨y0,y1,y2,-,-,-⟩:=own3 (h2.blk hb);clear z0 z1 z2 hRw;go_wp2_with fail;refine(HCO2.out _ h2 _ _ hP).mono ?_;rintro e w3 ⟨r,rfl,hM,h3⟩;have hF3:=From.made hM;obtain⟨A2,c2,rfl,hl2,hc2,hK2⟩:=InT.mk_iff.1 hF3;have h16:=(h2.trans h3).trans ((xr w3).alloc (.cells #[.int .i64 k2,.int .i64 n2,.slice A2 kids2.length c2] 25));obtain⟨s0,s1,s2,f0,f1,f2⟩:=own3 (h16.blk hb);have hb7:=h16.blk hb;have hb8:=h16.blk hbR;have hs23:wr.heap.size<=w2.heap.size:=h2.size;have hs33:w2.heap.size<=w3.heap.size:=h3.size;have KEEP:=hdq (fun(a0 a1 a2:Value) (b:Nat) (hb:b < w3.heap.size) (hne:b≠w.heap.size)=>(show((((w3.alloc (.cells #[.int .i64 k2,.int .i64 n2,.slice A2 kids2.length c2] 25)).setCell ⟨w.heap.size,0,none⟩ a0).setCell ⟨w.heap.size,1,none⟩ a1).setCell ⟨w.heap.size,2,none⟩ a2).heap[b]? =w3.heap[b]?from by
          rw[Below.heap_setCell _ _ _ _ hne,Below.heap_setCell _ _ _ _ hne,Below.heap_setCell _ _ _ _ hne];exact((xr w3).alloc _).heap b hb))
         clear y0 y1 y2 hb hbR hM hF3;go_wp2_with fail
         go_roundw
         case rel=> exact⟨j+1,k2,n2,kids2,A2,c2,hlt,by go_num,HX1,HX2,hl2,hc2,InK.mono (fun b hb=>⟨by simp;omega,.inr (by omega)⟩) (fun b hb=> KEEP.out _ _ _ b hb.2 (by omega)) hK2,q11 (q11 (q11 hb7 0 _) 1 _) 2 _,j12 (j12 (j12 hb8 (by simp) _) (by simp) _) (by simp) _,(((hx.trans h16).setCell (by simp) _).setCell (by simp) _).setCell (by simp) _⟩
         case measure=> simp[intOf];omega
       · rw[if_neg hcx] at hcv
         rw[j142 HQ.out (Bool.eq_false_iff.2 hcx)] at HN1;rw[hcv] at HCO2;have HE:=hdq HN1.symm;clear hcv HN hg hg2 hcx HN1;go_wp2_with fail;refine HO2.out.mono ?_;rintro e w2 ⟨x,rfl,hRw0,h2⟩;have hRw:=hRw0 trivial;clear hRw0;obtain⟨B,c,rfl,hP⟩:=y85 hRw;obtain⟨y0,y1,y2,-,-,-⟩:=own3 (h2.blk hb);clear z0 z1 z2 hRw;go_wp2_with fail;refine(HCO2.out _ h2 _ _ hP).mono ?_;rintro e w3 ⟨r,rfl,hM,h3⟩;obtain⟨b1,b2,b3,b4,b5,rfl⟩:=hM.three';have h16:=(h2.trans h3).trans ((xr w3).alloc (.cells #[.int .i64 b1,.int .i64 b2,.slice b3 b4 b5] 25));obtain⟨s0,s1,s2,f0,f1,f2⟩:=own3 (h16.blk hbR);clear y0 y1 y2;go_wp2_with fail;rw[HE.out];refine bodyPost_ret (v:= .tuple #[.agg #[.int .i64 0,.int .i64 0,.slice none 0 0],.int .i64 j,.int .i64 2]) (by simp[results,Tryz.results130,go_sem,s0,s1,s2]) rfl ⟨_,_,rfl,Made.leaf _ _ _ 0 0, ?_⟩;exact((((hx.trans h16).setCell (by simp) _).setCell (by simp) _).setCell (by simp) _)
theorem j102(t:Tr)(f:Int)(w:World)(v:Value)(hin:Lies w t v):
 Calls Tryz.prog 157 #[v,.int .i64 f] w fun e w'=> ∃r,e= .returned (.tuple #[r,.int .i64 (hnfV t f).2])/\Made w w' 25 (hnfV t f).1 r/\Ext w w':=by
 have HS:=hdq (fun W (hW:Ext w W)=> y139 t f W v (hin.ext hW));obtain⟨S,hS⟩: ∃S,hnfV t f=S:=⟨_,rfl⟩;rw[hS] at HS⊢;obtain⟨k,n,ks⟩:=t;obtain⟨A,cap,rfl,hl,hc,hK⟩:=Lies.mk_iff.1 hin;clear hS;have hx0:=((xr w).alloc (.cells #[.int .i64 k,.int .i64 n,.slice A ks.length cap] 25)).alloc (.cells #[.int .i64 0,.int .i64 0,.slice none 0 0] 25);obtain⟨hb0,hb1,hs2⟩:=blk2 (xr ((w.alloc (.cells #[.int .i64 k,.int .i64 n,.slice A ks.length cap] 25)).alloc (.cells #[.int .i64 0,.int .i64 0,.slice none 0 0] 25)));obtain⟨wS,hwS⟩: ∃x,x=(w.alloc (.cells #[.int .i64 k,.int .i64 n,.slice A ks.length cap] 25)).alloc (.cells #[.int .i64 0,.int .i64 0,.slice none 0 0] 25):=⟨_,rfl⟩;rw[<-hwS] at hx0 hb0 hb1 hs2;go_enter Tryz.func157,Tryz.ntmps157;go_wp2_with fail;rw[<-hwS];clear hwS;refine(HS.out _ hx0).mono ?_;rintro e w3 ⟨r,s,rfl,hM,h3⟩;obtain⟨b1,b2,b3,b4,b5,rfl⟩:=hM.three';have h16:=h3.trans ((xr w3).alloc (.cells #[.int .i64 b1,.int .i64 b2,.slice b3 b4 b5] 25));obtain⟨s0,s1,s2,f0,f1,f2⟩:=own3 (h16.blk hb1);have hM2:=hM.ext ((xr w3).alloc (.cells #[.int .i64 b1,.int .i64 b2,.slice b3 b4 b5] 25));have hw4:w.heap.size+2<=wS.heap.size:=by omega
 go_wp2_with fail;refine bodyPost_ret (v:= .tuple #[.agg #[.int .i64 b1,.int .i64 b2,.slice b3 b4 b5],.int .i64 S.2]) (by simp[results,Tryz.results157,go_sem,s0,s1,s2]) rfl ⟨_,rfl,Made.since (hM2.after ((((q23.refl _ _).setCell (p:=⟨w.heap.size+1,0,none⟩) (by show w.heap.size+1 < _;omega) (.int .i64 b1)).setCell (p:=⟨w.heap.size+1,1,none⟩) (by show w.heap.size+1 < _;omega) (.int .i64 b2)).setCell (p:=⟨w.heap.size+1,2,none⟩) (by show w.heap.size+1 < _;omega) (.slice b3 b4 b5))) (by omega), ?_⟩;exact((((hx0.trans h16).setCell (by simp) _).setCell (by simp) _).setCell (by simp) _)
end Go.Proofs.YtdkamgafpphdjaaGreat
