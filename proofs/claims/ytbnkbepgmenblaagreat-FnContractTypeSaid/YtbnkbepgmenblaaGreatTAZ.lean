/-
  Lemmas towards the law, 26: MNb, Head, Conv.
-/
import Derived.Test.YtbnkbepgmenblaaGreatTAY
set_option linter.unusedVariables false
set_option maxHeartbeats 4000000
set_option maxRecDepth 100000
namespace Go.Proofs.YtbnkbepgmenblaaGreat
open Go.RowKit
open M (Hd HR Cv Ty Lim WfL TyB Lev)
def Nb(x:An):Prop:= ∀s c,x=some (s,c)->c=0\/c=2
theorem Nb.thn{x:An}{f:Tr->An}(h:Nb x)(k: ∀s,x=some (s,0)->Nb (f s)):Nb (thn x f):=by
 intro s c e;rcases y36 e with⟨u,h1,h2⟩ |⟨u,c',h1,h2,h3⟩
 · exact k u h1 s c h2
 · simp only[Prod.mk.injEq] at h3
   obtain⟨-,rfl⟩:=h3;exact h u _ h1
theorem Nb.one{y:Tr×Int}(h:y.2=0\/y.2=2):Nb (some y):=by
 intro s c e;simp only[Option.some.injEq] at e;subst e;exact h
theorem Nb.ok(u:Tr):Nb (some (u,0)):=Nb.one (.inl rfl)
theorem Nb.mk(t:Tr):Nb (some (mkV t)):=Nb.one (by unfold mkV;split <;> simp)
theorem Nb.shp{F c:M.Tm}{kind:Int}(r:HR F c)(hc:M.hk c≠0)(hk:(enc c).kind=kind):Nb (some (shpV (enc F) kind)):=by
 refine Nb.one ?_;unfold shpV
 split
 · simp
 · rename_i h1
   have h2:hnfV (enc F) 200=((hnfV (enc F) 200).1,0):=by
    have h3:(hnfV (enc F) 200).2=0:=by simpa using h1
    rw[<-h3]
   obtain⟨B,e,rB,hs,-⟩:=y55 h2;rw[q120 rB hs r hc] at e;rw[e,if_neg (by rw[hk];simp)];simp
theorem Nb.frm{x:An}{kind:Int}(h:Nb x)(k: ∀s,x=some (s,0)-> ∃F c,s=enc F/\HR F c/\M.hk c≠0/\(enc c).kind=kind):Nb (frmV x kind):=
 h.thn fun s e=> by
  obtain⟨F,c,rfl,r,hc,hk⟩:=k s e;exact Nb.shp r hc hk
theorem Nb.chk{x y:An}{W:M.Tm}(h:Nb x)(k: ∀s,x=some (s,0)-> ∃X,s=enc X/\Cv X W)(hy:Nb y):Nb (chkV x (enc W) y):=
 h.thn fun s e=> by
  obtain⟨X,rfl,cX⟩:=k s e
  split
  · exact hy
  · rename_i h0
    exact Nb.one (.inr ((cvt_nb cX).resolve_left h0))
theorem Nb.fam{x y:An}{T:M.Tm}(h:Nb x)(k: ∀s,x=some (s,0)-> ∃F C D j,s=enc F/\HR F (.pi C D)/\Cv C T/\HR D (.sort j))(hy:Nb y):Nb (famV x (enc T) y):=by
 have h1:Nb (frmV x 3):=h.frm fun s e=> by
  obtain⟨F,C,D,j,rfl,r,-,-⟩:=k s e;exact⟨F,.pi C D,rfl,r,by simp[M.hk],rfl⟩
 refine h1.thn fun s e=> ?_
 obtain⟨u,e1,e2,e3⟩:=y56 e;obtain⟨F,C,D,j,rfl,r,cC,rD⟩:=k u e1;obtain⟨B,rfl,rB,hs,-⟩:=y55 e2;obtain rfl:=q120 rB hs r (by simp[M.hk])
 split
 · exact(Nb.shp (F:=D) rD (by simp[M.hk]) rfl).thn fun _ _=> hy
 · rename_i h0
   exact Nb.one (.inr ((cvt_nb (A:=C) cC).resolve_left h0))
theorem q52{f:Nat}{G:List M.Tm}{t A:M.Tm}{s:Tr}(hG:j33 G)(hv:valid sigT (enc t)=true)(h:Ty G t A)(e:infV f (ctxE G) (enc t)=some (s,0)):s=enc A/\valid sigT (enc A)=true:=by
 obtain⟨B,rfl,tB,-,v⟩:=snd f G t s hG hv e;obtain rfl:=tB.det h;exact⟨rfl,v⟩
theorem j128{f:Nat}{G:List M.Tm}{k:Int}{A t:M.Tm}(hk:und k 1=1)(h:Nb (infV f (ctxE (A::G)) (enc t))):Nb (tyV (infV f) (ctxE G) k [enc A,enc t] 1):=by
 rw[y96 _ _ hk]
 split
 · exact Nb.one (.inr rfl)
 · rw[show ctxE G++ [kd [enc A,enc t] 0]=ctxE (A::G) from(y34 A G).symm]
   exact h
theorem q98{f:Nat}{G:List M.Tm}{k:Int}{A t:M.Tm}{s:Tr}(hk:und k 1=1)(h:tyV (infV f) (ctxE G) k [enc A,enc t] 1=some (s,0)):infV f (ctxE (A::G)) (enc t)=some (s,0):=by
 have:=(uty hk h).2
 rwa [show ctxE G++ [kd [enc A,enc t] 0]=ctxE (A::G) from(y34 A G).symm] at this
theorem j149: ∀(f:Nat) (G:List M.Tm) (t A:M.Tm),j33 G->valid sigT (enc t)=true->Ty G t A->Lim G t->Nb (infV f (ctxE G) (enc t))
 |0,G,t,A,hG,hv,h,hl=> by intro s c e;cases e
 |f+1,G,t,A,hG,hv,h,hl=> by
  have ih:=j149 f G;have ihs:=j149 f;have tyB: ∀{X S:M.Tm} {i:Nat},Ty G X S->HR S (.sort i)->Lim G X->TyB G X:=fun{X S i} h1 h2 h3=>⟨h3,i,M.lev_le (Lim.type h1 hG.wf h3) h2,S,h1,h2⟩
  have lev: ∀{X S:M.Tm} {i:Nat},valid sigT (enc X)=true->Ty G X S->HR S (.sort i)->Lim G X->Nb (frmV (infV f (ctxE G) (enc X)) 2):=fun{X S i} v h1 h2 h3=>
   (ih X S hG v h1 h3).frm fun s e=>⟨S,.sort i,(q52 hG v h1 e).1,h2,by simp[M.hk],rfl⟩
  have chk: ∀{X S W:M.Tm} {y:An},valid sigT (enc X)=true->Ty G X S->Cv S W->Lim G X->Nb y->Nb (chkV (infV f (ctxE G) (enc X)) (enc W) y):=fun{X S W y} v h1 h2 h3 hy=>
   (ih X S hG v h1 h3).chk (fun s e=>⟨S,(q52 hG v h1 e).1,h2⟩) hy
  have fam: ∀{X F C D T:M.Tm} {j:Nat} {y:An},valid sigT (enc X)=true->Ty G X F->HR F (.pi C D)->Cv C T->HR D (.sort j)->Lim G X->Nb y->Nb (famV (infV f (ctxE G) (enc X)) (enc T) y):=fun{X F C D T j y} v h1 h2 h3 h4 h5 hy=>
   (ih X F hG v h1 h5).fam (fun s e=>⟨F,C,D,j,(q52 hG v h1 e).1,h2,h3,h4⟩) hy
  cases h with
  | @var _ n A h=>
   have hn:=M.lk_lt h
   show Nb (some (lkV (ctxE G) (n:Int)))
   rw[j184 hn];exact Nb.mk _
  | @sort _ n=>
   have hn:n < 3:=hl;have e:infV (f+1) (ctxE G) (enc (.sort n))=some (if(n:Int)=3 then(q16,(1:Int)) else(srtT ((n:Int)+1),0)):=by simp[enc,infV,judV]
   rw[e,if_neg (by omega)];exact Nb.ok _
  |nat=> exact Nb.ok (srtT 0)
  |zero=> exact Nb.ok natT
  | @succ _ a X h1 h2=> exact chk (W:= .nat) (q12 hv (by simp)) h1 h2 hl (Nb.ok natT)
  | @pi _ A B S S' i k h1 h2 h3 h4=>
   have K5:=hG.cons (tyB h1 h2 hl.1) (q12 hv (by simp));exact(lev (q12 hv (by simp)) h1 h2 hl.1).thn fun s _=>((j128 rfl (ihs _ B S' K5 (q12 hv (by simp)) h3 hl.2)).frm fun s e=>⟨S',.sort k,(q52 K5 (q12 hv (by simp)) h3 (q98 rfl e)).1,h4,by simp[M.hk],rfl⟩).thn fun _ _=> Nb.ok _
  | @sg _ A B S S' i k h1 h2 h3 h4=>
   have K5:=hG.cons (tyB h1 h2 hl.1) (q12 hv (by simp));exact(lev (q12 hv (by simp)) h1 h2 hl.1).thn fun s _=>((j128 rfl (ihs _ B S' K5 (q12 hv (by simp)) h3 hl.2)).frm fun s e=>⟨S',.sort k,(q52 K5 (q12 hv (by simp)) h3 (q98 rfl e)).1,h4,by simp[M.hk],rfl⟩).thn fun _ _=> Nb.ok _
  | @lam _ A t B S i h1 h2 h3=>
   have bA:=tyB h1 h2 hl.1;have K5:=hG.cons bA (q12 hv (by simp));refine(lev (q12 hv (by simp)) h1 h2 hl.1).thn fun s _=>(j128 rfl (ihs _ t B K5 (q12 hv (by simp)) h3 hl.2.1)).thn fun b e=> ?_
   obtain⟨rfl,vB⟩:=q52 K5 (q12 hv (by simp)) h3 (q98 rfl e);refine(Nb.mk (.mk 3 0 [enc A,enc B])).thn fun o eo=> ?_
   obtain⟨v,rfl⟩:=y32 eo;obtain⟨k,lk⟩:=h3.corr K5.wf.wf;have hk:=hl.2.2 B k h3 lk;have lB:Lim (A::G) B:=by
    rcases Lim.type h3 K5.wf hl.2.1 with rfl|b
    · have:=lk.det (Lev.sort _ 3)
      omega
    · exact b.1
   obtain⟨S',k1,k2⟩:=lk;exact(ih (.pi A B) _ hG v (.pi h1 h2 k1 k2) ⟨hl.1,lB⟩).thn fun _ _=> Nb.ok _
  | @app _ g a F X C R h1 h2 h3 h4=>
   refine((ih g F hG (q12 hv (by simp)) h1 hl.1).frm fun s e=>⟨F,.pi C R,(q52 hG (q12 hv (by simp)) h1 e).1,h2,by simp[M.hk],rfl⟩).thn fun s e=> ?_
   obtain⟨F',C',R',rfl,tF,rF,-,-,-⟩:=j172 (snd f) hG (q12 hv (by simp)) e;obtain rfl:=tF.det h1;obtain⟨rfl,rfl⟩:=rF.pi_det h2;exact chk (W:=C') (q12 hv (by simp)) h3 h4 hl.2 (Nb.mk _)
  | @elim _ p z s a F Z S X C D k h1 h2 h3 h4 h5 h6 h7 h8 h9 h10=>
   refine fam (T:= .nat) (q12 hv (by simp)) h1 h2 h3 h4 hl.1 ((Nb.mk (.mk 5 0 [enc p,.mk 7 0 []])).thn fun w ew=> ?_);obtain⟨v,rfl⟩:=y32 ew;refine chk (W:= .app p .zero) (q12 hv (by simp)) h5 h6 hl.2.1 ((Nb.mk (stpT (enc p))).thn fun w ew=> ?_);obtain⟨v,rfl⟩:=y32 ew;rw[y151];exact chk (q12 hv (by simp)) h7 h8 hl.2.2.1 (chk (W:= .nat) (q12 hv (by simp)) h9 h10 hl.2.2.2 (Nb.mk _))
  | @id _ T a b S X Y i h1 h2 h3 h4 h5 h6=>
   exact(lev (q12 hv (by simp)) h1 h2 hl.1).thn fun s _=> chk (q12 hv (by simp)) h3 h4 hl.2.1 (chk (q12 hv (by simp)) h5 h6 hl.2.2 (Nb.ok _))
  | @refl _ a X h1=>
   refine(ih a X hG (q12 hv (by simp)) h1 hl.1).thn fun s e=> ?_
   obtain⟨rfl,vX⟩:=q52 hG (q12 hv (by simp)) h1 e;obtain⟨k,lk⟩:=h1.corr hG.wf.wf;have hk:=hl.2 X k h1 lk;have lX:Lim G X:=by
    rcases Lim.type h1 hG.wf hl.1 with rfl|b
    · have:=lk.det (Lev.sort _ 3)
      omega
    · exact b.1
   obtain⟨S',k1,k2⟩:=lk;exact(lev vX k1 k2 lX).thn fun _ _=> Nb.mk _
  | @move _ p e a E T b c F T' D k X h1 h2 h3 h4 h5 h6 h7 h8=>
   refine((ih e E hG (q12 hv (by simp)) h1 hl.2.1).frm fun s e'=>⟨E,.id T b c,(q52 hG (q12 hv (by simp)) h1 e').1,h2,by simp[M.hk],rfl⟩).thn fun s e'=> ?_
   obtain⟨E',U,b',c',rfl,tE,rE,-,-,-,-⟩:=snd_id (snd f) hG (q12 hv (by simp)) e';obtain rfl:=tE.det h1;obtain⟨rfl,rfl,rfl⟩:=rE.id_det h2;refine fam (T:=U) (q12 hv (by simp)) h3 h4 h5 h6 hl.1 ((Nb.mk (.mk 5 0 [enc p,enc b'])).thn fun w ew=> ?_);obtain⟨v,rfl⟩:=y32 ew;exact chk (W:= .app p b') (q12 hv (by simp)) h7 h8 hl.2.2 (Nb.mk _)
  | @pair _ T a b S i C D X Y h1 h2 h3 h4 h5 h6 h7=>
   refine(lev (q12 hv (by simp)) h1 h2 hl.1).thn fun s _=>(Nb.shp (F:=A) h3 (by simp[M.hk]) rfl).thn fun s e=> ?_
   have e1:shpV (enc A) 13=(s,0):=Option.some.inj e;obtain⟨e2,e3⟩:=y104 (t:=enc A) (kind:=13) (by rw[e1]);rw[e1] at e2 e3;obtain⟨B,rfl,rB,hs,-⟩:=y55 e2;obtain rfl:=q120 rB hs h3 (by simp[M.hk]);refine chk (W:=C) (q12 hv (by simp)) h4 h5 hl.2.1 ((Nb.mk _).thn fun w ew=> ?_);obtain⟨v,rfl⟩:=y32 ew;rw[show sbsT (kd [enc A,enc a,enc b] 1) (kd (enc (.sg C D)).kids 1) 0 0=enc (D.inst a) from y53 D a];exact chk (q12 hv (by simp)) h6 h7 hl.2.2 (Nb.ok _)
  | @fst _ a X C D h1 h2=> exact((ih a X hG (q12 hv (by simp)) h1 hl).frm fun s e=>⟨X,.sg A D,(q52 hG (q12 hv (by simp)) h1 e).1,h2,by simp[M.hk],rfl⟩).thn fun _ _=> Nb.ok _
  | @snd _ a X C D h1 h2=> exact((ih a X hG (q12 hv (by simp)) h1 hl).frm fun s e=>⟨X,.sg C D,(q52 hG (q12 hv (by simp)) h1 e).1,h2,by simp[M.hk],rfl⟩).thn fun _ _=> Nb.mk _
end Go.Proofs.YtbnkbepgmenblaaGreat
namespace Go.Proofs.YtbnkbepgmenblaaGreat
open Go.RowKit
def HdC(t:Tr):Prop:= ∀(w:World) (v:Value) (d:Int),shape sigT t d=true->Lies w t v->d<=1000->Calls Tryz.prog 180 #[v] w fun e w'=> ∃x,e= .returned (.tuple #[x,.bool (hdW t).2])/\w'.ownsRow w.heap.size 3 1 x (hdW t).1.length ((hdW t).1.map (Value.int .i64))/\Ext w w'
theorem q211: ∀t:Tr,HdC t:=Tr.ind fun k n ks hk=> by
 intro w v d hsh j7 hd;have HR:=hdq (fun V (hV:Ext w V)=> j35 (.mk k n ks) d hsh V v (j7.ext hV));obtain⟨j8,-,-,hsk⟩:=q25 hsh;have Y5:(hdW (.mk k n ks)).1.length<=1000:=by have:=j180 (.mk k n ks) d hsh;omega
 obtain⟨A,cap,rfl,hl,hc,hK⟩:=Lies.mk_iff.1 j7;obtain⟨i0,hi,hz0,hz1,hz2⟩:=info_parts y124;have hcc:=hc;unfold maxLen at hcc;have hx0:=(xr w).alloc (.cells #[.int .i64 k,.int .i64 n,.slice A ks.length cap] 25);have L5:=heap_alloc_new w (.cells #[.int .i64 k,.int .i64 n,.slice A ks.length cap] 25);obtain⟨r,hr⟩: ∃r,rdx k ks=r:=⟨_,rfl⟩;have ie:=hdq (show∀V,Ext w V->Calls Tryz.prog 51 #[.agg #[.int .i64 k,.int .i64 n,.slice A ks.length cap]] V fun e w'=> e= .returned (.int .i64 r)/\Ext V w' from fun V hV=> by have:=HR.out V hV;rw[show rdxT (.mk k n ks)=r from hr] at this;exact this);have ra:=hdq hr;clear hr HR;by_cases h0:r=0
 · have hb0:(r !=0)=false:=by rw[h0];rfl
   subst h0;by_cases hm:k=5\/k=15\/k=16\/k=9\/k=12
   · rcases hm with rfl|rfl|rfl|rfl|rfl
     · have hlen:ks.length=2:=by have:(2:Int)=(ks.length:Int):=j8;omega
       have hlt:(0:Int) <(ks.length:Int):=by omega
       have jd:0 < ks.length:=by omega
       have hW:hdW (.mk 5 n ks)=((0:Int)::(hdW (kd ks 0)).1,(hdW (kd ks 0)).2):=by rw[hdW,if_neg (by rw[ra.out];decide)];rw[<-j61 jd];rfl
       rw[hW] at Y5⊢;obtain⟨b,o,k',n',A',cap',kids,rfl,HK,c0,c1,c2,K8,L6,hK',D6,j5⟩:=hK.get (j:=0) (xr w) jd;have E7:kd ks 0= .mk k' n' kids:=q43 jd HK.out;have HC:=hdq (fun W (hx:Ext w W)=> hk _ j5 W _ (d - 1) (hsk _ j5) (D6.ext hx) (by omega));rw[E7] at Y5⊢;generalize hdW (.mk k' n' kids)=q at Y5 HC⊢;obtain⟨p,z⟩:=q;simp only[List.length_cons] at Y5;have hpl:p.length<=1000:=by omega
       simp only[Nat.zero_mul,Nat.one_mul,Nat.reduceMul,Nat.add_zero,Nat.add_assoc,Nat.reduceAdd] at c0 c1 c2;clear j7 ra j8 hlen hW E7 HK Y5 hsk hk;go_enter Tryz.func180,Tryz.ntmps180;go_wp2_with fail;refine(ie.out _ hx0).mono ?_;rintro e w1 ⟨rfl,h1⟩;obtain⟨z0,z1,z2,-,-,-⟩:=own3 (h1.blk L5);have lz:=j10 (h1.blk L5);have hx1:=hx0.trans h1;have d0:=hx1.cell c0;have d1:=hx1.cell c1;have d2:=hx1.cell c2;clear L5 h1 hx0 ie c0 c1 c2;go_wp2_with fail;refine(HC.out _ hx1).mono ?_;rintro e w2 ⟨x,rfl,hq,h2⟩;have lg:=j31 hq;obtain⟨Bq,cq,rfl,-,-,-⟩:=q26 hq;have hx2:=hx1.trans h2;have hx3:=(xr w2).alloc (.cells #[.int .i64 0] 3);have hG:(w2.alloc (.cells #[.int .i64 0] 3)).ownsRow w2.heap.size 3 1 (.slice (some ⟨w2.heap.size,0,none⟩) 1 1) ([(0:Int)]).length (([(0:Int)]).map (Value.int .i64)):=World.ownsRow_lit w2 #[.int .i64 0] 1 (Nat.le_refl _) (by decide) rfl;have cf:=lg.ext hx3;clear HC lg hq z0 z1 z2 d0 d1 d2;go_wp2_with (at_builtin;refine y17 _ rfl (.tmp 32) (.tmp 33) 26 rfl w2.heap.size 3 i0 _ 8 Tryz.underlying26 hi hz0 hz1 hz2 (by decide) rfl (ns:= [(0:Int)]) (p:=p) rfl hG (by simp) rfl cf (by simp;omega) ?_)
       intro va wa K9 O8 fw;have yx:Ext w wa:=hx2.trans (hx3.grown O8 (by intro g hg;simp[Value.ownBlock] at hg;omega));have hsz:=hx2.size;have ma:wa.ownsRow w.heap.size 3 1 va ((0:Int)::p).length ((((0:Int)::p)).map (Value.int .i64)):=q32 K9 hsz;have Aq:=hdq ma;clear K9 O8 fw ma;go_wp2_with fail;go_ret2;exact⟨_,rfl,Aq.out,yx⟩
     · have hlen:ks.length=1:=by have:(1:Int)=(ks.length:Int):=j8;omega
       have hlt:(0:Int) <(ks.length:Int):=by omega
       have jd:0 < ks.length:=by omega
       have hW:hdW (.mk 15 n ks)=((0:Int)::(hdW (kd ks 0)).1,(hdW (kd ks 0)).2):=by rw[hdW,if_neg (by rw[ra.out];decide)];rw[<-j61 jd];rfl
       rw[hW] at Y5⊢;obtain⟨b,o,k',n',A',cap',kids,rfl,HK,c0,c1,c2,K8,L6,hK',D6,j5⟩:=hK.get (j:=0) (xr w) jd;have E7:kd ks 0= .mk k' n' kids:=q43 jd HK.out;have HC:=hdq (fun W (hx:Ext w W)=> hk _ j5 W _ (d - 1) (hsk _ j5) (D6.ext hx) (by omega));rw[E7] at Y5⊢;generalize hdW (.mk k' n' kids)=q at Y5 HC⊢;obtain⟨p,z⟩:=q;simp only[List.length_cons] at Y5;have hpl:p.length<=1000:=by omega
       simp only[Nat.zero_mul,Nat.one_mul,Nat.reduceMul,Nat.add_zero,Nat.add_assoc,Nat.reduceAdd] at c0 c1 c2;clear j7 ra j8 hlen hW E7 HK Y5 hsk hk;go_enter Tryz.func180,Tryz.ntmps180;go_wp2_with fail;refine(ie.out _ hx0).mono ?_;rintro e w1 ⟨rfl,h1⟩;obtain⟨z0,z1,z2,-,-,-⟩:=own3 (h1.blk L5);have lz:=j10 (h1.blk L5);have hx1:=hx0.trans h1;have d0:=hx1.cell c0;have d1:=hx1.cell c1;have d2:=hx1.cell c2;clear L5 h1 hx0 ie c0 c1 c2;go_wp2_with fail;refine(HC.out _ hx1).mono ?_;rintro e w2 ⟨x,rfl,hq,h2⟩;have lg:=j31 hq;obtain⟨Bq,cq,rfl,-,-,-⟩:=q26 hq;have hx2:=hx1.trans h2;have hx3:=(xr w2).alloc (.cells #[.int .i64 0] 3);have hG:(w2.alloc (.cells #[.int .i64 0] 3)).ownsRow w2.heap.size 3 1 (.slice (some ⟨w2.heap.size,0,none⟩) 1 1) ([(0:Int)]).length (([(0:Int)]).map (Value.int .i64)):=World.ownsRow_lit w2 #[.int .i64 0] 1 (Nat.le_refl _) (by decide) rfl;have cf:=lg.ext hx3;clear HC lg hq z0 z1 z2 d0 d1 d2;go_wp2_with (at_builtin;refine y17 _ rfl (.tmp 32) (.tmp 33) 26 rfl w2.heap.size 3 i0 _ 8 Tryz.underlying26 hi hz0 hz1 hz2 (by decide) rfl (ns:= [(0:Int)]) (p:=p) rfl hG (by simp) rfl cf (by simp;omega) ?_)
       intro va wa K9 O8 fw;have yx:Ext w wa:=hx2.trans (hx3.grown O8 (by intro g hg;simp[Value.ownBlock] at hg;omega));have hsz:=hx2.size;have ma:wa.ownsRow w.heap.size 3 1 va ((0:Int)::p).length ((((0:Int)::p)).map (Value.int .i64)):=q32 K9 hsz;have Aq:=hdq ma;clear K9 O8 fw ma;go_wp2_with fail;go_ret2;exact⟨_,rfl,Aq.out,yx⟩
     · have hlen:ks.length=1:=by have:(1:Int)=(ks.length:Int):=j8;omega
       have hlt:(0:Int) <(ks.length:Int):=by omega
       have jd:0 < ks.length:=by omega
       have hW:hdW (.mk 16 n ks)=((0:Int)::(hdW (kd ks 0)).1,(hdW (kd ks 0)).2):=by rw[hdW,if_neg (by rw[ra.out];decide)];rw[<-j61 jd];rfl
       rw[hW] at Y5⊢;obtain⟨b,o,k',n',A',cap',kids,rfl,HK,c0,c1,c2,K8,L6,hK',D6,j5⟩:=hK.get (j:=0) (xr w) jd;have E7:kd ks 0= .mk k' n' kids:=q43 jd HK.out;have HC:=hdq (fun W (hx:Ext w W)=> hk _ j5 W _ (d - 1) (hsk _ j5) (D6.ext hx) (by omega));rw[E7] at Y5⊢;generalize hdW (.mk k' n' kids)=q at Y5 HC⊢;obtain⟨p,z⟩:=q;simp only[List.length_cons] at Y5;have hpl:p.length<=1000:=by omega
       simp only[Nat.zero_mul,Nat.one_mul,Nat.reduceMul,Nat.add_zero,Nat.add_assoc,Nat.reduceAdd] at c0 c1 c2;clear j7 ra j8 hlen hW E7 HK Y5 hsk hk;go_enter Tryz.func180,Tryz.ntmps180;go_wp2_with fail;refine(ie.out _ hx0).mono ?_;rintro e w1 ⟨rfl,h1⟩;obtain⟨z0,z1,z2,-,-,-⟩:=own3 (h1.blk L5);have lz:=j10 (h1.blk L5);have hx1:=hx0.trans h1;have d0:=hx1.cell c0;have d1:=hx1.cell c1;have d2:=hx1.cell c2;clear L5 h1 hx0 ie c0 c1 c2;go_wp2_with fail;refine(HC.out _ hx1).mono ?_;rintro e w2 ⟨x,rfl,hq,h2⟩;have lg:=j31 hq;obtain⟨Bq,cq,rfl,-,-,-⟩:=q26 hq;have hx2:=hx1.trans h2;have hx3:=(xr w2).alloc (.cells #[.int .i64 0] 3);have hG:(w2.alloc (.cells #[.int .i64 0] 3)).ownsRow w2.heap.size 3 1 (.slice (some ⟨w2.heap.size,0,none⟩) 1 1) ([(0:Int)]).length (([(0:Int)]).map (Value.int .i64)):=World.ownsRow_lit w2 #[.int .i64 0] 1 (Nat.le_refl _) (by decide) rfl;have cf:=lg.ext hx3;clear HC lg hq z0 z1 z2 d0 d1 d2;go_wp2_with (at_builtin;refine y17 _ rfl (.tmp 32) (.tmp 33) 26 rfl w2.heap.size 3 i0 _ 8 Tryz.underlying26 hi hz0 hz1 hz2 (by decide) rfl (ns:= [(0:Int)]) (p:=p) rfl hG (by simp) rfl cf (by simp;omega) ?_)
       intro va wa K9 O8 fw;have yx:Ext w wa:=hx2.trans (hx3.grown O8 (by intro g hg;simp[Value.ownBlock] at hg;omega));have hsz:=hx2.size;have ma:wa.ownsRow w.heap.size 3 1 va ((0:Int)::p).length ((((0:Int)::p)).map (Value.int .i64)):=q32 K9 hsz;have Aq:=hdq ma;clear K9 O8 fw ma;go_wp2_with fail;go_ret2;exact⟨_,rfl,Aq.out,yx⟩
     · have hlen:ks.length=4:=by have:(4:Int)=(ks.length:Int):=j8;omega
       have hlt:(3:Int) <(ks.length:Int):=by omega
       have jd:3 < ks.length:=by omega
       have hW:hdW (.mk 9 n ks)=((3:Int)::(hdW (kd ks 3)).1,(hdW (kd ks 3)).2):=by rw[hdW,if_neg (by rw[ra.out];decide)];rw[<-j61 jd];rfl
       rw[hW] at Y5⊢;obtain⟨b,o,k',n',A',cap',kids,rfl,HK,c0,c1,c2,K8,L6,hK',D6,j5⟩:=hK.get (j:=3) (xr w) jd;have E7:kd ks 3= .mk k' n' kids:=q43 jd HK.out;have HC:=hdq (fun W (hx:Ext w W)=> hk _ j5 W _ (d - 1) (hsk _ j5) (D6.ext hx) (by omega));rw[E7] at Y5⊢;generalize hdW (.mk k' n' kids)=q at Y5 HC⊢;obtain⟨p,z⟩:=q;simp only[List.length_cons] at Y5;have hpl:p.length<=1000:=by omega
       simp only[Nat.zero_mul,Nat.one_mul,Nat.reduceMul,Nat.add_zero,Nat.add_assoc,Nat.reduceAdd] at c0 c1 c2;clear j7 ra j8 hlen hW E7 HK Y5 hsk hk;go_enter Tryz.func180,Tryz.ntmps180;go_wp2_with fail;refine(ie.out _ hx0).mono ?_;rintro e w1 ⟨rfl,h1⟩;obtain⟨z0,z1,z2,-,-,-⟩:=own3 (h1.blk L5);have lz:=j10 (h1.blk L5);have hx1:=hx0.trans h1;have d0:=hx1.cell c0;have d1:=hx1.cell c1;have d2:=hx1.cell c2;clear L5 h1 hx0 ie c0 c1 c2;go_wp2_with fail;refine(HC.out _ hx1).mono ?_;rintro e w2 ⟨x,rfl,hq,h2⟩;have lg:=j31 hq;obtain⟨Bq,cq,rfl,-,-,-⟩:=q26 hq;have hx2:=hx1.trans h2;have hx3:=(xr w2).alloc (.cells #[.int .i64 3] 3);have hG:(w2.alloc (.cells #[.int .i64 3] 3)).ownsRow w2.heap.size 3 1 (.slice (some ⟨w2.heap.size,0,none⟩) 1 1) ([(3:Int)]).length (([(3:Int)]).map (Value.int .i64)):=World.ownsRow_lit w2 #[.int .i64 3] 1 (Nat.le_refl _) (by decide) rfl;have cf:=lg.ext hx3;clear HC lg hq z0 z1 z2 d0 d1 d2;go_wp2_with (at_builtin;refine y17 _ rfl (.tmp 32) (.tmp 33) 26 rfl w2.heap.size 3 i0 _ 8 Tryz.underlying26 hi hz0 hz1 hz2 (by decide) rfl (ns:= [(3:Int)]) (p:=p) rfl hG (by simp) rfl cf (by simp;omega) ?_)
       intro va wa K9 O8 fw;have yx:Ext w wa:=hx2.trans (hx3.grown O8 (by intro g hg;simp[Value.ownBlock] at hg;omega));have hsz:=hx2.size;have ma:wa.ownsRow w.heap.size 3 1 va ((3:Int)::p).length ((((3:Int)::p)).map (Value.int .i64)):=q32 K9 hsz;have Aq:=hdq ma;clear K9 O8 fw ma;go_wp2_with fail;go_ret2;exact⟨_,rfl,Aq.out,yx⟩
     · have hlen:ks.length=3:=by have:(3:Int)=(ks.length:Int):=j8;omega
       have hlt:(1:Int) <(ks.length:Int):=by omega
       have jd:1 < ks.length:=by omega
       have hW:hdW (.mk 12 n ks)=((1:Int)::(hdW (kd ks 1)).1,(hdW (kd ks 1)).2):=by rw[hdW,if_neg (by rw[ra.out];decide)];rw[<-j61 jd];rfl
       rw[hW] at Y5⊢;obtain⟨b,o,k',n',A',cap',kids,rfl,HK,c0,c1,c2,K8,L6,hK',D6,j5⟩:=hK.get (j:=1) (xr w) jd;have E7:kd ks 1= .mk k' n' kids:=q43 jd HK.out;have HC:=hdq (fun W (hx:Ext w W)=> hk _ j5 W _ (d - 1) (hsk _ j5) (D6.ext hx) (by omega));rw[E7] at Y5⊢;generalize hdW (.mk k' n' kids)=q at Y5 HC⊢;obtain⟨p,z⟩:=q;simp only[List.length_cons] at Y5;have hpl:p.length<=1000:=by omega
       simp only[Nat.zero_mul,Nat.one_mul,Nat.reduceMul,Nat.add_zero,Nat.add_assoc,Nat.reduceAdd] at c0 c1 c2;clear j7 ra j8 hlen hW E7 HK Y5 hsk hk;go_enter Tryz.func180,Tryz.ntmps180;go_wp2_with fail;refine(ie.out _ hx0).mono ?_;rintro e w1 ⟨rfl,h1⟩;obtain⟨z0,z1,z2,-,-,-⟩:=own3 (h1.blk L5);have lz:=j10 (h1.blk L5);have hx1:=hx0.trans h1;have d0:=hx1.cell c0;have d1:=hx1.cell c1;have d2:=hx1.cell c2;clear L5 h1 hx0 ie c0 c1 c2;go_wp2_with fail;refine(HC.out _ hx1).mono ?_;rintro e w2 ⟨x,rfl,hq,h2⟩;have lg:=j31 hq;obtain⟨Bq,cq,rfl,-,-,-⟩:=q26 hq;have hx2:=hx1.trans h2;have hx3:=(xr w2).alloc (.cells #[.int .i64 1] 3);have hG:(w2.alloc (.cells #[.int .i64 1] 3)).ownsRow w2.heap.size 3 1 (.slice (some ⟨w2.heap.size,0,none⟩) 1 1) ([(1:Int)]).length (([(1:Int)]).map (Value.int .i64)):=World.ownsRow_lit w2 #[.int .i64 1] 1 (Nat.le_refl _) (by decide) rfl;have cf:=lg.ext hx3;clear HC lg hq z0 z1 z2 d0 d1 d2;go_wp2_with (at_builtin;refine y17 _ rfl (.tmp 32) (.tmp 33) 26 rfl w2.heap.size 3 i0 _ 8 Tryz.underlying26 hi hz0 hz1 hz2 (by decide) rfl (ns:= [(1:Int)]) (p:=p) rfl hG (by simp) rfl cf (by simp;omega) ?_)
       intro va wa K9 O8 fw;have yx:Ext w wa:=hx2.trans (hx3.grown O8 (by intro g hg;simp[Value.ownBlock] at hg;omega));have hsz:=hx2.size;have ma:wa.ownsRow w.heap.size 3 1 va ((1:Int)::p).length ((((1:Int)::p)).map (Value.int .i64)):=q32 K9 hsz;have Aq:=hdq ma;clear K9 O8 fw ma;go_wp2_with fail;go_ret2;exact⟨_,rfl,Aq.out,yx⟩
   · have hW:hdW (.mk k n ks)=([],false):=by rw[hdW,if_neg (by rw[ra.out];decide),if_neg (by omega),if_neg (by omega),if_neg (by omega)]
     rw[hW];have t1:(k==5)=false:=beq_eq_false_iff_ne.2 (by omega);have t2:(k==15)=false:=beq_eq_false_iff_ne.2 (by omega);have t3:(k==16)=false:=beq_eq_false_iff_ne.2 (by omega);have t4:(k==9)=false:=beq_eq_false_iff_ne.2 (by omega);have t5:(k==12)=false:=beq_eq_false_iff_ne.2 (by omega);clear j7 ra j8 hW Y5 hsk hk hm;go_enter Tryz.func180,Tryz.ntmps180;go_wp2_with fail;refine(ie.out _ hx0).mono ?_;rintro e w1 ⟨rfl,h1⟩;obtain⟨z0,z1,z2,-,-,-⟩:=own3 (h1.blk L5);have lz:=j10 (h1.blk L5);go_wp2_with fail;go_ret2;exact⟨_,rfl,World.ownsRow_nil _ _ _ _,hx0.trans h1⟩
 · have hb0:(r !=0)=true:=bne_iff_ne.2 h0
   have hW:hdW (.mk k n ks)=([],true):=by rw[hdW,if_pos (by rw[ra.out];exact h0)]
   rw[hW];clear hW ra;go_enter Tryz.func180,Tryz.ntmps180;go_wp2_with fail;refine(ie.out _ hx0).mono ?_;rintro e w1 ⟨rfl,h1⟩;go_wp2_with fail;go_ret2;exact⟨_,rfl,World.ownsRow_nil _ _ _ _,hx0.trans h1⟩
theorem q144(t:Tr)(f:Int)(w:World)(v:Value)(j7:Lies w t v):
 Calls Tryz.prog 120 #[v,.int .i64 f,.func (.func 180) #[] #[]] w fun e w'=> ∃r s,e= .returned (.tuple #[r,.int .i64 s,.int .i64 (hnfV t f).2])/\Made w w' 25 (hnfV t f).1 r/\Ext w w':=by
 have HV:=hdq (fun W (hW:Ext w W)=> y20 t W v (j7.ext hW));have E:hnfV t f=if(valid sigT t && inR f 0 200)=true then hnfC f.toNat t else(q16,3):=rfl
 rw[E];clear E;obtain⟨z,hz⟩: ∃z,valid sigT t=z:=⟨_,rfl⟩;obtain⟨y,hy⟩: ∃y,inR f 0 200=y:=⟨_,rfl⟩;rw[hz] at HV⊢;rw[hy];obtain⟨k,n,ks⟩:=t;obtain⟨A,cap,rfl,hl,hc,hK⟩:=Lies.mk_iff.1 j7;have hx0:=((xr w).alloc (.cells #[.int .i64 k,.int .i64 n,.slice A ks.length cap] 25)).alloc (.cells #[.int .i64 0,.int .i64 0,.slice none 0 0] 25);obtain⟨hb0,hb1,hs2⟩:=blk2 (xr ((w.alloc (.cells #[.int .i64 k,.int .i64 n,.slice A ks.length cap] 25)).alloc (.cells #[.int .i64 0,.int .i64 0,.slice none 0 0] 25)));obtain⟨wS,G6⟩: ∃x,x=(w.alloc (.cells #[.int .i64 k,.int .i64 n,.slice A ks.length cap] 25)).alloc (.cells #[.int .i64 0,.int .i64 0,.slice none 0 0] 25):=⟨_,rfl⟩;rw[<-G6] at hx0 hb0 hb1 hs2;cases z with
 |false=>
  rw[if_neg (by simp)];go_enter Tryz.func120,Tryz.ntmps120;go_wp2_with fail;rw[<-G6];clear G6;refine(HV.out _ hx0).mono ?_;rintro e w1 ⟨rfl,h1⟩;obtain⟨s0,s1,s2,f0,f1,f2⟩:=own3 (h1.blk hb1);go_wp2_with fail;refine bodyPost_ret (v:= .tuple #[.agg #[.int .i64 0,.int .i64 0,.slice none 0 0],.int .i64 0,.int .i64 3]) (by simp[results,Tryz.results120,go_sem,s0,s1,s2]) rfl ⟨_,_,rfl,Made.leaf _ _ _ 0 0, ?_⟩;exact((((hx0.trans h1).setCell (by simp) _).setCell (by simp) _).setCell (by simp) _)
 |true=>
  cases y with
  |false=>
   rw[if_neg (by simp)];go_enter Tryz.func120,Tryz.ntmps120;go_wp2_with fail;rw[<-G6];clear G6;refine(HV.out _ hx0).mono ?_;rintro e w1 ⟨rfl,h1⟩;obtain⟨s0,s1,s2,f0,f1,f2⟩:=own3 (h1.blk hb1);go_wp2_with (go_at_call 62;refine(q23 _ _ _ _).mono ?_;rw[hy];rintro e w3 ⟨rfl,rfl⟩)
   refine bodyPost_ret (v:= .tuple #[.agg #[.int .i64 0,.int .i64 0,.slice none 0 0],.int .i64 0,.int .i64 3]) (by simp[results,Tryz.results120,go_sem,s0,s1,s2]) rfl ⟨_,_,rfl,Made.leaf _ _ _ 0 0, ?_⟩;exact((((hx0.trans h1).setCell (by simp) _).setCell (by simp) _).setCell (by simp) _)
  |true=>
   rw[if_pos (by simp)];obtain⟨pp,hf2⟩:=y39.1 hy;obtain⟨F,rfl⟩:=Int.eq_ofNat_of_zero_le pp;rw[show((F:Int)).toNat=F from by omega];obtain⟨R,hR⟩: ∃R,hnfC F (.mk k n ks)=R:=⟨_,rfl⟩;rw[hR];have HR:=hdq hR;have HY:=hdq hy;have HZ:=hdq hz;have HF:=hdq hf2;clear hy hR hz pp hf2;go_enter Tryz.func120,Tryz.ntmps120;go_wp2_with fail;rw[<-G6];clear G6;refine(HV.out _ hx0).mono ?_;rintro e w1 ⟨rfl,h1⟩;have yq:=h1.blk hb0;have B7:=h1.blk hb1;have hx1:=hx0.trans h1;go_wp2_with (go_at_call 62;refine(q23 _ _ _ _).mono ?_;rw[HY.out];rintro e w3 ⟨rfl,rfl⟩)
   clear HV hx0 hb0 hb1 hs2 h1 j7 HY
   go_loopw [9] (fun i wr=> ∃(j:Nat) (k' n':Int) (kids:List Tr) (A':Option Addr) (c':Nat),j<=F/\i= .int .i64 j/\
    Hid (hnfC (F - j) (.mk k' n' kids)=R)/\Hid (valid sigT (.mk k' n' kids)=true)/\kids.length<=c'/\c'<=maxLen/\InK wr (fun b=> b < wr.heap.size/\(b < w.heap.size\/w.heap.size+2<=b)) A' kids/\
    wr.heap[w.heap.size]? =some (.cells #[.int .i64 k',.int .i64 n',.slice A' kids.length c'] 25 (0,0))/\wr.heap[w.heap.size+1]? =some (.cells #[.int .i64 0,.int .i64 0,.slice none 0 0] 25 (0,0))/\Ext w wr) (fun i _=> F -(intOf i).toNat)
   case atStart=> exact⟨0,k,n,ks,A,cap,Nat.zero_le _,rfl,hdq HR.out,HZ,hl,hc,InK.mono (fun b hb=>⟨Nat.lt_of_lt_of_le hb hx1.size,.inl hb⟩) (fun b hb=> hx1.heap b hb) hK,yq,B7,hx1⟩
   case round=>
    obtain⟨j,k',n',kids,A',c',hj,rfl,HN,oa,K8,L6,hT,hb,F2,hx⟩:=hrel;have hsz:w.heap.size+1 < wr.heap.size:=j10 F2;have hL:Lies wr (.mk k' n' kids) (.agg #[.int .i64 k',.int .i64 n',.slice A' kids.length c']):=Lies.mk K8 L6 (InK.mono (fun b hb=> hb.1) (fun _ _=> rfl) hT);have HO:=q211 (.mk k' n' kids) wr _ 30 (q14 oa.out).2 hL (by decide);have HOW:=hdq (fun W (hW:Ext wr W)=> q57 (.mk k' n' kids) W _ (hL.ext hW) (by have:=(q14 oa.out).1;omega));have qq:=hdq (fun p (hp:hdQ (.mk k' n' kids)=some p) W (hW:Ext wr W) B c (hP:PFs W B p.length c p)=> j49 (.mk k' n' kids) p oa.out (hdQ_at _ p hp) W _ (hL.ext hW) B p.length c hP (by have:=j180 _ 30 (q14 oa.out).2;rw[q78 hp] at this;simp only at this;omega));have gu:=hdq (show∀q,hdQ (.mk k' n' kids)=q->Calls Tryz.prog 180 #[.agg #[.int .i64 k',.int .i64 n',.slice A' kids.length c']] wr fun e w'=> ∃x,e= .returned (.tuple #[x,.bool q.isSome])/\(q.isSome=true->w'.ownsRow wr.heap.size 3 1 x (q.getD []).length ((q.getD []).map (Value.int .i64)))/\Ext wr w' from fun q hq=> by
     refine HO.mono ?_;rintro e w' ⟨x,rfl,h1,h2⟩;cases q with
     |none=> exact⟨x,by rw[q122 hq];rfl,(fun h=> by cases h),h2⟩
     |some p=> exact⟨x,by rw[q78 hq];rfl,(fun _=> by rw[q78 hq] at h1;exact h1),h2⟩)
    clear HO hT hK yq B7 hx1;obtain⟨z0,z1,z2,-,-,-⟩:=own3 hb;obtain⟨q,hq⟩: ∃q,hdQ (.mk k' n' kids)=q:=⟨_,rfl⟩;have gu:=hdq (gu.out q hq);cases q with
    |none=>
     have HE:=hdq (HN.out.symm.trans (j59 hq (F - j)));clear qq hq HN;go_wp2_with fail;refine gu.out.mono ?_;rintro e w2 ⟨x,rfl,-,h2⟩;obtain⟨y0,y1,y2,-,-,-⟩:=own3 (h2.blk hb);clear z0 z1 z2;go_wp2_with fail;refine(HOW.out _ h2).mono ?_;rintro e w3 ⟨r,rfl,hM,h3⟩;obtain⟨b1,b2,b3,b4,b5,rfl⟩:=hM.three';have F8:=h2.trans h3;obtain⟨s0,s1,s2,f0,f1,f2⟩:=own3 (F8.blk F2);have hw4:w.heap.size+2<=w2.heap.size:=by have:=h2.size;omega
     clear y0 y1 y2;go_wp2_with fail;rw[HE.out];refine bodyPost_ret (v:= .tuple #[.agg #[.int .i64 b1,.int .i64 b2,.slice b3 b4 b5],.int .i64 j,.int .i64 0]) (by simp[results,Tryz.results120,go_sem,s0,s1,s2]) rfl ⟨_,_,rfl,Made.since (hM.after ((((y25.refl _ _).setCell (p:=⟨w.heap.size+1,0,none⟩) (by show w.heap.size+1 < _;omega) (.int .i64 b1)).setCell (p:=⟨w.heap.size+1,1,none⟩) (by show w.heap.size+1 < _;omega) (.int .i64 b2)).setCell (p:=⟨w.heap.size+1,2,none⟩) (by show w.heap.size+1 < _;omega) (.slice b3 b4 b5))) (by omega), ?_⟩;exact((((hx.trans F8).setCell (by simp) _).setCell (by simp) _).setCell (by simp) _)
    |some p=>
     have P4:=hdq (qq.out p hq);simp only[Option.isSome_some,Option.getD_some] at gu;have HQ:=hdq hq;clear qq hq HOW;by_cases hjF:j=F
     · have HE:=hdq (HN.out.symm.trans (show hnfC (F - j) (.mk k' n' kids)=(q16,1) by rw[show F - j=0 by omega];exact q99 HQ.out))
       clear P4 HN;subst hjF;go_wp2_with fail;refine gu.out.mono ?_;rintro e w2 ⟨x,rfl,lh,h2⟩;have km:=lh trivial;clear lh;obtain⟨B,c,rfl,hP⟩:=j92 km;obtain⟨s0,s1,s2,f0,f1,f2⟩:=own3 (h2.blk F2);clear z0 z1 z2 km;go_wp2_with fail;rw[HE.out];refine bodyPost_ret (v:= .tuple #[.agg #[.int .i64 0,.int .i64 0,.slice none 0 0],.int .i64 j,.int .i64 1]) (by simp[results,Tryz.results120,go_sem,s0,s1,s2]) rfl ⟨_,_,rfl,Made.leaf _ _ _ 0 0, ?_⟩;exact((((hx.trans h2).setCell (by simp) _).setCell (by simp) _).setCell (by simp) _)
     · have mi:((j:Int)==(F:Int))=false:=beq_eq_false_iff_ne.2 (by omega)
       have my:(j==F)=false:=beq_eq_false_iff_ne.2 hjF;have hlt:j < F:=by omega
       have sq:(j:Int) < 200:=by have:=HF.out;omega
       have hj4:F<=200:=by have:=HF.out;omega
       obtain⟨g,hg⟩: ∃g,F - j=g+1:=⟨F - j - 1,by omega⟩;have hg2:F -(j+1)=g:=by omega
       have hcv:conV (.mk k' n' kids) p=if valid sigT (conA (.mk k' n' kids) p)=true then(conA (.mk k' n' kids) p,true) else(q16,false):=rfl
       have mh:=HN.out;rw[hg] at mh;by_cases ik:valid sigT (conA (.mk k' n' kids) p)=true
       · rw[if_pos ik] at hcv
         rw[j144 HQ.out ik,<-hg2] at mh;rw[hcv] at P4;clear hcv HN hg hg2;generalize conA (.mk k' n' kids) p=X at P4 mh ik;obtain⟨k2,n2,l8⟩:=X;have Tl:=hdq mh;have uf:=hdq ik;clear mh ik;go_wp2_with fail;refine gu.out.mono ?_;rintro e w2 ⟨x,rfl,lh,h2⟩;have km:=lh trivial;clear lh;obtain⟨B,c,rfl,hP⟩:=j92 km;obtain⟨y0,y1,y2,-,-,-⟩:=own3 (h2.blk hb);clear z0 z1 z2 km;go_wp2_with fail;refine(P4.out _ h2 _ _ hP).mono ?_;rintro e w3 ⟨r,rfl,hM,h3⟩;have ep:=From.made hM;obtain⟨A2,c2,rfl,hl2,hc2,hK2⟩:=InT.mk_iff.1 ep;have F8:=(h2.trans h3).trans ((xr w3).alloc (.cells #[.int .i64 k2,.int .i64 n2,.slice A2 l8.length c2] 25));obtain⟨s0,s1,s2,f0,f1,f2⟩:=own3 (F8.blk hb);have Vk:=F8.blk hb;have kr:=F8.blk F2;have hs23:wr.heap.size<=w2.heap.size:=h2.size;have Hh:w2.heap.size<=w3.heap.size:=h3.size;have KEEP:=hdq (fun(a0 a1 a2:Value) (b:Nat) (hb:b < w3.heap.size) (hne:b≠w.heap.size)=>(show((((w3.alloc (.cells #[.int .i64 k2,.int .i64 n2,.slice A2 l8.length c2] 25)).setCell ⟨w.heap.size,0,none⟩ a0).setCell ⟨w.heap.size,1,none⟩ a1).setCell ⟨w.heap.size,2,none⟩ a2).heap[b]? =w3.heap[b]?from by
          rw[Below.heap_setCell _ _ _ _ hne,Below.heap_setCell _ _ _ _ hne,Below.heap_setCell _ _ _ _ hne];exact((xr w3).alloc _).heap b hb))
         clear y0 y1 y2 hb F2 hM ep;go_wp2_with fail
         go_roundw
         case rel=> exact⟨j+1,k2,n2,l8,A2,c2,hlt,by go_num,Tl,uf,hl2,hc2,InK.mono (fun b hb=>⟨by simp;omega,.inr (by omega)⟩) (fun b hb=> KEEP.out _ _ _ b hb.2 (by omega)) hK2,j11 (j11 (j11 Vk 0 _) 1 _) 2 _,q13 (q13 (q13 kr (by simp) _) (by simp) _) (by simp) _,(((hx.trans F8).setCell (by simp) _).setCell (by simp) _).setCell (by simp) _⟩
         case measure=> simp[intOf];omega
       · rw[if_neg ik] at hcv
         rw[q147 HQ.out (Bool.eq_false_iff.2 ik)] at mh;rw[hcv] at P4;have HE:=hdq mh.symm;clear hcv HN hg hg2 ik mh;go_wp2_with fail;refine gu.out.mono ?_;rintro e w2 ⟨x,rfl,lh,h2⟩;have km:=lh trivial;clear lh;obtain⟨B,c,rfl,hP⟩:=j92 km;obtain⟨y0,y1,y2,-,-,-⟩:=own3 (h2.blk hb);clear z0 z1 z2 km;go_wp2_with fail;refine(P4.out _ h2 _ _ hP).mono ?_;rintro e w3 ⟨r,rfl,hM,h3⟩;obtain⟨b1,b2,b3,b4,b5,rfl⟩:=hM.three';have F8:=(h2.trans h3).trans ((xr w3).alloc (.cells #[.int .i64 b1,.int .i64 b2,.slice b3 b4 b5] 25));obtain⟨s0,s1,s2,f0,f1,f2⟩:=own3 (F8.blk F2);clear y0 y1 y2;go_wp2_with fail;rw[HE.out];refine bodyPost_ret (v:= .tuple #[.agg #[.int .i64 0,.int .i64 0,.slice none 0 0],.int .i64 j,.int .i64 2]) (by simp[results,Tryz.results120,go_sem,s0,s1,s2]) rfl ⟨_,_,rfl,Made.leaf _ _ _ 0 0, ?_⟩;exact((((hx.trans F8).setCell (by simp) _).setCell (by simp) _).setCell (by simp) _)
theorem j112(t:Tr)(f:Int)(w:World)(v:Value)(j7:Lies w t v):
 Calls Tryz.prog 146 #[v,.int .i64 f] w fun e w'=> ∃r,e= .returned (.tuple #[r,.int .i64 (hnfV t f).2])/\Made w w' 25 (hnfV t f).1 r/\Ext w w':=by
 have HS:=hdq (fun W (hW:Ext w W)=> q144 t f W v (j7.ext hW));obtain⟨S,hS⟩: ∃S,hnfV t f=S:=⟨_,rfl⟩;rw[hS] at HS⊢;obtain⟨k,n,ks⟩:=t;obtain⟨A,cap,rfl,hl,hc,hK⟩:=Lies.mk_iff.1 j7;clear hS;have hx0:=((xr w).alloc (.cells #[.int .i64 k,.int .i64 n,.slice A ks.length cap] 25)).alloc (.cells #[.int .i64 0,.int .i64 0,.slice none 0 0] 25);obtain⟨hb0,hb1,hs2⟩:=blk2 (xr ((w.alloc (.cells #[.int .i64 k,.int .i64 n,.slice A ks.length cap] 25)).alloc (.cells #[.int .i64 0,.int .i64 0,.slice none 0 0] 25)));obtain⟨wS,G6⟩: ∃x,x=(w.alloc (.cells #[.int .i64 k,.int .i64 n,.slice A ks.length cap] 25)).alloc (.cells #[.int .i64 0,.int .i64 0,.slice none 0 0] 25):=⟨_,rfl⟩;rw[<-G6] at hx0 hb0 hb1 hs2;go_enter Tryz.func146,Tryz.ntmps146;go_wp2_with fail;rw[<-G6];clear G6;refine(HS.out _ hx0).mono ?_;rintro e w3 ⟨r,s,rfl,hM,h3⟩;obtain⟨b1,b2,b3,b4,b5,rfl⟩:=hM.three';have F8:=h3.trans ((xr w3).alloc (.cells #[.int .i64 b1,.int .i64 b2,.slice b3 b4 b5] 25));obtain⟨s0,s1,s2,f0,f1,f2⟩:=own3 (F8.blk hb1);have V7:=hM.ext ((xr w3).alloc (.cells #[.int .i64 b1,.int .i64 b2,.slice b3 b4 b5] 25));have hw4:w.heap.size+2<=wS.heap.size:=by omega
 go_wp2_with fail;refine bodyPost_ret (v:= .tuple #[.agg #[.int .i64 b1,.int .i64 b2,.slice b3 b4 b5],.int .i64 S.2]) (by simp[results,Tryz.results146,go_sem,s0,s1,s2]) rfl ⟨_,rfl,Made.since (V7.after ((((y25.refl _ _).setCell (p:=⟨w.heap.size+1,0,none⟩) (by show w.heap.size+1 < _;omega) (.int .i64 b1)).setCell (p:=⟨w.heap.size+1,1,none⟩) (by show w.heap.size+1 < _;omega) (.int .i64 b2)).setCell (p:=⟨w.heap.size+1,2,none⟩) (by show w.heap.size+1 < _;omega) (.slice b3 b4 b5))) (by omega), ?_⟩;exact((((hx0.trans F8).setCell (by simp) _).setCell (by simp) _).setCell (by simp) _)
theorem y149{t:Tr}{f:Int}(h:valid sigT t=true)(hf:inR f 0 200=true):j138 t f=nrmC f.toNat t:=by
 unfold j138;rw[h,hf]
 rfl
theorem q63(a b:Tr)(f:Int)(w:World)(va vb:Value)(ha:Lies w a va)(hb:Lies w b vb):
 Calls Tryz.prog 18 #[va,vb,.int .i64 f] w fun e w'=> e= .returned (.int .i64 (q84 a b f))/\Ext w w':=by
 have Wx:=hdq (fun W (hW:Ext w W)=> y20 a W va (ha.ext hW));have HVB:=hdq (fun W (hW:Ext w W)=> y20 b W vb (hb.ext hW));have HNA:=hdq (fun W (hW:Ext w W)=> y87 a f W va (ha.ext hW));have HNB:=hdq (fun W (hW:Ext w W)=> y87 b f W vb (hb.ext hW));have HSM:=hdq (fun W (hW:Ext w W)=> q66 a W b va vb (ha.ext hW) (hb.ext hW));have E:q84 a b f=if(valid sigT a &&(valid sigT b && inR f 0 200))=true then(if a=b then 1 else if(nrmC f.toNat a).2=0/\(nrmC f.toNat b).2=0 then(if(nrmC f.toNat a).1=(nrmC f.toNat b).1 then 1 else 2) else 3) else 0:=rfl
 have Vy:=fun(h1:valid sigT a=true) (h2:inR f 0 200=true)=> y149 h1 h2
 have Vq:=fun(h1:valid sigT b=true) (h2:inR f 0 200=true)=> y149 h1 h2
 obtain⟨C,hC⟩: ∃C,q84 a b f=C:=⟨_,rfl⟩;rw[hC] at E⊢;clear hC;obtain⟨za,hza⟩: ∃z,valid sigT a=z:=⟨_,rfl⟩;obtain⟨zb,hzb⟩: ∃z,valid sigT b=z:=⟨_,rfl⟩;obtain⟨y,hy⟩: ∃y,inR f 0 200=y:=⟨_,rfl⟩;obtain⟨q,hq⟩: ∃q,eqTr a b=q:=⟨_,rfl⟩;rw[hza] at Wx E Vy;rw[hzb] at HVB E Vq;rw[hy] at E Vy Vq;rw[hq] at HSM;have hqe:(a=b)↔q=true:=by rw[<-hq];exact q97.symm
 have HY:=hdq hy;have HQ:=hdq hqe;have HE:=hdq E;have HA:=hdq Vy;have HB:=hdq Vq;clear hza hzb hy hq hqe E Vy Vq;obtain⟨k1,n1,Vt⟩:=a;obtain⟨k2,n2,et⟩:=b;obtain⟨A1,c1,rfl,P9,hc1,Q3⟩:=Lies.mk_iff.1 ha;obtain⟨A2,c2,rfl,hl2,hc2,hK2⟩:=Lies.mk_iff.1 hb;have hx0:=((xr w).alloc (.cells #[.int .i64 k1,.int .i64 n1,.slice A1 Vt.length c1] 25)).alloc (.cells #[.int .i64 k2,.int .i64 n2,.slice A2 et.length c2] 25);obtain⟨hb0,hb1,hs2⟩:=blk2 (xr ((w.alloc (.cells #[.int .i64 k1,.int .i64 n1,.slice A1 Vt.length c1] 25)).alloc (.cells #[.int .i64 k2,.int .i64 n2,.slice A2 et.length c2] 25)));obtain⟨wS,G6⟩: ∃x,x=(w.alloc (.cells #[.int .i64 k1,.int .i64 n1,.slice A1 Vt.length c1] 25)).alloc (.cells #[.int .i64 k2,.int .i64 n2,.slice A2 et.length c2] 25):=⟨_,rfl⟩;rw[<-G6] at hx0 hb0 hb1 hs2;go_enter Tryz.func18,Tryz.ntmps18;go_wp2_with fail;rw[<-G6];clear G6;refine(Wx.out _ hx0).mono ?_;rintro e w1 ⟨rfl,e1⟩;have hx1:=hx0.trans e1;cases za with
 |false=>
  have hr:C=0:=by rw[HE.out];rfl
  have HR:=hdq hr;clear hr;go_wp2_with fail;go_ret;exact⟨by rw[HR.out];rfl,hx1⟩
 |true=>
  obtain⟨p0,p1,p2,-⟩:=own3 (e1.blk hb1);go_wp2_with fail;refine(HVB.out _ hx1).mono ?_;rintro e w2 ⟨rfl,e2⟩;have hx2:=hx1.trans e2;clear p0 p1 p2;cases zb with
  |false=>
   have hr:C=0:=by rw[HE.out];rfl
   have HR:=hdq hr;clear hr;go_wp2_with fail;go_ret;exact⟨by rw[HR.out];rfl,hx2⟩
  |true=>
   go_wp2_with fail;refine(q23 f 0 200 w2).mono ?_;rintro e w3 ⟨rfl,rfl⟩;rw[HY.out];cases y with
   |false=>
    have hr:C=0:=by rw[HE.out];rfl
    have HR:=hdq hr;clear hr;go_wp2_with fail;go_ret;exact⟨by rw[HR.out];rfl,hx2⟩
   |true=>
    have ha1:=HA.out (by simp) (by simp);have hb2:=HB.out (by simp) (by simp);rw[ha1] at HNA;rw[hb2] at HNB;have C6:=HE.out;rw[Bool.and_self,Bool.and_self,if_pos rfl] at C6;have HE1:=hdq C6;clear ha1 hb2 C6 HE;obtain⟨q0,q1,q2,-⟩:=own3 ((e1.trans e2).blk hb0);obtain⟨p0,p1,p2,-⟩:=own3 ((e1.trans e2).blk hb1);go_wp2_with fail;refine(HSM.out _ hx2).mono ?_;rintro e w3 ⟨rfl,e3⟩;have hx3:=hx2.trans e3;clear q0 q1 q2 p0 p1 p2;cases q with
    |true=>
     have hr:C=1:=by rw[HE1.out,if_pos (HQ.out.2 rfl)]
     have HR:=hdq hr;clear hr;go_wp2_with fail;go_ret;exact⟨by rw[HR.out];rfl,hx3⟩
    |false=>
     have M5:=HE1.out;rw[if_neg (fun h=> by have:=HQ.out.1 h;cases this)] at M5;obtain⟨S1,hS1⟩: ∃S,nrmC f.toNat (.mk k1 n1 Vt)=S:=⟨_,rfl⟩;obtain⟨S2,Ul⟩: ∃S,nrmC f.toNat (.mk k2 n2 et)=S:=⟨_,rfl⟩;rw[hS1] at HNA M5;rw[Ul] at HNB M5;obtain⟨⟨k3,n3,dw⟩,s1⟩:=S1;obtain⟨⟨k4,n4,Ma⟩,s2⟩:=S2;have Qw:=hdq M5;clear hS1 Ul M5;have eb:=(e1.trans e2).trans e3;obtain⟨q0,q1,q2,-⟩:=own3 (eb.blk hb0);go_wp2_with fail;refine(HNA.out _ hx3).mono ?_;rintro e w4 ⟨r,rfl,Nw,e4⟩;have hL3:=Nw.lies;obtain⟨A3,c3,rfl,Cb,hc3,hK3⟩:=Lies.mk_iff.1 hL3;obtain⟨w5,B8⟩: ∃x,x=w4.alloc (.cells #[.int .i64 k3,.int .i64 n3,.slice A3 dw.length c3] 25):=⟨_,rfl⟩;have e5:Ext w4 w5:=B8▸(xr w4).alloc _;have R6:w5.heap[w4.heap.size]? =some (.cells #[.int .i64 k3,.int .i64 n3,.slice A3 dw.length c3] 25 (0,0)):=B8▸heap_alloc_new w4 _;obtain⟨p0,p1,p2,-⟩:=own3 (((eb.trans e4).trans e5).blk hb1);have hs5:w4.heap.size < w5.heap.size:=j10 R6;have Z5:=(hx3.trans e4).trans e5;have p04:=own3 ((eb.trans e4).blk hb1);obtain⟨r0,r1,r2,-⟩:=p04;have lz1:=j10 ((eb.trans e4).blk hb1);clear q0 q1 q2 Nw;go_wp2_with fail;rw[<-B8];clear B8 r0 r1 r2;refine(HNB.out _ Z5).mono ?_;rintro e w6 ⟨r,rfl,Fj,e6⟩;have hL4:=Fj.lies;obtain⟨A4,c4,rfl,hl4,hc4,hK4⟩:=Lies.mk_iff.1 hL4;obtain⟨w7,F7⟩: ∃x,x=w6.alloc (.cells #[.int .i64 k4,.int .i64 n4,.slice A4 Ma.length c4] 25):=⟨_,rfl⟩;have e7:Ext w6 w7:=F7▸(xr w6).alloc _;have Vk:w7.heap[w6.heap.size]? =some (.cells #[.int .i64 k4,.int .i64 n4,.slice A4 Ma.length c4] 25 (0,0)):=F7▸heap_alloc_new w6 _;have un:=(Z5.trans e6).trans e7;clear p0 p1 p2 Fj;by_cases h1:s1=0
     · subst h1
       by_cases h2:s2=0
       · subst h2
         obtain⟨d0,d1,d2,-⟩:=own3 (e6.blk R6);have lz2:=j10 (e6.blk R6);have Kb:=hdq (q66 (.mk k3 n3 dw) w7 (.mk k4 n4 Ma) _ _ (((hL3.ext e5).ext e6).ext e7) (hL4.ext e7));obtain⟨q2,Xl⟩: ∃q,eqTr (.mk k3 n3 dw) (.mk k4 n4 Ma)=q:=⟨_,rfl⟩;have hr:C=if q2=true then 1 else 2:=by
          rw[Qw.out,if_pos ⟨rfl,rfl⟩,<-Xl];by_cases he:Tr.mk k3 n3 dw=Tr.mk k4 n4 Ma
          · rw[if_pos he,if_pos (q97.2 he)]
          · rw[if_neg he,if_neg (fun h=> he (q97.1 h))]
         rw[Xl] at Kb;have HR:=hdq hr;clear hr Xl;go_wp2_with fail;rw[<-F7];clear F7;refine Kb.out.mono ?_;rintro e w8 ⟨rfl,e8⟩;cases q2
         all_goals(
          go_wp2_with fail;go_ret;exact⟨by rw[HR.out];rfl,un.trans e8⟩)
       · have hr:C=3:=by rw[Qw.out,if_neg (fun h=> h2 h.2)]
         have hb:(s2 !=0)=true:=by simpa using h2
         have HR:=hdq hr;clear hr;go_wp2_with fail;rw[<-F7];go_ret;exact⟨by rw[HR.out];rfl,un⟩
     · have hr:C=3:=by rw[Qw.out,if_neg (fun h=> h1 h.1)]
       have hb:(s1 !=0)=true:=by simpa using h1
       have HR:=hdq hr;clear hr;go_wp2_with fail;rw[<-F7];go_ret;exact⟨by rw[HR.out];rfl,un⟩
end Go.Proofs.YtbnkbepgmenblaaGreat
