/-
  Lemmas towards the law, 24: MNb, MInj, L3Step.
-/
import Derived.Test.YtckhbnmfnpolgaaGreatBAW
open Go renaming heap_alloc_new->aR,bodyPost_ret->aO,results->aQ
open Go.Proofs.Tryz
set_option linter.unusedVariables false
set_option maxHeartbeats 4000000
set_option maxRecDepth 100000
namespace Go.Proofs.YtckhbnmfnpolgaaGreat
open Go.RowKit
open M (Hd HR Cv Ty M2 zc y6 W4)
def Nb(x:An):Prop:= ∀s c,x=some (s,c)->c=0\/c=2
theorem Nb.thn{x:An}{f:Tr->An}(h:Nb x)(k: ∀s,x=some (s,0)->Nb (f s)):Nb (thn x f):=by
 intro s c e;rcases Vp e with⟨u,a,b⟩ |⟨u,g,a,b,d⟩
 · exact k u a s c b
 · simp only[Prod.mk.injEq] at d
   obtain⟨-,rfl⟩:=d;exact h u _ a
theorem Nb.one{y:Tr×Int}(h:y.2=0\/y.2=2):Nb (some y):=by
 intro s c e;simp only[Option.some.injEq] at e;subst e;exact h
theorem Nb.ok(u:Tr):Nb (some (u,0)):=Nb.one (.inl rfl)
theorem Nb.mk(t:Tr):Nb (some (mkV t)):=Nb.one (by unfold mkV;split <;> simp)
theorem Nb.shp{F c:M.Tm}{kind:Int}(r:HR F c)(hc:M.hk c≠0)(hk:(enc c).kind=kind):Nb (some (d4 (enc F) kind)):=by
 refine Nb.one ?_;unfold d4
 split
 · simp
 · rename_i a
   have b:d7 (enc F) 200=((d7 (enc F) 200).1,0):=by
    have f:(d7 (enc F) 200).2=0:=by simpa using a
    rw[<-f]
   obtain⟨B,e,d,hs,-⟩:=Vg b;rw[Mo d hs r hc] at e;rw[e,if_neg (by rw[hk];simp)];simp
theorem Nb.frm{x:An}{kind:Int}(h:Nb x)(k: ∀s,x=some (s,0)-> ∃F c,s=enc F/\HR F c/\M.hk c≠0/\(enc c).kind=kind):Nb (V0 x kind):=
 h.thn fun s e=> by
  obtain⟨F,c,rfl,r,hc,hk⟩:=k s e;exact Nb.shp r hc hk
theorem Nb.chk{x y:An}{W:M.Tm}(h:Nb x)(k: ∀s,x=some (s,0)-> ∃X,s=enc X/\Cv X W)(b:Nb y):Nb (P3 x (enc W) y):=
 h.thn fun s e=> by
  obtain⟨X,rfl,c⟩:=k s e
  split
  · exact b
  · rename_i a
    exact Nb.one (.inr ((Ri c).resolve_left a))
theorem Nb.fam{x y:An}{T:M.Tm}(h:Nb x)(k: ∀s,x=some (s,0)-> ∃F C D j,s=enc F/\HR F (.pi C D)/\Cv C T/\HR D (.sort j))(f:Nb y):Nb (da x (enc T) y):=by
 have c:Nb (V0 x 3):=h.frm fun s e=> by
  obtain⟨F,C,D,j,rfl,r,-,-⟩:=k s e;exact⟨F,.pi C D,rfl,r,by simp[M.hk],rfl⟩
 refine c.thn fun s e=> ?_
 obtain⟨u,g,i,m⟩:=Ng e;obtain⟨F,C,D,j,rfl,r,b,l⟩:=k u g;obtain⟨B,rfl,d,hs,-⟩:=Vg i;obtain rfl:=Mo d hs r (by simp[M.hk])
 split
 · exact(Nb.shp (F:=D) l (by simp[M.hk]) rfl).thn fun _ _=> f
 · rename_i a
   exact Nb.one (.inr ((Ri (A:=C) b).resolve_left a))
theorem Ig{f:Nat}{G:List M.Tm}{t A:M.Tm}{s:Tr}(hG:X6 G)(hv:j0 m0 (enc t)=true)(h:Ty G t A)(e:N0 f (ctxE G) (enc t)=some (s,0)):s=enc A/\j0 m0 (enc A)=true:=by
 obtain⟨B,rfl,a,-,v⟩:=snd f G t s hG hv e;obtain rfl:=a.det h;exact⟨rfl,v⟩
theorem Vs{f:Nat}{G:List M.Tm}{k:Int}{A t:M.Tm}(hk:E4 k 1=1)(h:Nb (N0 f (ctxE (A::G)) (enc t))):Nb (ga (N0 f) (ctxE G) k [enc A,enc t] 1):=by
 rw[tm _ _ hk]
 split
 · exact Nb.one (.inr rfl)
 · rw[show ctxE G++ [kd [enc A,enc t] 0]=ctxE (A::G) from(md A G).symm]
   exact h
theorem cB{f:Nat}{G:List M.Tm}{k:Int}{A t:M.Tm}{s:Tr}(hk:E4 k 1=1)(h:ga (N0 f) (ctxE G) k [enc A,enc t] 1=some (s,0)):N0 f (ctxE (A::G)) (enc t)=some (s,0):=by
 have:=(Yq hk h).2
 rwa [show ctxE G++ [kd [enc A,enc t] 0]=ctxE (A::G) from(md A G).symm] at this
theorem Ml: ∀(f:Nat) (G:List M.Tm) (t A:M.Tm),X6 G->j0 m0 (enc t)=true->Ty G t A->M2 G t->Nb (N0 f (ctxE G) (enc t))
 |0,G,t,A,hG,hv,h,hl=> by intro s c e;cases e
 |f+1,G,t,A,hG,hv,h,hl=> by
  have ih:=Ml f G;have x:=Ml f;have H: ∀{X S:M.Tm} {i:Nat},Ty G X S->HR S (.sort i)->M2 G X->y6 G X:=fun{X S i} d l m=>⟨m,i,M.lev_le (M2.type d hG.wf m) l,S,d,l⟩
  have lev: ∀{X S:M.Tm} {i:Nat},j0 m0 (enc X)=true->Ty G X S->HR S (.sort i)->M2 G X->Nb (V0 (N0 f (ctxE G) (enc X)) 2):=fun{X S i} v d l m=>
   (ih X S hG v d m).frm fun s e=>⟨S,.sort i,(Ig hG v d e).1,l,by simp[M.hk],rfl⟩
  have chk: ∀{X S W:M.Tm} {y:An},j0 m0 (enc X)=true->Ty G X S->Cv S W->M2 G X->Nb y->Nb (P3 (N0 f (ctxE G) (enc X)) (enc W) y):=fun{X S W y} v d l m Q=>
   (ih X S hG v d m).chk (fun s e=>⟨S,(Ig hG v d e).1,l⟩) Q
  have fam: ∀{X F C D T:M.Tm} {j:Nat} {y:An},j0 m0 (enc X)=true->Ty G X F->HR F (.pi C D)->Cv C T->HR D (.sort j)->M2 G X->Nb y->Nb (da (N0 f (ctxE G) (enc X)) (enc T) y):=fun{X F C D T j y} v d l m q u Q=>
   (ih X F hG v d u).fam (fun s e=>⟨F,C,D,j,(Ig hG v d e).1,l,m,q⟩) Q
  cases h with
  | @var _ n A h=>
   have hn:=M.lk_lt h
   show Nb (some (Xg (ctxE G) (n:Int)))
   rw[xz hn];exact Nb.mk _
  | @sort _ n=>
   have hn:n < 3:=hl;have e:N0 (f+1) (ctxE G) (enc (.sort n))=some (if(n:Int)=3 then(E2,(1:Int)) else(m6 ((n:Int)+1),0)):=by simp[enc,N0,Vb]
   rw[e,if_neg (by omega)];exact Nb.ok _
  |nat=> exact Nb.ok (m6 0)
  |zero=> exact Nb.ok i5
  | @succ _ a X d l=> exact chk (W:= .nat) (Z0 hv (by simp)) d l hl (Nb.ok i5)
  | @pi _ A B S J i k d l m q=>
   have r:=hG.cons (H d l hl.1) (Z0 hv (by simp));exact(lev (Z0 hv (by simp)) d l hl.1).thn fun s _=>((Vs rfl (x _ B J r (Z0 hv (by simp)) m hl.2)).frm fun s e=>⟨J,.sort k,(Ig r (Z0 hv (by simp)) m (cB rfl e)).1,q,by simp[M.hk],rfl⟩).thn fun _ _=> Nb.ok _
  | @sg _ A B S J i k d l m q=>
   have r:=hG.cons (H d l hl.1) (Z0 hv (by simp));exact(lev (Z0 hv (by simp)) d l hl.1).thn fun s _=>((Vs rfl (x _ B J r (Z0 hv (by simp)) m hl.2)).frm fun s e=>⟨J,.sort k,(Ig r (Z0 hv (by simp)) m (cB rfl e)).1,q,by simp[M.hk],rfl⟩).thn fun _ _=> Nb.ok _
  | @lam _ A t B S i d l m=>
   have bA:=H d l hl.1;have r:=hG.cons bA (Z0 hv (by simp));refine(lev (Z0 hv (by simp)) d l hl.1).thn fun s _=>(Vs rfl (x _ t B r (Z0 hv (by simp)) m hl.2.1)).thn fun b e=> ?_
   obtain⟨rfl,vB⟩:=Ig r (Z0 hv (by simp)) m (cB rfl e);refine(Nb.mk (.mk 3 0 [enc A,enc B])).thn fun o eo=> ?_
   obtain⟨v,rfl⟩:=Tf eo;obtain⟨k,lk⟩:=m.corr r.wf.wf;have hk:=hl.2.2 B k m lk;have lB:M2 (A::G) B:=by
    rcases M2.type m r.wf hl.2.1 with rfl|b
    · have:=lk.det (W4.sort _ 3)
      omega
    · exact b.1
   obtain⟨J,k1,O⟩:=lk;exact(ih (.pi A B) _ hG v (.pi d l k1 O) ⟨hl.1,lB⟩).thn fun _ _=> Nb.ok _
  | @app _ g a F X C R d l m q=>
   refine((ih g F hG (Z0 hv (by simp)) d hl.1).frm fun s e=>⟨F,.pi C R,(Ig hG (Z0 hv (by simp)) d e).1,l,by simp[M.hk],rfl⟩).thn fun s e=> ?_
   obtain⟨F',C',R',rfl,tF,rF,-,-,-⟩:=vi (snd f) hG (Z0 hv (by simp)) e;obtain rfl:=tF.det d;obtain⟨rfl,rfl⟩:=rF.pi_det l;exact chk (W:=C') (Z0 hv (by simp)) m q hl.2 (Nb.mk _)
  | @elim _ p z s a F Z S X C D k d l m q u K L N h9 V=>
   refine fam (T:= .nat) (Z0 hv (by simp)) d l m q hl.1 ((Nb.mk (.mk 5 0 [enc p,.mk 7 0 []])).thn fun w I=> ?_);obtain⟨v,rfl⟩:=Tf I;refine chk (W:= .app p .zero) (Z0 hv (by simp)) u K hl.2.1 ((Nb.mk (Wb (enc p))).thn fun w I=> ?_);obtain⟨v,rfl⟩:=Tf I;rw[Up];exact chk (Z0 hv (by simp)) L N hl.2.2.1 (chk (W:= .nat) (Z0 hv (by simp)) h9 V hl.2.2.2 (Nb.mk _))
  | @id _ T a b S X Y i d l m q u K=>
   exact(lev (Z0 hv (by simp)) d l hl.1).thn fun s _=> chk (Z0 hv (by simp)) m q hl.2.1 (chk (Z0 hv (by simp)) u K hl.2.2 (Nb.ok _))
  | @refl _ a X d=>
   refine(ih a X hG (Z0 hv (by simp)) d hl.1).thn fun s e=> ?_
   obtain⟨rfl,vX⟩:=Ig hG (Z0 hv (by simp)) d e;obtain⟨k,lk⟩:=d.corr hG.wf.wf;have hk:=hl.2 X k d lk;have lX:M2 G X:=by
    rcases M2.type d hG.wf hl.1 with rfl|b
    · have:=lk.det (W4.sort _ 3)
      omega
    · exact b.1
   obtain⟨J,k1,O⟩:=lk;exact(lev vX k1 O lX).thn fun _ _=> Nb.mk _
  | @move _ p e a E T b c F T' D k X d l m q u K L N=>
   refine((ih e E hG (Z0 hv (by simp)) d hl.2.1).frm fun s P=>⟨E,.id T b c,(Ig hG (Z0 hv (by simp)) d P).1,l,by simp[M.hk],rfl⟩).thn fun s P=> ?_
   obtain⟨E',U,b',c',rfl,tE,rE,-,-,-,-⟩:=ym (snd f) hG (Z0 hv (by simp)) P;obtain rfl:=tE.det d;obtain⟨rfl,rfl,rfl⟩:=rE.id_det l;refine fam (T:=U) (Z0 hv (by simp)) m q u K hl.1 ((Nb.mk (.mk 5 0 [enc p,enc b'])).thn fun w I=> ?_);obtain⟨v,rfl⟩:=Tf I;exact chk (W:= .app p b') (Z0 hv (by simp)) L N hl.2.2 (Nb.mk _)
  | @pair _ T a b S i C D X Y d l m q u K L=>
   refine(lev (Z0 hv (by simp)) d l hl.1).thn fun s _=>(Nb.shp (F:=A) m (by simp[M.hk]) rfl).thn fun s e=> ?_
   have e1:d4 (enc A) 13=(s,0):=Option.some.inj e;obtain⟨e2,e3⟩:=bw (t:=enc A) (kind:=13) (by rw[e1]);rw[e1] at e2 e3;obtain⟨B,rfl,rB,hs,-⟩:=Vg e2;obtain rfl:=Mo rB hs m (by simp[M.hk]);refine chk (W:=C) (Z0 hv (by simp)) q u hl.2.1 ((Nb.mk _).thn fun w I=> ?_);obtain⟨v,rfl⟩:=Tf I;rw[show Q0 (kd [enc A,enc a,enc b] 1) (kd (enc (.sg C D)).kids 1) 0 0=enc (D.inst a) from xo D a];exact chk (Z0 hv (by simp)) K L hl.2.2 (Nb.ok _)
  | @fst _ a X C D d l=> exact((ih a X hG (Z0 hv (by simp)) d hl).frm fun s e=>⟨X,.sg A D,(Ig hG (Z0 hv (by simp)) d e).1,l,by simp[M.hk],rfl⟩).thn fun _ _=> Nb.ok _
  | @snd _ a X C D d l=> exact((ih a X hG (Z0 hv (by simp)) d hl).frm fun s e=>⟨X,.sg C D,(Ig hG (Z0 hv (by simp)) d e).1,l,by simp[M.hk],rfl⟩).thn fun _ _=> Nb.mk _
end Go.Proofs.YtckhbnmfnpolgaaGreat
namespace Go.Proofs.YtckhbnmfnpolgaaGreat
theorem xt{G D:List M.Tm}(h:ctxE G=ctxE D):G=D:=by
 unfold ctxE at h;have h:=List.reverse_inj.1 h
 induction G generalizing D with
 |nil=> cases D with
  |nil=> rfl
  |cons a D=> cases h
 |cons a G ih=> cases D with
  |nil=> cases h
  |cons b D=>
   simp only[List.map_cons,List.cons.injEq] at h;rw[be h.1,ih (by rw[h.2]) h.2]
end Go.Proofs.YtckhbnmfnpolgaaGreat
namespace Go.Proofs.YtckhbnmfnpolgaaGreat
open Go.RowKit
attribute [local go_sem ↓] Go.wp_at_zero Go.wp_at_succ
def Ud(t:Tr):Tr×Bool:=match outT t with
 |none=>(t,false)
 |some p=>(conA t p,true)
theorem Jn{a:List Tr}{j:Nat}(h:j < a.length):kd a j=a[j]:=by unfold kd;rw[List.getD_eq_getElem?_getD,List.getElem?_eq_getElem h];rfl
theorem BE{a:List Tr}{j:Nat}(h:j < a.length):pc j (a.drop j)=match outT (kd a j) with
 |some p=> some ((j:Int)::p)
 |none=> pc (j+1) (a.drop (j+1)):=by
 rw[List.drop_eq_getElem_cons h,pc,Jn h];cases outT a[j] <;> rfl
theorem fI{a:List Tr}{j:Nat}(h:a.length<=j):pc j (a.drop j)=none:=by
 rw[List.drop_of_length_le h,pc]
theorem iy{k n:Int}{a:List Tr}{t:Tr}(h:j0 m0 (.mk k n a)=true)(hm:t∈a):j0 m0 t=true:=by
 obtain⟨b,c⟩:=Z3 h;have d:=(Z4 b).2.2.2 t hm;unfold j0;rw[Ow d (by omega),Bool.true_and,decide_eq_true_eq];have:=L9 hm;simp only[cnt] at c;omega
def fA(N:Nat->Prop)(w:World)(o:Tr×Bool)(e:Ending)(a:World):Prop:= ∃r,e= .returned (.tuple #[r,.bool o.2])/\InT a N o.1 r/\Ext w a
def jE(t:Tr):Prop:=j0 m0 t=true-> ∀(w:World) (N:Nat->Prop) (v:Value),(∀b,w.heap.size<=b->N b)->InT w N t v->Calls prog 152 #[v,.bool false] w (fA N w (Ud t))
theorem kE: ∀t:Tr,jE t:=Tr.ind fun k n c ih=> by
 intro hv F N v hN Z;obtain⟨R,J⟩: ∃R,Ud (.mk k n c)=R:=⟨_,rfl⟩;rw[J];obtain⟨hsh,C7⟩:=Z3 hv;have K:=Z.lies';have N5:=hdq Z;have P:=hdq (fun W (hx:Ext F W)=> mq (.mk k n c) 30 hsh W v (K.ext hx));have lx:U3 (.mk k n c)=rdx k c:=rfl;rw[lx] at P;obtain⟨A,cap,rfl,hl,hc,hK⟩:=InT.mk_iff.1 Z;have hcc:=hc;unfold maxLen at hcc;have hlc:=kf c;simp only[cnt] at C7;obtain⟨w1,Q⟩: ∃x,x=((F.alloc (.cells #[.int .i64 k,.int .i64 n,.slice A c.length cap] 25)).alloc (.cells #[.int .i64 0,.int .i64 0,.slice none 0 0] 25)):=⟨_,rfl⟩;obtain⟨B,z,s1,D⟩:=box2 Q;obtain⟨M,U⟩: ∃M,M=(fun b=> N b/\b≠F.heap.size+1):=⟨_,rfl⟩;have yt: ∀b,w1.heap.size<=b->M b:=by rw[U];exact Oa hN D.size (by omega)
 have Bd:InK w1 M A c:=by rw[U];exact hK.keep D (Nat.le_succ _)
 have P5:=hdq yt;have vh:=hdq Bd;have HM:=hdq U;clear U yt Bd hK Z lx;by_cases hr:rdx k c=0
 · have d:outT (.mk k n c)=pc 0 c:=by rw[outT,if_pos hr]
   have hk:=fun t (ht:t∈c)=> ih t ht (iy hv ht)
   have Kf:=hdq hk;have Jh:=hdq d;have U8:=hdq J;have Iu:=hdq K;rw[hr] at P;clear ih hk d J hv hr K hsh;go_enter func152,ntmps152;go_wp2_with fail;rw[<-Q];clear Q;refine(P.out _ D).mono ?_;rintro e w2 ⟨rfl,s⟩;have s2:=s.size;have u:=s;have w:=cb3 (u.blk B);have g:=Z9 (u.blk z);go_wp2_with fail;clear w g
   go_loopw [6] (fun i wr=> ∃j:Nat,j<=c.length/\i= .int .i64 j/\Ext w2 wr/\Hid (outT (.mk k n c)=pc j (c.drop j))) (fun i _=> c.length -(intOf i).toNat)
   case atStart=> exact⟨0,Nat.zero_le _,rfl,xr _,hdq (by rw[Jh.out];rfl)⟩
   case round=>
    obtain⟨j,hj,rfl,l,HJ⟩:=hrel;generalize wr=w3 at l;have s3:=l.size;by_cases f:j < c.length
    · have uv:(j:Int) <(c.length:Int):=by omega
      have m:=u.trans l;obtain⟨b,o,E,H,A1,p1,j15,rfl,D6,c0,c1,c2,l1,m1,K9,p5,j9,qm⟩:=(vh.out.later m).get (fun _ _=> rfl) f;have HI:=hdq (Kf.out _ j9 w3 M _ (fun b y=> P5.out b (Nat.le_trans m.size y)) p5);obtain⟨⟨X,ok⟩,hT⟩: ∃x,Ud (.mk E H j15)=x:=⟨_,rfl⟩;rw[hT] at HI;have HT:=hdq hT;have yi:IntKind.i64.wrap ((j:Int)+1)=(j:Int)+1:=IntWalk.i64_in _ ⟨by omega,by omega⟩;clear hT K9 p5;have w:=cb3 (m.blk B);have g:=Z9 (m.blk z);go_wp2_with fail;clear w g;refine(HI.out).mono ?_;rintro e L ⟨r,rfl,tq,Y⟩;have s4:=Y.size;obtain⟨a1,a2,a3,a4,a5,rfl⟩:=tq.three;have rh:=hdq tq;clear tq;have a:=HJ.out.trans (BE f);rw[Jn f,D6.out] at a;cases ok with
      |false=>
       have T5:=l;have pg:=T5.trans Y;have hn:outT (.mk E H j15)=none:=by
        have:=HT.out;unfold Ud at this;cases V:outT (.mk E H j15) with
        |none=> rfl
        |some p=> rw[V] at this;simp at this
       rw[hn] at a;have HST:=hdq a;clear a hn;go_wp2_with fail
       go_roundw
       case rel=> exact⟨j+1,by omega,by go_num,pg.alloc _,HST⟩
       case measure=> simp[intOf];omega
      |true=>
       obtain⟨p,hp,Ir⟩: ∃p,outT (.mk E H j15)=some p/\conA (.mk E H j15) p=X:=by
        have:=HT.out;unfold Ud at this;cases V:outT (.mk E H j15) with
        |none=> rw[V] at this;simp at this
        |some p=> rw[V] at this;simp only[Prod.mk.injEq,and_true] at this;exact⟨p,rfl,this⟩
       rw[hp] at a;have Jl:=pp _ p hp;rw[<-D6.out,<-Jn f] at Jl Ir;have C:R=(.mk k n (c.set j X),true):=by
        rw[<-U8.out];unfold Ud;rw[a];simp only;rw[pu f Jl,Ir]
       have HF:=hdq C;clear a C Jl Ir hp yi;have o9:=m.trans Y;have w:=cb3 (o9.blk B);have g:=Z9 (o9.blk z);obtain⟨w5,p6⟩: ∃x,x=L.alloc (.cells #[.int .i64 a1,.int .i64 a2,.slice a3 a4 a5] 25):=⟨_,rfl⟩;have e5:Ext L w5:=p6▸(xr L).alloc _;have dh:=aR L (.cells #[.int .i64 a1,.int .i64 a2,.slice a3 a4 a5] 25);rw[<-p6] at dh;have s5:L.heap.size < w5.heap.size:=O1 dh;go_wp2_with fail;rw[<-p6];clear p6;clear w g;have O:=D;have I:=O.trans s;have G:=I.trans l;have q9:=G.trans Y;have J7:=q9.trans e5;have S8:=e5;refine(zG k n c X j (fun b=> M b/\b < w5.heap.size) w5 _ _ (Iu.out.ext J7) (fun b y=> y.2) ((rh.out.later S8).bound) f (by simp only[cnt];omega)).mono ?_;rintro e w6 ⟨r,rfl,Bu,S⟩;have s6:=S.size;have E0:=o9.trans e5;have qx:InT w6 M (.mk k n (c.set j X)) r:=InT.mono (fun b y=> by
        rcases y with y|y
        · exact y.1
        · exact P5.out b (by have:=E0.size;omega)) (fun _ _=> rfl) Bu
       obtain⟨u1,u2,u3,u4,u5,rfl⟩:=qx.three;have Jx:=hdq qx;clear Bu qx;have ar:=E0.trans S;have w:=cb3 (ar.blk B);have g:=Z9 (ar.blk z);have cr:=S;have Zx:=cb3 (cr.blk dh);have eh:=J7.trans S;go_wp2_with fail;rw[HF.out];refine aO (v:= .tuple #[.agg #[.int .i64 u1,.int .i64 u2,.slice u3 u4 u5],.bool true]) (by simp[aQ,results152,go_sem,g]) rfl ⟨_,rfl,InT.ret (HM.out▸Jx.out) _ _ _,(eh.set3 (by omega) _ _ _)⟩
    · have d:outT (.mk k n c)=none:=HJ.out.trans (fI (by omega))
      have C:R=(.mk k n c,false):=by
       rw[<-U8.out];unfold Ud;rw[d]
      have HF:=hdq C;clear d C;have Kp:=s.blk B;have Fh:=s.blk z;have bt_3:=l.blk Kp;have br_3:=l.blk Fh;have O:=D;have I:=O.trans s;have G:=I.trans l;have u:=s;have m:=u.trans l;have w:=cb3 (m.blk B);have g:=Z9 (m.blk z);go_wp2_with fail;rw[HF.out];refine aO (v:= .tuple #[.agg #[.int .i64 k,.int .i64 n,.slice A c.length cap],.bool false]) (by simp[aQ,results152,go_sem,g]) rfl ⟨_,rfl,InT.ret (InT.keep N5.out G (show F.heap.size<=F.heap.size+1 from Nat.le_succ _)) _ _ _,(G.set3 (by omega) _ _ _)⟩
 · have hz:(rdx k c !=0)=true:=by simp[hr]
   have C:R=(ctrT (.mk k n c),true):=by
    rw[<-J];unfold Ud;rw[outT,if_neg hr];simp only;rw[jt]
   have HC:=hdq (fun W (hx:Ext F W)=> YI (.mk k n c) hv (zv.2 hr) W _ (K.ext hx));rw[C];generalize rdx k c=q at P hz;generalize ctrT (.mk k n c)=T at HC⊢;clear ih J hv hr K hsh C;go_enter func152,ntmps152;go_wp2_with fail;rw[<-Q];clear Q;refine(P.out _ D).mono ?_;rintro e w2 ⟨rfl,s⟩;have s2:=s.size;have u:=s;have w:=cb3 (u.blk B);have g:=Z9 (u.blk z);go_wp2_with fail;clear w g;have O:=D;have I:=O.trans s;refine(HC.out _ I).mono ?_;rintro e w3 ⟨r,rfl,hT,l⟩;have s3:=l.size;have ko:InT w3 M T r:=InT.mono (fun b y=> P5.out b (by have:=u.size;omega)) (fun _ _=> rfl) hT;obtain⟨u1,u2,u3,u4,u5,rfl⟩:=ko.three;have Kb:=hdq ko;clear hT ko;have m:=u.trans l;have w:=cb3 (m.blk B);have g:=Z9 (m.blk z);have G:=I.trans l;go_wp2_with fail;refine aO (v:= .tuple #[.agg #[.int .i64 u1,.int .i64 u2,.slice u3 u4 u5],.bool true]) (by simp[aQ,results152,go_sem,g]) rfl ⟨_,rfl,InT.ret (HM.out▸Kb.out) _ _ _,(G.set3 (by omega) _ _ _)⟩
theorem TG(t:Tr)(hv:j0 m0 t=true)(F:World)(N:Nat->Prop)(v:Value)(hN: ∀b,F.heap.size<=b->N b)(b8:InT F N t v):Calls prog 111 #[v,.bool false] F (N9 N F (Rj t)):=by
 have E:=hdq (fun W (M:Nat->Prop) (J: ∀b,W.heap.size<=b->M b) (h:InT W M t v)=> kE t hv W M v J h);have HC:=hdq (fun W (hx:Ext F W)=> pq t W v (b8.lies'.ext hx) (by have:=(Z3 hv).2;omega));have N5:=hdq b8;have S:Rj t=match outT t with|none=>(t,0) |some p=> if j0 m0 (conA t p)=true then(conA t p,1) else(E2,2):=rfl
 unfold Ud at E;rw[S];clear S;generalize outT t=q at E⊢;obtain⟨k,n,Q⟩:=t;obtain⟨A,cap,rfl,hl,hc,hK⟩:=InT.mk_iff.1 b8;clear b8 hK hv;obtain⟨V,G⟩: ∃x,x=((F.alloc (.cells #[.int .i64 k,.int .i64 n,.slice A Q.length cap] 25)).alloc (.cells #[.int .i64 0,.int .i64 0,.slice none 0 0] 25)):=⟨_,rfl⟩;obtain⟨K,I,s1,X⟩:=box2 G;obtain⟨M,J⟩: ∃M,M=(fun b=> N b/\b≠F.heap.size+1):=⟨_,rfl⟩;have P5:=hdq (show∀b,V.heap.size<=b->M b by rw[J];exact Oa hN X.size (by omega));have Hr:=hdq (show InT V M _ _ by rw[J];exact N5.out.keep X (Nat.le_succ _));have HM:=hdq J;clear J hN;cases q with
 |none=>
  simp only at E⊢;go_enter func111,ntmps111;go_wp2_with fail;rw[<-G];clear G;refine(E.out V M P5.out Hr.out).mono ?_;rintro e c ⟨r,rfl,hT,j⟩;have s2:=j.size;obtain⟨B,s,u,w,o,rfl⟩:=hT.three;clear hT;have g:=j;have D:=cb3 (g.blk K);have i:=Z9 (g.blk I);obtain⟨l,a⟩: ∃x,x=c.alloc (.cells #[.int .i64 B,.int .i64 s,.slice u w o] 25):=⟨_,rfl⟩;have m:Ext c l:=a▸(xr c).alloc _;have f:=aR c (.cells #[.int .i64 B,.int .i64 s,.slice u w o] 25);rw[<-a] at f;have s3:c.heap.size < l.heap.size:=O1 f;go_wp2_with fail;rw[<-a];clear a;clear D i;have U:=X;have Y:=U.trans j;have L:=Y.trans m;have H:=g.trans m;refine(HC.out l L).mono ?_;rintro e w4 ⟨u1,u2,u3,u4,u5,z,y,rfl,hT,d,O,hy⟩;have s4:=d.size;have rh:=hdq (show InT w4 M _ _ from InT.mono (fun b hb=> P5.out b (by have:=H.size;omega)) (fun _ _=> rfl) hT);clear hT O hy;have C:=H.trans d;have D:=cb3 (C.blk K);have i:=Z9 (C.blk I);have R:=d;have Zx:=cb3 (R.blk f);have P:=L.trans d;go_wp2_with fail;refine aO (v:= .tuple #[.agg #[.int .i64 u1,.int .i64 u2,.slice u3 u4 u5],.int .i64 0]) (by simp[aQ,results111,go_sem,i]) rfl ⟨_,rfl,InT.ret (HM.out▸rh.out) _ _ _,(P.set3 (by omega) _ _ _)⟩
 |some p=>
  simp only at E⊢;obtain⟨z,O⟩: ∃z,j0 m0 (conA (.mk k n Q) p)=z:=⟨_,rfl⟩;rw[O];have HV:=hdq (fun W v (h:Lies W (conA (.mk k n Q) p) v)=> O▸oi (conA (.mk k n Q) p) W v h);generalize conA (.mk k n Q) p=T at E HV⊢;clear O;cases z with
  |false=>
   rw[if_neg (by simp)];go_enter func111,ntmps111;go_wp2_with fail;rw[<-G];clear G;refine(E.out V M P5.out Hr.out).mono ?_;rintro e c ⟨r,rfl,hT,j⟩;have s2:=j.size;obtain⟨B,s,u,w,o,rfl⟩:=hT.three;have HT:=hdq hT;clear hT;have g:=j;have D:=cb3 (g.blk K);have i:=Z9 (g.blk I);obtain⟨l,a⟩: ∃x,x=c.alloc (.cells #[.int .i64 B,.int .i64 s,.slice u w o] 25):=⟨_,rfl⟩;have m:Ext c l:=a▸(xr c).alloc _;have f:=aR c (.cells #[.int .i64 B,.int .i64 s,.slice u w o] 25);rw[<-a] at f;have s3:c.heap.size < l.heap.size:=O1 f;go_wp2_with fail;rw[<-a];clear a;clear D i;have Z:=m;refine(HV.out l _ (HT.out.later Z).lies').mono ?_;rintro e w4 ⟨rfl,d⟩;have s4:=d.size;have pg:=Z.trans d;have H:=g.trans m;have C:=H.trans d;have D:=cb3 (C.blk K);have i:=Z9 (C.blk I);have R:=d;have Zx:=cb3 (R.blk f);have U:=X;have Y:=U.trans j;have L:=Y.trans m;have P:=L.trans d;go_wp2_with fail;refine aO (v:= .tuple #[.agg #[.int .i64 0,.int .i64 0,.slice none 0 0],.int .i64 2]) (by simp[aQ,results111,go_sem,i]) rfl ⟨_,rfl,F5 _ _ 0 0,(P.set3 (by omega) _ _ _)⟩
  |true=>
   rw[if_pos rfl];go_enter func111,ntmps111;go_wp2_with fail;rw[<-G];clear G;refine(E.out V M P5.out Hr.out).mono ?_;rintro e c ⟨r,rfl,hT,j⟩;have s2:=j.size;obtain⟨B,s,u,w,o,rfl⟩:=hT.three;have HT:=hdq hT;clear hT;have g:=j;have D:=cb3 (g.blk K);have i:=Z9 (g.blk I);obtain⟨l,a⟩: ∃x,x=c.alloc (.cells #[.int .i64 B,.int .i64 s,.slice u w o] 25):=⟨_,rfl⟩;have m:Ext c l:=a▸(xr c).alloc _;have f:=aR c (.cells #[.int .i64 B,.int .i64 s,.slice u w o] 25);rw[<-a] at f;have s3:c.heap.size < l.heap.size:=O1 f;go_wp2_with fail;rw[<-a];clear a;clear D i;have Z:=m;refine(HV.out l _ (HT.out.later Z).lies').mono ?_;rintro e w4 ⟨rfl,d⟩;have s4:=d.size;have pg:=Z.trans d;have H:=g.trans m;have C:=H.trans d;have D:=cb3 (C.blk K);have i:=Z9 (C.blk I);have R:=d;have Zx:=cb3 (R.blk f);have U:=X;have Y:=U.trans j;have L:=Y.trans m;have P:=L.trans d;go_wp2_with fail;refine aO (v:= .tuple #[.agg #[.int .i64 B,.int .i64 s,.slice u w o],.int .i64 1]) (by simp[aQ,results111,go_sem,i]) rfl ⟨_,rfl,InT.ret (HM.out▸HT.out.later pg) _ _ _,(P.set3 (by omega) _ _ _)⟩
def pe(a:World)(b:Nat):Prop:=b≠a.heap.size/\b≠a.heap.size+1
theorem Nz(t:Tr)(F:Nat)(hF:F<=200)(hv:j0 m0 t=true)(d:World)(v:Value)(b8:Lies d t v):
 Calls prog 68 #[v,.int .i64 F,.bool false] d fun e w'=> ∃r,e= .returned (.tuple #[r,.int .i64 (T4 F t).2])/\Lies w' (T4 F t).1 r/\Ext d w':=by
 obtain⟨R,hR⟩: ∃R,T4 F t=R:=⟨_,rfl⟩;rw[hR];obtain⟨k,n,ks⟩:=t;obtain⟨A,cap,rfl,hl,hc,hK⟩:=Lies.mk_iff.1 b8;obtain⟨w1,d9⟩: ∃x,x=((d.alloc (.cells #[.int .i64 k,.int .i64 n,.slice A ks.length cap] 25)).alloc (.cells #[.int .i64 0,.int .i64 0,.slice none 0 0] 25)):=⟨_,rfl⟩;obtain⟨j6,i7,s1,e1⟩:=box2 d9;have Bw:InT w1 (pe d) (.mk k n ks) (.agg #[.int .i64 k,.int .i64 n,.slice A ks.length cap]):=InT.mono (fun b E=>⟨by have:b < d.heap.size:=E;omega,by have:b < d.heap.size:=E;omega⟩) (fun b E=> e1.heap b E) b8;have HR:=hdq hR;have gf:=hdq hv;clear hR hv b8 hK;go_enter func68,ntmps68;go_wp2_with fail;rw[<-d9];clear d9
 go_loopw [1] (fun i wr=> ∃(j:Nat) (o m:Int) (kids:List Tr) (A':Option Addr) (Z:Nat),j<=F/\i= .int .i64 j/\Hid (T4 j (.mk o m kids)=R)/\Hid (j0 m0 (.mk o m kids)=true)/\kids.length<=Z/\Z<=maxLen/\InT wr (pe d) (.mk o m kids) (.agg #[.int .i64 o,.int .i64 m,.slice A' kids.length Z])/\
  wr.heap[d.heap.size]? =some (.cells #[.int .i64 o,.int .i64 m,.slice A' kids.length Z] 25 (0,0))/\wr.heap[d.heap.size+1]? =some (.cells #[.int .i64 0,.int .i64 0,.slice none 0 0] 25 (0,0))/\Ext d wr) (fun i _=>(intOf i).toNat)
 case atStart=> exact⟨F,k,n,ks,A,cap,Nat.le_refl _,rfl,HR,gf,hl,hc,Bw,j6,i7,e1⟩
 case round=>
  obtain⟨j,o,m,kids,A',Z,hj,rfl,O,HV,G7,G0,hT,jq,s,hx⟩:=hrel;have hsz:d.heap.size+1 < wr.heap.size:=O1 s;have D:=hdq (TG (.mk o m kids) HV.out wr (pe d) _ (fun b E=>⟨by omega,by omega⟩) hT);have a:Rj (.mk o m kids)=match outT (.mk o m kids) with|none=>(.mk o m kids,0) |some p=> if j0 m0 (conA (.mk o m kids) p)=true then(conA (.mk o m kids) p,1) else(E2,2):=rfl
  obtain⟨z,y,w,-,-,-⟩:=own3 jq;clear hT Bw j6 i7 e1 s1;obtain⟨q,I⟩: ∃q,outT (.mk o m kids)=q:=⟨_,rfl⟩;rw[I] at a;cases q with
  |none=>
   simp only at a;rw[a] at D;have U:=hdq ((fB I j).symm.trans O.out);clear a I;go_wp2_with fail;refine D.out.mono ?_;rintro e c ⟨r,rfl,g,f⟩;obtain⟨G,C,M,P,L,rfl⟩:=g.three;have T:=hdq g;have Di:=hdq (show d.heap.size+1 < c.heap.size by have:=f.size;omega);have S:d.heap.size < c.heap.size:=by have:=f.size;omega
   clear g z y w;have l:Ext c (c.alloc (.cells #[.int .i64 G,.int .i64 C,.slice M P L] 25)):=(xr c).alloc _;have u:=f.blk s;obtain⟨z,y,w,y0,y1,y2⟩:=own3 u;obtain⟨K,J,Q,o0,o1,o2⟩:=own3 (l.blk u);clear S;go_wp2_with fail;rw[<-U.out];refine aO (v:= .tuple #[.agg #[.int .i64 G,.int .i64 C,.slice M P L],.int .i64 0]) (by simp[aQ,results68,go_sem,z,y,w,K,J,Q]) rfl ⟨_,rfl,InT.lies' (InT.ret (N:=fun _=> True) (InT.mono (fun b E=>⟨trivial,E.2⟩) (fun b E=> rfl) (T.out.later l)) _ _ _),((((hx.trans f).trans l).setCell (by simp;try omega) _).setCell (by simp;try omega) _).setCell (by simp;try omega) _⟩
  |some p=>
   simp only at a;by_cases jc:j=0
   · have U:=hdq ((show T4 j (.mk o m kids)=(E2,1) by rw[jc];exact pA I).symm.trans O.out)
     subst jc;by_cases B:j0 m0 (conA (.mk o m kids) p)=true
     · rw[if_pos B] at a
       rw[a] at D;clear a I B O;go_wp2_with fail;refine D.out.mono ?_;rintro e c ⟨r,rfl,g,f⟩;obtain⟨G,C,M,P,L,rfl⟩:=g.three;have T:=hdq g;have Di:=hdq (show d.heap.size+1 < c.heap.size by have:=f.size;omega);have S:d.heap.size < c.heap.size:=by have:=f.size;omega
       clear g z y w;have l:Ext c (c.alloc (.cells #[.int .i64 G,.int .i64 C,.slice M P L] 25)):=(xr c).alloc _;have u:=f.blk s;obtain⟨z,y,w,y0,y1,y2⟩:=own3 u;obtain⟨K,J,Q,o0,o1,o2⟩:=own3 (l.blk u);clear S;go_wp2_with fail;rw[<-U.out];refine aO (v:= .tuple #[.agg #[.int .i64 0,.int .i64 0,.slice none 0 0],.int .i64 1]) (by simp[aQ,results68,go_sem,z,y,w,K,J,Q]) rfl ⟨_,rfl,InT.lies' (F5 _ (fun _=> True) 0 0),((((hx.trans f).trans l).setCell (by simp;try omega) _).setCell (by simp;try omega) _).setCell (by simp;try omega) _⟩
     · rw[if_neg B] at a
       rw[a] at D;clear a I B O;go_wp2_with fail;refine D.out.mono ?_;rintro e c ⟨r,rfl,g,f⟩;obtain⟨G,C,M,P,L,rfl⟩:=g.three;have T:=hdq g;have Di:=hdq (show d.heap.size+1 < c.heap.size by have:=f.size;omega);have S:d.heap.size < c.heap.size:=by have:=f.size;omega
       clear g z y w;have l:Ext c (c.alloc (.cells #[.int .i64 G,.int .i64 C,.slice M P L] 25)):=(xr c).alloc _;have u:=f.blk s;obtain⟨z,y,w,y0,y1,y2⟩:=own3 u;obtain⟨K,J,Q,o0,o1,o2⟩:=own3 (l.blk u);clear S;go_wp2_with fail;rw[<-U.out];refine aO (v:= .tuple #[.agg #[.int .i64 0,.int .i64 0,.slice none 0 0],.int .i64 1]) (by simp[aQ,results68,go_sem,z,y,w,K,J,Q]) rfl ⟨_,rfl,InT.lies' (F5 _ (fun _=> True) 0 0),((((hx.trans f).trans l).setCell (by simp;try omega) _).setCell (by simp;try omega) _).setCell (by simp;try omega) _⟩
   · obtain⟨H,rfl⟩: ∃H,j=H+1:=⟨j - 1,by omega⟩
     have od:(1:Int)<=((H+1:Nat):Int):=by omega
     have oy:decide (((H+1:Nat):Int) < 1)=false:=decide_eq_false (by omega);have zu:((H+1:Nat):Int)<=1000:=by omega
     by_cases B:j0 m0 (conA (.mk o m kids) p)=true
     · rw[if_pos B] at a
       rw[a] at D;have kz:=(FA I B H).symm.trans O.out;generalize conA (.mk o m kids) p=X at D kz B;obtain⟨V,W,q17⟩:=X;have rk:=hdq kz;have zr:=hdq B;have yi:((H+1:Nat):Int) - 1=(H:Int):=by omega
       clear a I B O kz;go_wp2_with fail;refine D.out.mono ?_;rintro e c ⟨r,rfl,g,f⟩;obtain⟨A2,c2,rfl,hl2,hc2,hK2⟩:=InT.mk_iff.1 g;have T:=hdq g;have l:Ext c (c.alloc (.cells #[.int .i64 V,.int .i64 W,.slice A2 q17.length c2] 25)):=(xr c).alloc _;have bv:=f.blk jq;have u:=f.blk s;have HB:=hdq (l.blk bv);have Ie:=hdq (l.blk u);have Di:=hdq (show d.heap.size+1 < c.heap.size by have:=f.size;omega);obtain⟨K,J,Q,o0,o1,o2⟩:=own3 (l.blk bv);have Y:=hdq (fun(a0 G C:Value)=>(show InT ((((c.alloc (.cells #[.int .i64 V,.int .i64 W,.slice A2 q17.length c2] 25)).setCell ⟨d.heap.size,0,none⟩ a0).setCell ⟨d.heap.size,1,none⟩ G).setCell ⟨d.heap.size,2,none⟩ C) (pe d) (.mk V W q17) (.agg #[.int .i64 V,.int .i64 W,.slice A2 q17.length c2]) from InT.ret (InT.mono (fun b E=>⟨E,E.1⟩) (fun _ _=> rfl) (T.out.later l)) a0 G C));clear g z y w jq s bv u hK2;go_wp2_with fail
       go_roundw
       case rel=> exact⟨H,V,W,q17,A2,c2,by omega,by(try rw[yi]);(try go_num),rk,zr,hl2,hc2,Y.out _ _ _,M6 (M6 (M6 HB.out 0 _) 1 _) 2 _,bd (bd (bd Ie.out (by simp) _) (by simp) _) (by simp) _,((((hx.trans f).trans l).setCell (by simp) _).setCell (by simp) _).setCell (by simp) _⟩
       case measure=>(simp[intOf];try omega)
     · rw[if_neg B] at a
       rw[a] at D;have U:=hdq ((YB I (Bool.eq_false_iff.2 B) H).symm.trans O.out);clear a I B O;go_wp2_with fail;refine D.out.mono ?_;rintro e c ⟨r,rfl,g,f⟩;obtain⟨G,C,M,P,L,rfl⟩:=g.three;have T:=hdq g;have Di:=hdq (show d.heap.size+1 < c.heap.size by have:=f.size;omega);have S:d.heap.size < c.heap.size:=by have:=f.size;omega
       clear g z y w;have l:Ext c (c.alloc (.cells #[.int .i64 G,.int .i64 C,.slice M P L] 25)):=(xr c).alloc _;have u:=f.blk s;obtain⟨z,y,w,y0,y1,y2⟩:=own3 u;obtain⟨K,J,Q,o0,o1,o2⟩:=own3 (l.blk u);clear S;go_wp2_with fail;rw[<-U.out];refine aO (v:= .tuple #[.agg #[.int .i64 0,.int .i64 0,.slice none 0 0],.int .i64 2]) (by simp[aQ,results68,go_sem,z,y,w,K,J,Q]) rfl ⟨_,rfl,InT.lies' (F5 _ (fun _=> True) 0 0),((((hx.trans f).trans l).setCell (by simp;try omega) _).setCell (by simp;try omega) _).setCell (by simp;try omega) _⟩
