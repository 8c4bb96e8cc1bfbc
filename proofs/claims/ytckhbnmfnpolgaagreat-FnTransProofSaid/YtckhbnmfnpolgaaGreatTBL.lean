/- Lemmas towards the law. -/
import Derived.Test.YtckhbnmfnpolgaaGreatTBK
open List renaming length_cons->bX,mem_of_getElem?->gP,mem_cons_self->fP
open Nat renaming le_refl->aP,le_succ->aR
open Option.some renaming injEq->cM,inj->cN
open Go.World renaming alloc->aO,setCell->bT
open Go renaming results->aS
open Go.Proofs.Tryz
set_option linter.all false
set_option maxHeartbeats 40000000
set_option maxRecDepth 100000
namespace Go.Proofs.YtckhbnmfnpolgaaGreat
open Go.RowKit
open M (Hd HR Cv Ty j2 rc a7 O5 dep DG fvb)
structure Gb (G:List M.Tm) (e T l r:M.Tm):Prop where
 hG:y6 G
 h8:G.length<=8
 ve:valid sigT (enc e)=true
 vs:valid sigT (enc (.id T l r))=true
 hE: ∃E,Ty G e E/\HR E (.id T l r)
 le:j2 G e
 hT: ∃j,j<=3/\O5 G T j
 lT:j2 G T
 hl: ∃B,Ty G l B/\Cv B T
 ll:j2 G l
 hr: ∃C,Ty G r C/\Cv C T
 lr:j2 G r
theorem uC{f:Nat}{ctx:List Tr}{t s:Tr}(h:Q0 (Ra f ctx t) 10=some (s,0)): ∃G e T l r,ctx=ctxE G/\t=enc e/\s=enc (.id T l r)/\Gb G e T l r:=by
 obtain⟨u,d,D,n⟩:=vf h;obtain⟨G,a,A,rfl,hG,h8,rfl,hv,rfl,g,m,K,-⟩:=Nn d;obtain⟨C,rfl,b,-,F⟩:=nj D;obtain⟨T,l,r,rfl⟩:=Zj n;have o:=hG.wf.wf;obtain⟨S,j,J,i,H,y⟩: ∃S j,j<=3/\Ty G A S/\HR S (.sort j)/\j2 G A:=by
  rcases j2.type g hG.wf m with rfl|⟨p,k,hk,S,q,w⟩
  · cases b with
    |step d _=> cases d
  · exact⟨S,k,hk,q,w,p⟩
 obtain⟨L,B,E⟩:=Ty.red b.red i;have c:=j2.red b.red o i y;cases B with
 |id t1 t2 I x v z=>
  have hi:=(E.trans H.cv).sort_inj;exact⟨G,a,T,l,r,rfl,rfl,rfl,hG,h8,hv,F,⟨A,g,b⟩,m,⟨_,by omega,_,t1,t2⟩,c.1,⟨_,I,x⟩,c.2.1,⟨_,v,z⟩,c.2.2⟩
def I4(T l e:M.Tm):M.Tm:= .move (.lam T (.id (M.Tm.wk T) (.var 0) (M.Tm.wk l))) e (.refl l)
def Bk(s t:Tr):Tr:= .mk 12 0 [.mk 4 0 [kd s.kids 0,.mk 10 0 [shfT 1 (kd s.kids 0) 0,.mk 1 0 [],shfT 1 (kd s.kids 1) 0]],t,.mk 11 0 [kd s.kids 1]]
theorem ao(t:M.Tm):shfT 1 (enc t) 0=enc (M.Tm.wk t):=by
 have:=Wj 1 t 0;rw[show Ol 1 0=Nat.succ from funext fun n=> by simp[Ol]] at this;exact this
theorem IJ(T l r e:M.Tm):Bk (enc (.id T l r)) (enc e)=enc (I4 T l e):=by
 show Tr.mk 12 0 [.mk 4 0 [enc T,.mk 10 0 [shfT 1 (enc T) 0,.mk 1 0 [],shfT 1 (enc l) 0]],enc e,.mk 11 0 [enc l]]=_
 rw[ao,ao]
 rfl
def Re(f:Nat)(G:List Tr)(T:Tr):An:=thn (O0 f G T) fun _=> some (T,0)
def zd(f:Nat)(G:List Tr)(T:Tr):An:=if valid sigT T=true then thn (Ra f G T) fun _=> some (T,0) else some (D2,2)
section
variable {G : List M.Tm} {e T l r : M.Tm}
theorem Gb.body(h:Gb G e T l r): ∃j,j<=3/\Ty (T::G) (.id (M.Tm.wk T) (.var 0) (M.Tm.wk l)) (.sort j)/\j2 (T::G) (.id (M.Tm.wk T) (.var 0) (M.Tm.wk l)):=by
 obtain⟨j,f,S,c,d⟩:=h.hT;obtain⟨B,b,g⟩:=h.hl;have a:=h.hG.wf.wf;exact⟨j,f,.id (c.wk T) (d.ren _) (.var (M.lk_zero T G)) (.rfl' _) (b.wk T) (g.ren _),j2.ren c a (M.RenOk.wk T G) h.lT,trivial,j2.ren b a (M.RenOk.wk T G) h.ll⟩
theorem Gb.tyb(h:Gb G e T l r):a7 G T:=by
 obtain⟨j,a,L⟩:=h.hT;exact⟨h.lT,j,a,L⟩
theorem Gb.lrf(h:Gb G e T l r):j2 G (.refl l):=by
 obtain⟨j,a,L⟩:=h.hT;obtain⟨B,b,d⟩:=h.hl;refine⟨h.ll,fun g k c f=> ?_⟩;obtain rfl:=b.det c;rw[f.cv L d];exact a
theorem Gb.ag(h:Gb G e T l r)(v:valid sigT (enc (I4 T l e))=true):Ag G (I4 T l e):=by
 have hl:G.length<=20:=by have:=h.h8;omega
 have v1:valid sigT (enc (.lam T (.id (M.Tm.wk T) (.var 0) (M.Tm.wk l))))=true:=Z0 v (by simp[I4]);have v2:valid sigT (enc (.refl l))=true:=Z0 v (by simp[I4]);have c:valid sigT (enc T)=true:=Z0 v1 (by simp);obtain⟨j,o,g,m⟩:=h.body;obtain⟨E,n,-⟩:=h.hE;obtain⟨B,d,s⟩:=h.hl;obtain⟨i,hi,S,k,p⟩:=h.hT;refine k7 h.hG hl _ v ⟨k7 h.hG hl _ v1 ⟨fun f a=> vm h.hG hl c k h.lT,fun b q f a=> vm (h.hG.cons b c) (by simp only[bX];omega) (Z0 v1 (by simp)) g m⟩ trivial,fun f a=> vm h.hG hl h.ve n h.le,k7 h.hG hl _ v2 (fun f a=> vm h.hG hl (Z0 v2 (by simp)) d h.ll) trivial⟩ (.inr (li.of h.hG v2 (.refl d) h.lrf))
theorem Gb.typ(h:Gb G e T l r){A:M.Tm}(k:Ty G (I4 T l e) A):Cv A (.id T r l):=by
 cases k with
 |move a c g m f i n j=>
  obtain⟨E,b,d⟩:=h.hE;obtain rfl:=b.det a;obtain⟨rfl,rfl,rfl⟩:=d.id_det c;have:=(HR.one (Hd.beta T (.id (M.Tm.wk T) (.var 0) (M.Tm.wk l)) r)).cv;rw[show(M.Tm.id (M.Tm.wk T) (.var 0) (M.Tm.wk l)).inst r= .id ((M.Tm.wk T).inst r) r ((M.Tm.wk l).inst r) from rfl,M.Tm.wk_inst,M.Tm.wk_inst] at this;exact this
end
theorem pB{g:Nat}{G:List M.Tm}{e x:M.Tm}{s:Tr}(L:Ra g (ctxE G) (enc e)=some (s,0))(hG:y6 G)(D:valid sigT (enc x)=true->Ag G x):
 ∃f J q,Re f (ctxE G) (enc x)=some q/\zd J (ctxE G) (enc x)=some q/\(q.2=0->q.1=enc x/\ ∃A,Ty G x A/\j2 G x/\valid sigT (enc x)=true):=by
 by_cases hv:valid sigT (enc x)=true
 · obtain⟨u,t,-⟩:=ga L
   obtain⟨t,-⟩:=Rm t;obtain⟨i,E⟩:=Yx (ctxE G) (enc x);obtain⟨m,I⟩:=(py 21 G (by omega) hG x hv).at;obtain⟨⟨a,c⟩,p⟩:=I m (aP _);obtain⟨⟨H,v⟩,j⟩:=E (i+g) (by omega);have hr:Xa (i+g) (ctxE G) [enc x]=some (u,0):=by
    have:=i5.ccV (show g<=i+g by omega) (ctxE G) _ t;unfold Xa;rw[this];simp[hv]
   have o:=j;unfold Ra at o;rw[hr] at o;obtain⟨b,d,B,F,C⟩:=we (show thn (P0 (i+g) (ctxE G) (enc x)) (fun s=> some (s,0))=some (H,v) from o);rcases D hv m (i+g) a c b d p B with⟨rfl,rfl⟩ |⟨h,-⟩
   · by_cases hc:c=0
     · subst hc
       have:=F rfl;simp only[cM,Prod.mk.injEq] at this;obtain⟨rfl,rfl⟩:=this;refine⟨m,i+g,(enc x,0),by unfold Re;rw[p];rfl,by unfold zd;rw[if_pos hv,j];rfl,fun _=>⟨rfl, ?_⟩⟩;obtain⟨O,y,A,z,-,-,w,-,-,K,N,-⟩:=Nn j;cases Wq z
       cases wd w
       exact⟨A,K,N,hv⟩
     · have:=C hc
       simp only[Prod.mk.injEq] at this;obtain⟨rfl,rfl⟩:=this;exact⟨m,i+g,(D2,v),by unfold Re;rw[p];unfold thn;simp[hc],by unfold zd;rw[if_pos hv,j];unfold thn;simp[hc],fun h=> absurd h hc⟩
   · exact h.elim
 · refine⟨1,0,(D2,2), ?_,by unfold zd;rw[if_neg hv],fun h=> by cases h⟩
   unfold Re;have:O0 1 (ctxE G) (enc x)=some (D2,2):=by
    cases hx:enc x with
    |mk k n P=>
     rw[hx] at hv;unfold O0;rw[if_pos (.inl (by simpa using hv))]
   rw[this]
   rfl
theorem Wr{ctx:List Tr}{t:Tr}(h: ∃f a r,Q0 (pc f ctx t) 10=some r/\Q0 (Ra a ctx t) 10=some r): ∃f a r g d q,Q0 (pc f ctx t) 10=some r/\Q0 (Ra a ctx t) 10=some r/\(r.2=0->Re g ctx (Bk r.1 t)=some q/\zd d ctx (Bk r.1 t)=some q)/\(r.2≠0->q=(D2,r.2))/\
 (q.2=0-> ∃G e T l u A,ctx=ctxE G/\t=enc e/\r=(enc (.id T l u),0)/\q.1=enc (I4 T l e)/\Gb G e T l u/\Ty G (I4 T l e) A/\j2 G (I4 T l e)/\valid sigT (enc (I4 T l e))=true):=by
 obtain⟨f,a,⟨s,c⟩,i,b⟩:=h;by_cases hc:c=0
 · subst hc
   obtain⟨G,e,T,l,u,rfl,rfl,rfl,hS⟩:=uC b;obtain⟨z,w,-⟩:=vf b;obtain⟨g,d,q,o,m,p⟩:=pB (x:=I4 T l e) w hS.hG hS.ag;refine⟨f,a,_,g,d,q,i,b,fun _=> by rw[IJ];exact⟨o,m⟩,fun h=> absurd rfl h,fun n=> ?_⟩;obtain⟨k,A,j,v,y⟩:=p n;exact⟨G,e,T,l,u,A,rfl,rfl,rfl,k,hS,j,v,y⟩
 · exact⟨f,a,_,0,0,(D2,c),i,b,fun h=> absurd h hc,fun _=> rfl,fun h=> absurd h hc⟩
theorem Gb.check{G:List M.Tm}{e T l r A:M.Tm}(h:Gb G e T l r)(k:Ty G (I4 T l e) A)(a:j2 G (I4 T l e))(v:valid sigT (enc (I4 T l e))=true)(i:valid sigT (enc (.id T r l))=true)(f:Nat):Nb (Ys f (ctxE G) (enc (I4 T l e)) (enc (.id T r l))):=by
 obtain⟨j,c,S,m,d⟩:=h.hT;obtain⟨B,g,n⟩:=h.hl;obtain⟨C,b,o⟩:=h.hr;exact Sj h.hG h.h8 v i k a (h.typ k) ⟨⟨h.lT,h.lr,h.ll⟩,j,c,_,.id m d b o g n,.refl _⟩
end Go.Proofs.YtckhbnmfnpolgaaGreat
namespace Go.Proofs.YtckhbnmfnpolgaaGreat
open Go Go.RowKit
attribute [local go_sem ↓] Go.wp_at_zero Go.wp_at_succ
def Un:List (List UInt8):= [[78], [78], [78], [123,78,44,35,50,44,35,49,125], [123,78,44,35,50,44,35,49,125]]
def bn:List (List UInt8):= [[42,48], [35,48], [35,49], [123,35,50,44,35,49,44,35,48,125]]
theorem BQ.var{xs:List (List UInt8)}{q:List M.Tm×List M.Tm}{i:Nat}(a:q∈txts)(b:Ub xs=ctxE q.1)(hx:(Ub xs).length<=5)(hi:M.Tm.var i∈q.2)(hv:i<=20):BQ (Ub xs) (.mk 1 i []):=
 ⟨q.1,.var i,b,rfl,.txt a hi,by simp[valid,I0,ma,Nj,cnt,O1,sigT,S0,Za,ti];omega,hx,fun x h=>(N4 (PI h)).2⟩
theorem NC.fv{n:Nat}{a:M.Tm}(h:NC n a):M.fvb n a:=by
 induction h <;> simp only[M.fvb] <;> simp_all
theorem NC.stt{n:Nat}{a:M.Tm}(h:NC n a):Oa a:=by
 induction h <;> simp only[Oa] <;> simp_all
theorem BQ.rfl{t:Tr}(h:NQ 1 12 104 t):BQ [.mk 6 0 []] (.mk 11 0 [t]):=by
 obtain⟨a,c,b,d,f⟩:=h;subst c;refine⟨[.nat],.refl a,by simp[ctxE,enc],Eq.refl _,.rfl b, ?_,by simp,fun x hx=> by rw[List.mem_singleton.1 hx];decide⟩;have hs:=CD (.refl a) 1 13 b.fv b.stt (by simp only[M.dep];omega) (by omega);unfold valid;rw[Bool.and_eq_true,decide_eq_true_eq];exact⟨Tf hs (by omega),by simp only[cnt,O1];omega⟩
theorem cK(j:World)(g m:Nat)(D:Rd j g m)(hm:m < 600000):Calls prog 54 #[.pointer (some ⟨g,0,none⟩)] j (CQ j g (m+3010) BQ):=by
 have f:=hdq D.lt;go_enter func54,ntmps54;go_wp2_with fail;generalize p:aO j _=X;obtain⟨br,e⟩:=nb p;have Z:=(St.of D e).id;have Y:i1 [g] j X:=oE e;clear p e D;refine(Qf _ g _ 4 Z.2 (by omega)).mono ?_;rintro e U ⟨x,rfl,V,hx1,R,o⟩;replace Z:=Z.tr o R;clear o R;by_cases N:x=0
 · subst N
   go_wp2_with fail;generalize p:aO U _=q;obtain⟨v,e⟩:=nb p;have S:=oi.of (xs:=Un) v;replace Z:=Z.up e;clear p v e;have u:=Z.news br;refine(mA Un _ _ S (by decide) (by decide)).mono ?_;rintro e C ⟨A,c,rfl,hA,K,e⟩;replace Z:=Z.up e;replace K:InK C (fun b=> j.heap.size < b) A _:=InK.mono (fun b H=> u b H.1) (fun _ _=> rfl) K;have F:=hdq (fun i hi hv=> BQ.var (xs:=Un) (i:=i) (gP (i:=4) rfl) (by decide+kernel) (by decide+kernel) hi hv);clear S u;obtain⟨L,s⟩: ∃L,(Ub Un).length=L:=⟨_,rfl⟩;rw[s] at hA⊢;have z:=hdq s;clear s;go_wp2_with fail;refine(Qf _ g _ 2 Z.2 (by omega)).mono ?_;rintro e J ⟨y,rfl,hy0,hy1,R,o⟩;replace Z:=Z.tr o R;replace K:=K.dl o (bb (by have:=f.out;omega));clear o R;obtain⟨i,rfl⟩:=Int.eq_ofNat_of_zero_le hy0;go_wp2_with fail;refine(y15 _ 1 i).mono ?_;rintro e W ⟨rfl,e⟩;replace Z:=Z.up e;replace K:=K.later e;have R:=cbn (Z.br br (by have:=f.out;omega));go_wp2_with fail;exact Zb (A:=A) (n:=L) (c:=c) (by simp[aS,results54,go_sem,R]) (F.out i (by rcases(by omega:i=0\/i=1) with rfl|rfl <;> simp[txts]) (by omega)) z.out hA K (Z5 _ _ 1 i) Y Z f.out (aP _) (by omega) rfl
 have t0:(x==0)=false:=beq_eq_false_iff_ne.2 N;by_cases O:x=1
 · subst O
   go_wp2_with fail;generalize p:aO U _=q;obtain⟨v,e⟩:=nb p;have S:=oi.of (xs:=bn) v;replace Z:=Z.up e;clear p v e;have u:=Z.news br;refine(mA bn _ _ S (by decide) (by decide)).mono ?_;rintro e C ⟨A,c,rfl,hA,K,e⟩;replace Z:=Z.up e;replace K:InK C (fun b=> j.heap.size < b) A _:=InK.mono (fun b H=> u b H.1) (fun _ _=> rfl) K;have F:=hdq (fun i hi hv=> BQ.var (xs:=bn) (i:=i) (gP (i:=5) rfl) (by decide+kernel) (by decide+kernel) hi hv);clear S u;obtain⟨L,s⟩: ∃L,(Ub bn).length=L:=⟨_,rfl⟩;rw[s] at hA⊢;have z:=hdq s;clear s;go_wp2_with fail;refine(y15 _ 1 0).mono ?_;rintro e J ⟨rfl,e⟩;replace Z:=Z.up e;replace K:=K.later e;have R:=cbn (Z.br br (by have:=f.out;omega));go_wp2_with fail;exact Zb (A:=A) (n:=L) (c:=c) (by simp[aS,results54,go_sem,R]) (F.out 0 (by simp[txts]) (by omega)) z.out hA K (Z5 _ _ 1 0) Y Z f.out (aP _) (by omega) rfl
 have t1:(x==1)=false:=beq_eq_false_iff_ne.2 O;by_cases P:x=2
 · subst P
   go_wp2_with fail;refine(y15 _ 6 0).mono ?_;rintro e q ⟨rfl,e⟩;replace Z:=Z.up e;go_wp2_with fail;obtain⟨e,K⟩:=Cd (w:=q) 25 (Z5 _ (fun b=> j.heap.size < b) 6 0) (Z.news br);have hs:(aO q (.cells #[.int .i64 6,.int .i64 0,.slice none 0 0] 25)).heap.size=q.heap.size+1:=by simp
   rw[<-hs];clear hs;replace Z:=Z.up e;clear e;generalize aO q _=C at K Z⊢;generalize q.heap.size=gq at K⊢;refine(numD [1,2,0] rfl rfl Z.2 (by omega)).mono ?_;rintro e J ⟨E,rfl,Q,o,R⟩;replace Z:=Z.tr o R;replace K:=K.dl o (bb (by have:=f.out;omega));clear o R;have hk4: -3<=E/\E<=2:=by simp at Q;omega
   clear Q;go_wp2_with fail;refine(bo _ g _ 1 1 E Z.2 (by omega) rfl (by omega) (by omega) (by omega)).mono ?_;intro e W h;obtain⟨ta,ua,va,Aa,la,ca,rfl,Pa,a,o,Z⟩:=h.at Z br;replace K:=K.dl o (bb (by have:=f.out;omega));clear o;go_wp2_with fail;obtain⟨e,I⟩:=Cd 25 a (Z.news br);replace Z:=Z.up e;replace K:=K.later e;refine(db 11 (Z.news br) I rfl).mono ?_;rintro e w7 ⟨Ab,cb,rfl,b,e⟩;replace Z:=Z.up e;replace K:=K.later e;clear I;have z:=hdq (show([.mk 6 0 []]:List Tr).length=1 from rfl);have R:=cbn (Z.br br (by have:=f.out;omega));go_wp2_with fail;exact Zb (A:=(some ⟨gq,0,none⟩)) (n:=1) (c:=1) (by simp[aS,results54,go_sem,R]) (BQ.rfl Pa) rfl ⟨aP _,by unfold maxLen;omega,fun h=> by cases h⟩ K b Y Z f.out (aP _) (by omega) rfl
 have t2:(x==2)=false:=beq_eq_false_iff_ne.2 P;go_wp2_with fail;refine(gJ _ g _ Z.2 (by omega)).mono ?_;intro e q h;obtain⟨A,n,c,ks,t,k,i,B,l,d,rfl,hP,hn,hA,K,T,Z⟩:=h.at Z (Z.news br);have R:=cbn (Z.br br (by have:=f.out;omega));go_wp2_with fail;exact Zb (A:=A) (n:=n) (c:=c) (by simp[aS,results54,go_sem,R]) (hP) hn hA K T Y Z f.out (aP _) (by omega) rfl
theorem sx{f:Nat}{G:List Tr}{t s:Tr}(h:Q0 (pc f G t) 10=some (s,0)):(G.length<=8/\ ∀x∈G,valid sigT x=true)/\valid sigT t=true/\s.kids.length=3/\valid sigT s=true:=by
 obtain⟨u,a,b,c⟩:=vf h;obtain⟨-,l,v⟩:=vi h;unfold pc at a
 split at a
 · cases a
 · rename_i hn
   simp only[not_or,Bool.not_eq_false] at hn;exact⟨et hn.1,hn.2,by have:S0 10=3:=rfl;omega,v⟩
theorem VH(f L:Nat)(G:List Tr)(A:Option Addr)(ca:Nat)(d:World)(hG:V8 d A G)(F8:G.length<=ca)(Z:ca<=maxLen)(hA:A=none->ca=0)(N:Nat->Prop)(hN: ∀b,d.heap.size<=b->N b)(V:InK d N A G)(t:Tr)(v:Value)(ht:Lies d t v)(r q:Tr×Int)(h1:Q0 (pc f G t) 10=some r)(U:r.2=0->Re L G (Bk r.1 t)=some q)(I:r.2≠0->q=(D2,r.2)):Calls prog 20 #[.slice A G.length ca,v] d (n9 N d q):=by
 have HI:=hdq (fun W (hW:Ext d W)=> bL f G A ca W (hG.ext hW) F8 Z hA t v (ht.ext hW) r h1);obtain⟨s,c⟩:=r;have H2:=hdq U;have H3:=hdq I;have HF:=hdq (fun hc:c=0=> sx (s:=s) (by rw[hc] at h1;exact h1));have HJ:=hdq (fun(h8:G.length<=8/\ ∀x∈G,valid sigT x=true)=>(⟨hN,F8,Z,V,by omega,hA,h8.2⟩:SJ d N A G ca));have HT:=hdq ht;obtain⟨k,n,ks⟩:=t;obtain⟨At,ct,rfl,-⟩:=Lies.mk_iff.1 ht;clear h1 U I ht hG V;go_enter func20,ntmps20;go_wp2_with fail;generalize hw:aO (aO d _) _=w1;obtain⟨C,br,S⟩:=sn2 hw.symm hN;have F:=hdq (S);have X:=xr w1;have Q:=F.out _ X.off;clear S hN hw;have N0:=Q.1;have Ay:=hdq (fun h8=>(HJ.out h8).keep C (g:=d.heap.size+1) (aR _) (D1 br));clear HJ;refine(HI.out _ (C.trans X)).mono ?_;rintro e w2 ⟨u0,u1,u2,rfl,E,H,L2,e⟩;replace E:=InT.mono (S':=fun b=> N b/\b≠d.heap.size+1) (fun b P=> N0 b P) (fun _ _=> rfl) E;replace H:=InT.mono (S':=fun b=> N b/\b≠d.heap.size+1) (fun b P=> N0 b P) (fun _ _=> rfl) H;obtain⟨s1,s2,s3,s4,s5,rfl⟩:=E.three;obtain⟨a1,a2,a3,a4,a5,rfl⟩:=H.three;obtain⟨b1,b2,b3,b4,b5,rfl⟩:=L2.three;replace X:=X.trans e;replace Q:=F.out _ X.off;clear L2 e HI N0;obtain⟨HC,t⟩ |rfl:=cz c
 · have R:=cbn (X.blk br)
   have R1:=fun o=> cbn ((X.alloc o).blk br)
   have R2:=fun o o'=> cbn (((X.alloc o).alloc o').blk br)
   have R3:=fun o o' o2=> cbn ((((X.alloc o).alloc o').alloc o2).blk br)
   have R4:=fun o o' o2 x y z=> cbn ((((xr _).alloc o').alloc o2).blk (b6 (b6 (b6 ((X.alloc o).blk br) 0 x) 1 y) 2 z))
   go_wp2_with fail;exact v9 (by simp[aS,results20,go_sem,R4]) (H3.out HC.out) (((((C.trans X).alloc _).set3 (aR _) _ _ _).alloc _).alloc _) rfl
 obtain⟨h8,hv,I8,ii⟩:=HF.out rfl;rw[vl] at E H;have V0:=hdq (qd ii (i:=0) (by omega));have V1:=hdq (qd ii (i:=1) (by omega));have VT:=hdq hv;have Z3:=hdq (Ay.out h8);have HQ:=hdq (H2.out rfl);generalize hS0:kd s.kids 0=j at E V0;generalize Y:kd s.kids 1=S1 at H V1;unfold Bk at HQ;rw[hS0,Y] at HQ;clear HF Ay H2 H3 h8 hv I8 ii hS0 Y;go_wp2_with fail;generalize hw:aO (aO (aO w2 _) _) _=w3;obtain⟨q6,q7,-,-,e⟩:=be hw.symm;replace F:=hdq (both (rb F.out (X.trans e)) (both (k8 q6 (X.ne br)) (both (k8 q7 (by have:=X.size;have:=D1 br;omega)) (both (E.up e) (H.up e)))));replace X:=X.trans e;replace Z3:=hdq (Z3.out.ext X);replace br:=X.blk br;replace C:=C.trans X;replace X:=xr w3;replace Q:=F.out _ X.off;clear hw q6 q7 e E H;refine rgn (d.heap.size+1) (by kernel_rfl) X ?_;replace X:=X.drew;refine B3 [0,1,4] 9 (by kernel_rfl) X.off (fun _ _ _ _ _ h=> h) ?_
 iterate 3 (refine tk rfl (by rfl) (by intro w X;have Q:=F.out _ X;go_simp;(try with_reducible rfl)) ?_;try simp only[W2])
 replace Q:=F.out _ X.off;refine Ci 11 46 #[true,true,true,true,true,true,true,true,true,true,true,false] 1 [.any,.any,Sp.tree (fun b=> N b/\b≠d.heap.size+1) (shfT 1 j 0),Sp.tree (fun b=> N b/\b≠d.heap.size+1) (.mk 1 0 []),.any,Sp.tree (fun b=> N b/\b≠d.heap.size+1) (shfT 1 S1 0),Sp.row (fun b=> N b/\b≠d.heap.size+1) [shfT 1 j 0,.mk 1 0 [],shfT 1 S1 0],Sp.tree (fun b=> N b/\b≠d.heap.size+1) (.mk 10 0 [shfT 1 j 0,.mk 1 0 [],shfT 1 S1 0]),Sp.row (fun b=> N b/\b≠d.heap.size+1) [j,.mk 10 0 [shfT 1 j 0,.mk 1 0 [],shfT 1 S1 0]],Sp.tree (fun b=> N b/\b≠d.heap.size+1) (.mk 4 0 [j,.mk 10 0 [shfT 1 j 0,.mk 1 0 [],shfT 1 S1 0]]),Sp.box w3.drew] [2,3,5,6,7,8,9,10] (fun w h=>(X.trans h).off) (by kernel_rfl) rfl ?st1 ?fi1
 case st1=>
  repeat' first|exact trivial|refine And.intro ⟨_,rfl, ?_⟩ ?_
  all_goals(intro a w z hE p J;refine Ord.step_of rfl rfl ?_;intro K hK)
  · (have f24:=v4 (show a.eval (.tmp 24)= m0 s1 s2 s3 s4 s5 from p 24 (by kernel_rfl));go_simp;go_at_call 61;refine(KF j V0.out w _ (Mc Q.1.1 hE) _ (Q.2.2.2.1.oldG' hE).lies').mono ?_;rintro e D ⟨u,rfl,O,m⟩;exact hK _ _ ⟨_,z,rfl,E9 hE m,O⟩)
  · (go_simp;go_at_call 62;refine(y15 w 1 0).mono ?_;rintro e D ⟨rfl,m⟩;exact hK _ _ ⟨_,z,rfl,E9 hE m,Z5 _ _ _ _⟩)
  · (have f27:=v4 (show a.eval (.tmp 27)= m0 a1 a2 a3 a4 a5 from p 27 (by kernel_rfl));go_simp;go_at_call 61;refine(KF S1 V1.out w _ (Mc Q.1.1 hE) _ (Q.2.2.2.2.oldG' hE).lies').mono ?_;rintro e D ⟨u,rfl,O,m⟩;exact hK _ _ ⟨_,z,rfl,E9 hE m,O⟩)
  · (have U:InT w (Mz _ z) (shfT 1 j 0) (a.eval (.tmp 25)):=J 2 25 (by kernel_rfl);obtain⟨_,_,_,_,_,L⟩:=U.three;rw[L] at U;replace L:=v4 L;have I:InT w (Mz _ z) (.mk 1 0 []) (a.eval (.tmp 26)):=J 3 26 (by kernel_rfl);obtain⟨_,_,_,_,_,f3⟩:=I.three;rw[f3] at I;replace f3:=v4 f3;have h5:InT w (Mz _ z) (shfT 1 S1 0) (a.eval (.tmp 28)):=J 5 28 (by kernel_rfl);obtain⟨_,_,_,_,_,f5⟩:=h5.three;rw[f5] at h5;replace f5:=v4 f5;go_simp;obtain⟨m,h⟩:=Zc 25 U I h5 (Mc Q.1.1 hE);exact hK _ _ ⟨_,z,rfl,E9 hE m,_,3,rfl,aP _,by decide,h⟩)
  · (obtain⟨A6,c6,f6,lq,ut,ot⟩: ∃A c,a.eval (.tmp 29)= .slice A 3 c/\3<=c/\c<=maxLen/\InK w (Mz _ z) A [shfT 1 j 0,.mk 1 0 [],shfT 1 S1 0]:=J 6 29 (by kernel_rfl);replace f6:=v4 f6;go_simp;go_at_call 60;refine(Xt 10 _ _ (Mc Q.1.1 hE) A6 c6 _ ot (by simp) lq (by simp)).mono ?_;rintro e D ⟨u,rfl,hx,m⟩;exact hK _ _ ⟨_,z,rfl,E9 hE m,hx⟩)
  · (have f23:=v4 (show a.eval (.tmp 23)= m0 s1 s2 s3 s4 s5 from p 23 (by kernel_rfl));have h7:InT w (Mz _ z) (.mk 10 0 [shfT 1 j 0,.mk 1 0 [],shfT 1 S1 0]) (a.eval (.tmp 30)):=J 7 30 (by kernel_rfl);obtain⟨_,_,_,_,_,f7⟩:=h7.three;rw[f7] at h7;replace f7:=v4 f7;go_simp;obtain⟨m,h⟩:=n7 25 (Q.2.2.2.1.oldG' hE) h7 (Mc Q.1.1 hE);exact hK _ _ ⟨_,z,rfl,E9 hE m,_,2,rfl,aP _,by decide,h⟩)
  · (obtain⟨A8,c8,f8,nz,zx,nh⟩: ∃A c,a.eval (.tmp 31)= .slice A 2 c/\2<=c/\c<=maxLen/\InK w (Mz _ z) A [j,.mk 10 0 [shfT 1 j 0,.mk 1 0 [],shfT 1 S1 0]]:=J 8 31 (by kernel_rfl);replace f8:=v4 f8;go_simp;go_at_call 60;refine(Xt 4 _ _ (Mc Q.1.1 hE) A8 c8 _ nh (by simp) nz (by simp)).mono ?_;rintro e D ⟨u,rfl,hx,m⟩;exact hK _ _ ⟨_,z,rfl,E9 hE m,hx⟩)
  · (go_simp;exact hK _ _ ⟨_,_,rfl,EG.box hE,_,rfl,fP ..,(show _<=w.heap.size from hE.1.size),heap_alloc_new _ _⟩)
 case fi1=>
  intro v D z hE hG;have ht:InT D (Mz _ z) (.mk 4 0 [j,.mk 10 0 [shfT 1 j 0,.mk 1 0 [],shfT 1 S1 0]]) (v 9):=hG 9 (by decide) (by kernel_rfl);obtain⟨a1,a2,a3,a4,a5,B8⟩:=ht.three;rw[B8] at ht;obtain⟨gb,hv2,gz,bl,bx⟩: ∃g,v 10= O2 g/\g∈z/\w3.drew.heap.size<=g/\D.heap[g]? =_:=hG 10 (by decide) (by kernel_rfl);simp only[List.foldl,Ord.dstOf,List.getElem?_toArray,List.getElem?_cons_zero,List.getElem?_cons_succ,Option.bind_some,Act.put,List.setIfInBounds_toArray,List.set_cons_zero,List.set_cons_succ];rw[B8,hv2];replace ht:=(InT.mono (fun b (P:Mz _ z b)=>(⟨P.1,fun h=> P.2 (h▸gz)⟩:(fun b=> N b/\b≠d.heap.size+1) b/\b≠gb)) (fun _ _=> rfl) ht).ret (j0 a1) (j0 a2) (.slice a3 a4 a5);have hne:=kp X bl br;have X1:=X;replace X:=X.trans hE.1;have Zx:=cbn bx;clear hG hE gz B8 hv2;refine H0 11 (by kernel_rfl) rfl rfl (fun K hK=> ?_)
  go_simp
  have e:=Off.new3 X (Nat.le_trans X1.size bl) bx (j0 a1) (j0 a2) (.slice a3 a4 a5);refine hK.out _ _ e.1.off (fun _=> ?_);clear hK K Zx;replace X:=e.1;have bq:=e.2;generalize bT (bT (bT D _ _) _ _) _ _=w4 at*;refine wpAnyH_done (by kernel_rfl) ?_ _;clear bx e X1;replace F:=hdq (both (rb F.out X) (both (k8 bq hne) (ht.up (xr _))));replace Z3:=hdq (Z3.out.ext X);replace br:=X.blk br;replace C:=C.trans X;replace X:=xr w4;replace Q:=F.out _ X.off;clear bq ht hne bl;go_wp2_with fail;refine rgn (d.heap.size+1) (by kernel_rfl) X ?_;replace X:=X.drew;refine B3 [0,1,2,4] 11 (by kernel_rfl) X.off (fun _ _ _ _ _ h=> h) ?_
  iterate 4 (refine tk rfl (by rfl) (by intro w X;have Q:=F.out _ X;go_simp;(try with_reducible rfl)) ?_;try simp only[W2])
  replace Q:=F.out _ X.off;refine H0 3 (by kernel_rfl) rfl rfl (fun K hK=> ?_)
  go_simp
  go_at_call 46
  have N9:=Q.1.1.1;refine(Sf _ _ _ (HT.out.ext (C.trans X)) (by have:=(N4 VT.out).2;omega)).mono ?_;rintro e w5 ⟨u,rfl,hM,e⟩;have B:=hM.at' N9;obtain⟨_,_,_,_,_,rfl⟩:=B.three;clear hM N9;replace X:=X.trans e;replace Q:=F.out _ X.off;refine hK.out _ _ X.off (fun _=> ?_);refine H0 5 (by kernel_rfl) rfl rfl (fun K hK=> ?_)
  go_simp
  go_at_call 46
  have N9:=Q.1.1.1;refine(Sf _ _ _ (Q.1.2.2.2.2.lies') (by have:=(N4 V1.out).2;omega)).mono ?_;rintro e w6 ⟨u,rfl,hM,e⟩;have ha:=hM.at' N9;obtain⟨_,_,_,_,_,rfl⟩:=ha.three;clear hM N9;replace B:=B.later e;replace X:=X.trans e;replace Q:=F.out _ X.off;refine hK.out _ _ X.off (fun _=> ?_);refine H0 6 (by kernel_rfl) rfl rfl (fun K hK=> ?_)
  go_simp
  obtain⟨e,o7⟩:=Cd 25 ha Q.1.1.1;replace B:=B.later e;replace X:=X.trans e;replace Q:=F.out _ X.off;refine hK.out _ _ X.off (fun _=> ?_);clear ha;refine H0 7 (by kernel_rfl) rfl rfl (fun K hK=> ?_)
  go_simp
  go_at_call 60
  refine(db 11 Q.1.1.1 o7 rfl).mono ?_;rintro e w7 ⟨A7,c7,rfl,hr,e⟩;replace B:=B.later e;replace X:=X.trans e;replace Q:=F.out _ X.off;refine hK.out _ _ X.off (fun _=> ?_);clear o7;refine H0 8 (by kernel_rfl) rfl rfl (fun K hK=> ?_)
  go_simp
  obtain⟨e,o7⟩:=Zc 25 Q.2.2 B hr Q.1.1.1;replace X:=X.trans e;replace Q:=F.out _ X.off;refine hK.out _ _ X.off (fun _=> ?_);clear B hr;refine H0 9 (by kernel_rfl) rfl rfl (fun K hK=> ?_)
  go_simp
  go_at_call 60
  refine(db 12 Q.1.1.1 o7 rfl).mono ?_;rintro e w8 ⟨A9,c9,rfl,hp,e⟩;replace X:=X.trans e;replace Q:=F.out _ X.off;refine hK.out _ _ X.off (fun _=> ?_);clear o7;refine H0 10 (by kernel_rfl) rfl rfl (fun K hK=> ?_)
  go_simp
  go_at_call 63
  refine(dD L _ _ (Z3.out.ext X) _ _ hp q HQ.out).mono ?_;rintro e w9 ⟨u,rfl,O,e⟩;replace X:=X.trans e;replace Q:=F.out _ X.off;refine hK.out _ _ X.off (fun _=> ?_);obtain⟨_,_,_,_,_,rfl⟩:=O.three;clear hp;refine B3 [11,12] 2 (by kernel_rfl) X.off (fun _ _ _ _ _ h=> h) ?_
  iterate 2 (refine tk rfl (by rfl) (by intro w X;go_simp;(try with_reducible rfl)) ?_;try simp only[W2])
  have R:=cbn (X.blk br);refine H0 13 (by kernel_rfl) rfl rfl (fun K hK=> ?_)
  go_simp
  refine hK.out _ _ (X.off.set3 _ _ _) (fun _=> ?_);refine B3 [14] 0 (by kernel_rfl) (X.off.set3 _ _ _) (fun _ _ _ _ _ h=> h) ?_;refine tk rfl (by rfl) (by intro w X;go_simp;(try with_reducible rfl)) ?_
  try simp only[W2]
  refine wpAnyH_done (by kernel_rfl) ?_ _;go_wp2_with fail;exact L7 (by simp[aS,results20,go_sem,R]) (O) (Od rfl) (C.trans X) (aR _) rfl
end Go.Proofs.YtckhbnmfnpolgaaGreat
namespace Go.Proofs.YtckhbnmfnpolgaaGreat
open Go.RowKit
open M (Hd HR Cv Ty j2 rc a7 O5 dep DG fvb)
theorem Cl{f:Nat}{G:List M.Tm}{t A:M.Tm}(hG:y6 G)(h8:G.length<=8)(v:valid sigT (enc t)=true)(ht:Ty G t A)(lt:j2 G t):Nb (Ra f (ctxE G) (enc t)):=
 (dE hG h8 (by simp[v])).thn fun _ _=>(Nk f G t A hG v ht lt).thn fun _ _=> Nb.ok _
theorem Tl{f:Nat}{G:List M.Tm}{t:M.Tm}{s:Tr}(h:Ra f (ctxE G) (enc t)=some (s,0)): ∃A,s=enc A/\Ty G t A/\j2 G t/\valid sigT (enc A)=true:=by
 obtain⟨j,a,A,d,-,-,c,-,rfl,g,b,i,-⟩:=Nn h;cases Wq d
 cases wd c
 exact⟨A,rfl,g,b,i⟩
theorem Nz{B:M.Tm}(h:(enc B).kind=11): ∃a,B= .refl a:=by
 cases B <;> simp[enc,Tr.kind] at h <;> exact⟨_,rfl⟩
section
variable {G : List M.Tm} {e T l r A : M.Tm}
theorem Gb.typH(h:Gb G e T l r)(k:Ty G (I4 T l e) A):HR A (.id T r l):=by
 cases k with
 |move a d g m f i n j=>
  obtain⟨E,b,c⟩:=h.hE;obtain rfl:=b.det a;obtain⟨rfl,rfl,rfl⟩:=c.id_det d;have:=HR.one (Hd.beta T (.id (M.Tm.wk T) (.var 0) (M.Tm.wk l)) r);rw[show(M.Tm.id (M.Tm.wk T) (.var 0) (M.Tm.wk l)).inst r= .id ((M.Tm.wk T).inst r) r ((M.Tm.wk l).inst r) from rfl,M.Tm.wk_inst,M.Tm.wk_inst] at this;exact this
theorem Gb.twice(h:Gb G e T l r)(b:j2 G (I4 T l e))(a:Gb G (I4 T l e) T r l): ∃B,Ty G (I4 T r (I4 T l e)) B/\j2 G (I4 T r (I4 T l e)):=by
 obtain⟨j,C,c,x⟩:=a.body;obtain⟨o,g,f,D⟩:=h.body;obtain⟨i,hi,S,v,m⟩:=a.hT;obtain⟨P,w,z⟩:=a.hE;obtain⟨R,t,u⟩:=a.hl;have d:Cv (.id R r r) (.app (.lam T (.id (M.Tm.wk T) (.var 0) (M.Tm.wk r))) r):=by
  have:=(HR.one (Hd.beta T (.id (M.Tm.wk T) (.var 0) (M.Tm.wk r)) r)).cv;rw[show(M.Tm.id (M.Tm.wk T) (.var 0) (M.Tm.wk r)).inst r= .id ((M.Tm.wk T).inst r) r ((M.Tm.wk r).inst r) from rfl,M.Tm.wk_inst,M.Tm.wk_inst] at this;exact(Cv.id u (Cv.rfl' _) (Cv.rfl' _)).trans this.symm
 have p:j=o:=by
  cases c with
  |id t1 t2 _ _ _ _=>
   cases f with
   |id q y _ _ _ _=>
    obtain rfl:=t1.det q;exact t2.sort_det y
 subst p;refine⟨_,.move w z (.lam v m c) (.refl _) (Cv.rfl' _) (.refl _) (.refl t) d,⟨a.lT,x,fun B k n s=> ?_⟩,b,a.lrf⟩;obtain rfl:=c.det n;exact b.1.2.2 _ k f s
end
theorem kA{G:List M.Tm}{e T l r A:M.Tm}(h:Gb G e T l r)(k:Ty G (I4 T l e) A)(b:j2 G (I4 T l e))(v:valid sigT (enc (I4 T l e))=true){f:Nat}{q:Tr×Int}(d:Q0 (Ra f (ctxE G) (enc (I4 T l e))) 10=some q):(q.2=0\/q.2=2)/\(q.2=0->q.1=enc (.id T r l)/\Gb G (I4 T l e) T r l):=by
 refine⟨((Cl h.hG h.h8 v k b).frm fun s hs=> ?_) q.1 q.2 d,fun j=> ?_⟩
 · obtain⟨m,rfl,a,-,-⟩:=Tl hs
   exact⟨m,_,rfl,h.typH a,by simp[M.hk],rfl⟩
 · obtain⟨s,c⟩:=q
   subst j;obtain⟨t,u,w,p,o,a,g,rfl,hS⟩:=uC d;cases Wq a
   cases wd g
   obtain⟨E,n,i⟩:=hS.hE;obtain⟨rfl,rfl,rfl⟩:=(h.typH n).id_det i;exact⟨rfl,hS⟩
theorem QF{G:List M.Tm}{e T l r:M.Tm}(h:Gb G e T l r)(b:j2 G (I4 T l e))(j:Gb G (I4 T l e) T r l){f:Nat}{q:Tr×Int}(a:zd f (ctxE G) (enc (I4 T r (I4 T l e)))=some q):
 (q.2=0\/q.2=2)/\(q.2=0->q.1=enc (I4 T r (I4 T l e))/\valid sigT (enc (I4 T r (I4 T l e)))=true):=by
 unfold zd at a
 split at a
 · rename_i hv
   obtain⟨B,k,g⟩:=h.twice b j;refine⟨((Cl h.hG h.h8 hv k g).thn fun _ _=> Nb.ok _) q.1 q.2 a,fun i=>⟨?_,hv⟩⟩;obtain⟨s,c⟩:=q;subst i;obtain⟨u,-,d⟩:=ga a;simp only[cM,Prod.mk.injEq,and_true] at d;exact d.symm
 · obtain rfl:=cN a
   exact⟨.inr rfl,fun h=> by cases h⟩
theorem DA{G:List M.Tm}{e T l r:M.Tm}(h:Gb G e T l r)(a:j2 G (I4 T l e))(c:Gb G (I4 T l e) T r l)(v:valid sigT (enc (I4 T r (I4 T l e)))=true){f o:Nat}{s:Tr}(hs:Ra f (ctxE G) (enc e)=some (s,0)):Nb (Ys o (ctxE G) (enc (I4 T r (I4 T l e))) s):=by
 obtain⟨A,rfl,j,i,n⟩:=Tl hs;obtain⟨B,d,m⟩:=h.twice a c;obtain⟨E,g,b⟩:=h.hE;obtain rfl:=g.det j;refine Sj h.hG h.h8 v n d m ((c.typH d).cv.trans b.cv.symm) ?_;rcases j2.type g h.hG.wf i with rfl|k
 · cases b with
   |step p _=> cases p
 · exact k
theorem uE{G:List M.Tm}{e T l r:M.Tm}(h:Gb G e T l r)(hk:(enc e).kind=11):Cv (I4 T l e) e:=by
 obtain⟨a,rfl⟩:=Nz hk;obtain⟨E,b,c⟩:=h.hE;cases b with
 |refl d=>
  have:=HR.at c (by simp[M.hk]);simp only[M.Tm.id.injEq] at this;obtain⟨rfl,rfl,rfl⟩:=this;exact(HR.one (Hd.mr _ _ _)).cv
end Go.Proofs.YtckhbnmfnpolgaaGreat
namespace Go.Proofs.YtckhbnmfnpolgaaGreat
open Go Go.RowKit
attribute [local go_sem ↓] Go.wp_at_zero Go.wp_at_succ
def Wl(f:Nat)(G:List Tr)(T:Tr)(z:Bool):An:=if z=true/\valid sigT T=true then thn (Ra f G T) fun _=> some (T,0) else some (D2,2)
theorem Pq{k n:Int}{a:List Tr}{x:Tr}(h:valid sigT (.mk k n a)=true)(hx:x∈a):valid sigT x=true:=wA h hx
theorem InT.w{w:World}{N:Nat->Prop}{r:Nat}{t:Tr}{v:Value}(h:InT w (fun b=> N b/\b≠r) t v):InT w (fun b=> b≠r) t v:=InT.mono (fun b a=> a.2) (fun _ _=> rfl) h
theorem dp{f:Nat}{G:List Tr}{T:Tr}{z:Bool}{q:Tr×Int}(h:Wl f G T z=some q): ∃m,Hid (m=if z=true then mkV T else(D2,2))/\Hid (m.2=0->m.1=T/\valid sigT T=true/\thn (Ra f G T) (fun _=> some (T,0))=some q)/\Hid (m.2≠0->q=(D2,m.2)):=by
 refine⟨_,hdq rfl,hdq ?_,hdq ?_⟩
 all_goals
  unfold Wl at h;unfold mkV;cases z <;> cases hv:valid sigT T <;> simp[hv] at h⊢
 · exact h
 · exact h.symm
 · exact h.symm
 · exact h.symm
theorem cI(f:Nat)(G:List Tr)(A:Option Addr)(ca:Nat)(i:World)(hG:V8 i A G)(J:G.length<=ca)(x:ca<=maxLen)(t:Tr)(z:Bool)(v:Value)(N:Nat->Prop)(hN: ∀b,i.heap.size<=b->N b)(ht:Lies i t v)(q:Tr×Int)(h:Wl f G t z=some q):Calls prog 59 #[.slice A G.length ca,v,.bool z] i (n9 N i q):=by
 have HI:=hdq (fun W (Y:Ext i W) N hN t v ht q w=> cL f G A ca W (hG.ext Y) J x t v ht N hN q w);obtain⟨m,Z,H,C⟩:=dp h;have E:=hdq ht;obtain⟨k,n,ks⟩:=t;obtain⟨At,ct,rfl,-⟩:=Lies.mk_iff.1 ht;clear h ht hG;go_enter func59,ntmps59;go_wp2_with fail;generalize d:aO (aO i _) _=L;obtain⟨a,br,S⟩:=sn2 d.symm hN;have F:=hdq (S);have X:=xr L;have Q:=F.out _ X.off;clear S hN d;have j:=hdq (InT.keep E.out a (g:=i.heap.size+1) (aR _));clear E;refine(Np _ z _ _ _ (j.out.later X)).mono ?_;rintro e w2 ⟨u,rfl,hT,e⟩;replace X:=X.trans e;replace Q:=F.out _ X.off;rw[<-Z.out] at hT⊢;obtain⟨m,c⟩:=m;obtain⟨_,_,_,_,_,rfl⟩:=hT.three;simp only at hT⊢;clear j;obtain⟨B,t⟩ |rfl:=cz c
 · have R:=cbn (X.blk br)
   have y:=fun o=> cbn ((X.alloc o).blk br)
   go_wp2_with fail;exact v9 (by simp[aS,results59,go_sem,R,y]) (C.out B.out) (((a.trans X).alloc _).set3 (aR _) _ _ _) rfl
 obtain⟨rfl,hv,w⟩:=H.out rfl;have HV:=hdq (N4 hv).2;clear hv;obtain⟨s,c,P,V,K⟩:=g8 w;clear w H C;go_wp2_with fail;generalize d:aO w2 _=w3;obtain⟨p,e⟩:=nb d;replace F:=hdq (both (rb F.out (X.trans e)) (both (k8 p (X.ne br)) (hT.up e)));replace X:=X.trans e;replace br:=X.blk br;replace a:=a.trans X;replace X:=xr w3;replace Q:=F.out _ X.off;clear d p e;clear hT;refine(HI.out _ (a.trans X) _ Q.1.1 _ _ Q.2.2.lies' _ P.out).mono ?_;rintro e O ⟨u,rfl,hT,e⟩;replace X:=X.trans e;replace Q:=F.out _ X.off;obtain⟨_,_,_,_,_,rfl⟩:=hT.three;simp only;clear hT;obtain⟨B,t⟩ |rfl:=cz c
 · have R:=cbn (X.blk br)
   have y:=fun o=> cbn ((X.alloc o).blk br)
   go_wp2_with fail;exact v9 (by simp[aS,results59,go_sem,R,y]) (K.out B.out) (((a.trans X).alloc _).set3 (aR _) _ _ _) rfl
 go_wp2_with fail;generalize d:aO O _=U;obtain⟨p,e⟩:=nb d;replace F:=hdq (both (rb F.out (X.trans e)) (k8 p (X.ne br)));replace X:=X.trans e;replace br:=X.blk br;replace a:=a.trans X;replace X:=xr U;replace Q:=F.out _ X.off;clear d p e;have I:=Q.1.1.1;refine(Oi _ _ _ Q.1.2.2.lies' (by have:=HV.out;omega)).mono ?_;rintro e w6 ⟨u,rfl,D,e⟩;replace X:=X.trans e;replace Q:=F.out _ X.off;have hT:=D.at' I;obtain⟨_,_,_,_,_,rfl⟩:=hT.three;clear D;have R:=cbn (X.blk br);go_wp2_with fail;exact L7 (by simp[aS,results59,go_sem,R]) (hT) (Od (cN (V.out (by trivial))).symm) (a.trans X) (aR _) rfl
end Go.Proofs.YtckhbnmfnpolgaaGreat
namespace Go.Proofs.YtckhbnmfnpolgaaGreat
open Go.RowKit
open M (Hd HR Cv Ty j2 rc a7 O5 dep DG fvb)
theorem NC.ren{n:Nat}{t:M.Tm}(h:NC n t): ∀{m:Nat} {r:Nat->Nat},(∀i,i < n->r i < m)->NC m (t.ren r):=by
 have up: ∀{n m:Nat} {r:Nat->Nat},(∀i,i < n->r i < m)-> ∀i,i < n+1->M.Tm.upr r i < m+1:=fun h i hi=> by
  cases i with
  |zero=> exact Nat.succ_pos _
  |succ i=> have:=h i (by omega);simp only[M.Tm.upr];omega
 induction h with
 |var hi=> intro m r hr;exact .var (hr _ hi)
 |zero=> intro m r hr;exact .zero
 |succ _ a=> intro m r hr;exact .succ (a hr)
 |app _ _ a b=> intro m r hr;exact .app (a (up hr)) (b hr)
 |elim _ _ _ a b c=> intro m r hr;exact .elim (a hr) (b (up (up hr))) (c hr)
 |fst _ _ a b=> intro m r hr;exact .fst (a hr) (b hr)
 |snd _ _ a b=> intro m r hr;exact .snd (a hr) (b hr)
 |move _ _ a b=> intro m r hr;exact .move (a hr) (b hr)
theorem NC.wk{n:Nat}{t:M.Tm}(h:NC n t):NC (n+1) (M.Tm.wk t):=h.ren fun i hi=> by omega
theorem NC.sub{n:Nat}{t:M.Tm}(h:NC n t): ∀{m:Nat} {s:Nat->M.Tm},(∀i,i < n->NC m (s i))->NC m (t.sub s):=by
 have up: ∀{n m:Nat} {s:Nat->M.Tm},(∀i,i < n->NC m (s i))-> ∀i,i < n+1->NC (m+1) (M.Tm.ups s i):=fun h i hi=> by
  cases i with
  |zero=> exact .var (Nat.succ_pos _)
  |succ i=> exact(h i (by omega)).wk
 induction h with
 |var hi=> intro m s hs;exact hs _ hi
 |zero=> intro m s hs;exact .zero
 |succ _ a=> intro m s hs;exact .succ (a hs)
 |app _ _ a b=> intro m s hs;exact .app (a (up hs)) (b hs)
 |elim _ _ _ a b c=> intro m s hs;exact .elim (a hs) (b (up (up hs))) (c hs)
 |fst _ _ a b=> intro m s hs;exact .fst (a hs) (b hs)
 |snd _ _ a b=> intro m s hs;exact .snd (a hs) (b hs)
 |move _ _ a b=> intro m s hs;exact .move (a hs) (b hs)
theorem zl{n:Nat}{t:M.Tm}(h:NC n t): ∀{G:List M.Tm},y6 G->G.length<=20->valid sigT (enc t)=true->Ag G t:=by
 have i: ∀{G:List M.Tm},y6 G->G.length<=20->Ag G .nat:=fun hG hl=> k7 hG hl _ (by decide+kernel) trivial trivial
 have j: ∀{G:List M.Tm} {B:M.Tm},y6 G->G.length<=20->valid sigT (enc (.lam .nat B))=true->(y6 (.nat::G)->G.length+1<=20->valid sigT (enc B)=true->Ag (.nat::G) B)->Ag G (.lam .nat B):=fun{G B} hG hl hv k=>
  k7 hG hl _ hv ⟨i hG hl,fun b y=> k (hG.cons b (by decide+kernel)) (by omega) (Z0 hv (by simp))⟩ trivial
 have p: ∀{G:List M.Tm},y6 G->G.length<=20->Ag G (.lam .nat .nat):=fun hG hl=> j hG hl (by decide+kernel) fun d g _=> i d g
 have w: ∀{G:List M.Tm},y6 G->G.length<=20->Ag G (.sg .nat .nat):=fun hG hl=> k7 hG hl _ (by decide+kernel) ⟨i hG hl,fun b y=> i (hG.cons b (by decide+kernel)) (by simp only[bX];omega)⟩ trivial
 have o: ∀{G:List M.Tm} {a b:M.Tm},y6 G->G.length<=20->valid sigT (enc (.pair (.sg .nat .nat) a b))=true->Ag G a->Ag G b->Ag G (.pair (.sg .nat .nat) a b):=fun hG hl hv d g=>
  k7 hG hl _ hv ⟨w hG hl,d,g⟩ (.inl fun S X Y Z _ C _ _=> by
   cases HR.at C (by simp[M.hk])
   show valid sigT (enc .nat)=true
   decide+kernel)
 induction h with
 |var=> intro G hG hl hv;exact k7 hG hl _ hv trivial trivial
 |zero=> intro G hG hl hv;exact k7 hG hl _ hv trivial trivial
 |succ _ c=> intro G hG hl hv;exact k7 hG hl _ hv (c hG hl (Z0 hv (by simp))) trivial
 |app _ _ c f=> intro G hG hl hv;exact k7 hG hl _ hv ⟨j hG hl (Z0 hv (by simp)) fun d g m=> c d (by simpa using g) m,f hG hl (Z0 hv (by simp))⟩ trivial
 |elim _ _ _ c f q=>
  intro G hG hl hv;exact k7 hG hl _ hv ⟨p hG hl,c hG hl (Z0 hv (by simp)),j hG hl (Z0 hv (by simp)) fun d g m=> j d (by simpa using g) m fun D z F=> f D (by simpa using z) F,q hG hl (Z0 hv (by simp))⟩ (.inl fun _ _=> by decide+kernel)
 |fst _ _ c f=> intro G hG hl hv;have v:=Z0 hv (fP ..);exact k7 hG hl _ hv (o hG hl v (c hG hl (Z0 v (by simp))) (f hG hl (Z0 v (by simp)))) trivial
 |snd _ _ c f=> intro G hG hl hv;have v:=Z0 hv (fP ..);exact k7 hG hl _ hv (o hG hl v (c hG hl (Z0 v (by simp))) (f hG hl (Z0 v (by simp)))) trivial
 | @move n x a _ _ c f=>
  intro G hG hl hv;have v:valid sigT (enc (.refl x))=true:=Z0 hv (by simp);refine k7 hG hl _ hv ⟨p hG hl,k7 hG hl _ v (c hG hl (Z0 v (by simp))) trivial,f hG hl (Z0 hv (by simp))⟩ (.inl fun E T l r d g hi=> ?_);refine qv (Z0 hv (by simp)) (pv hv (by simp)) hi ?_;cases d with
  |refl d=>
   cases HR.at g (by simp[M.hk])
   have s:=(N4 hv).2;have u:cnt (enc (.lam .nat .nat))=3:=rfl;simp only[enc,cnt,O1] at s u⊢;omega
def XT(n:Nat)(T:M.Tm):Prop:=T= .nat\/ ∃x,NC n x/\T= .app (.lam .nat .nat) x
theorem NC.xt{n:Nat}{t:M.Tm}(h:NC n t): ∀{G:List M.Tm} {T:M.Tm},NG n G->Ty G t T->XT n T:=by
 induction h with
 |var hi=>
  intro G T hG k;cases k with
  |var k=> rw[hG _ hi] at k;cases k;exact .inl rfl
 |zero=> intro G T hG k;cases k;exact .inl rfl
 |succ _ g=> intro G T hG k;cases k;exact .inl rfl
 | @app n a b _ p g s=>
  intro G T hG k;cases k with
  |app c d u v=>
   cases c with
   |lam j m f=>
    have:=HR.at d (by simp[M.hk]);simp only[M.Tm.pi.injEq] at this;obtain⟨rfl,rfl⟩:=this;rcases g hG.cons f with rfl|⟨x,hx,rfl⟩
    · exact .inl rfl
    · exact .inr ⟨_,hx.sub fun i hi=> by cases i with|zero=> exact p|succ i=> exact .var (by omega),rfl⟩
 |elim _ _ o=> intro G T hG k;cases k with|elim=> exact .inr ⟨_,o,rfl⟩
 |fst=>
  intro G T hG k;cases k with
  |fst c d=>
   cases c with
   |pair j m f=>
    have:=HR.at d (by simp[M.hk]);simp only[M.Tm.sg.injEq] at this;exact .inl this.1
 |snd=>
  intro G T hG k;cases k with
  |snd c d=>
   cases c with
   |pair j m f=>
    have:=HR.at d (by simp[M.hk]);simp only[M.Tm.sg.injEq] at this;rw[this.2];exact .inl rfl
 |move q=>
  intro G T hG k;cases k with
  |move c d=>
   cases c with
   |refl c=>
    have:=HR.at d (by simp[M.hk]);simp only[M.Tm.id.injEq] at this;rw[this.2.2];exact .inr ⟨_,q,rfl⟩
def nL(k n:Int):List M.Tm->M.Tm
 | []=> if k=1 then .var n.toNat else if k=2 then .sort n.toNat else if k=6 then .nat else .zero
 | [a]=> if k=8 then .succ a else if k=11 then .refl a else if k=15 then .fst a else .snd a
 | [a,b]=> if k=3 then .pi a b else if k=4 then .lam a b else if k=5 then .app a b else .sg a b
 | [a,b,c]=> if k=10 then .id a b c else if k=12 then .move a b c else .pair a b c
 |a::b::c::d::_=> .elim a b c d
mutual
def Ql:Tr->M.Tm
 | .mk k n a=> nL k n (Sy a)
def Sy:List Tr->List M.Tm
 | []=> []
 |t::ts=> Ql t::Sy ts
end
theorem XD(t:M.Tm):Ql (enc t)=t:=by
 induction t <;> simp[enc,Ql,Sy,nL, *]
def BF(T l:M.Tm):M.Tm:= .lam T (.id (M.Tm.wk T) (.var 0) (M.Tm.wk l))
def Uu(p:M.Tm)(a:M.Tm):Prop:=(∃x,a= .refl x)\/((∃n,a= .var n)/\cnt (enc p)<=300)\/ ∃A c k R q b,a= .move (.lam A (.id c (.succ (.var (k+1))) R)) q b/\valid sigT (enc (.app p (.succ (.var k))))=true
def pG(p a:M.Tm):Bool:=match a with
 | .refl _=> true
 | .var _=> decide (cnt (enc p)<=300)
 | .move (.lam _ (.id _ (.succ (.var (k+1))) _)) _ _=> valid sigT (enc (.app p (.succ (.var k))))
 |_=> false
theorem kw{p a:M.Tm}(h:pG p a=true):Uu p a:=by
 unfold pG at h
 split at h
 · exact .inl ⟨_,rfl⟩
 · exact .inr (.inl ⟨⟨_,rfl⟩,of_decide_eq_true h⟩)
 · exact .inr (.inr ⟨_,_,_,_,_,_,rfl,h⟩)
 · cases h
theorem JB{G:List M.Tm}{p a x:M.Tm}(hG:y6 G)(c:DG G 4)(hv:valid sigT (enc (.move p a x))=true)(h:Uu p a): ∀E T l r,Ty G a E->HR E (.id T l r)->valid sigT (enc (.id T l r))=true->valid sigT (enc (.app p l))=true:=by
 rcases h with h|h|⟨A,d,k,R,q,b,rfl,h⟩
 · exact kl hG c hv (.inl h)
 · exact kl hG c hv (.inr h)
 · intro E T l r g f _
   cases g with
   | @move _ _ _ _ _ _ _ C=>
    have:=HR.one (Hd.beta A (.id d (.succ (.var (k+1))) R) C);obtain⟨-,rfl,-⟩:=f.id_det (T:= .app (.lam A (.id d (.succ (.var (k+1))) R)) C) this;exact h
def fL(G:List M.Tm)(a:M.Tm):Bool:=match Q0 (Ra 30 (ctxE G) (enc a)) 10 with
 |some (s,c)=> c==1||(c==0 && decide (dep (Ql (kd s.kids 0))<=4)&& kc (Ql (kd s.kids 0))&& kc (Ql (kd s.kids 1))&& kc (M.Tm.wk (Ql (kd s.kids 1)))&& pG (BF (Ql (kd s.kids 0)) (Ql (kd s.kids 1))) a)
 |none=> false
theorem Pw:(txts.all fun p=> p.2.all (fL p.1))=true:=by decide+kernel
def oo(T l a:M.Tm):Prop:=Uu (BF T l) a/\SG a/\((∃n m,XT n T/\NC m l)\/dep T<=4/\SG T/\SG l/\SG (M.Tm.wk l))
theorem gG{G:List M.Tm}{a T l r:M.Tm}(v:Wb G a)(h:Gb G a T l r):oo T l a:=by
 obtain⟨E,d,i⟩:=h.hE;cases v with
 | @num n a hn hc=>
  obtain⟨y,b,g,-⟩:=hc.ty (NG.rep n);obtain rfl:=b.det d;exact absurd (g.hr.det i (by simp[M.hk]) (by simp[M.hk])) (by simp)
 | @rfl a hc=>
  cases d with
  |refl b=>
   have:=HR.at i (by simp[M.hk]);simp only[M.Tm.id.injEq] at this;obtain⟨rfl,rfl,rfl⟩:=this;exact⟨.inl ⟨_,rfl⟩,hc.sg,.inl ⟨1,1,hc.xt (NG.rep 1) b,hc⟩⟩
 | @txt _ J _ ht m=>
  have hk:=List.all_eq_true.1 (List.all_eq_true.1 Pw _ ht) a m;obtain⟨z,-⟩:=Qk ht m;unfold fL at hk
  split at hk
  · rename_i s c hc
    have nb:=(Cl (f:=30) h.hG h.h8 h.ve d h.le).frm (kind:=10) (fun s e=> by
     obtain⟨F,rfl,k,-,-⟩:=Tl e;obtain rfl:=d.det k;exact⟨_,_,rfl,i,by simp[M.hk],rfl⟩) s c hc
    simp only[Bool.or_eq_true,Bool.and_eq_true,beq_iff_eq,decide_eq_true_eq] at hk;rcases hk with rfl|⟨⟨⟨⟨⟨rfl,b⟩,g⟩,o⟩,p⟩,j⟩
    · rcases nb with nb|nb <;> cases nb
    · obtain⟨D,H,y,C,B,k,q,rfl,hS⟩:=uC hc
      cases Wq k
      cases wd q
      obtain⟨I,t,w⟩:=hS.hE;obtain rfl:=d.det t;obtain⟨rfl,rfl,rfl⟩:=i.id_det w;have u:Ql (kd (enc (.id T l r)).kids 0)=T:=XD T;have x:Ql (kd (enc (.id T l r)).kids 1)=l:=XD l;rw[u] at b g j;rw[x] at o p j;exact⟨kw j,z,.inr ⟨b,ds g,ds o,ds p⟩⟩
  · cases hk
theorem KD{n:Nat}{T:M.Tm}(h:XT n T){G:List M.Tm}(hG:y6 G)(hl:G.length<=20)(hv:valid sigT (enc T)=true):Ag G T:=by
 have a: ∀{G:List M.Tm},y6 G->G.length<=20->Ag G .nat:=fun hG hl=> k7 hG hl _ (by decide+kernel) trivial trivial
 rcases h with rfl|⟨x,hx,rfl⟩
 · exact a hG hl
 · exact k7 hG hl _ hv ⟨k7 hG hl _ (by decide+kernel) ⟨a hG hl,fun b c=> a (hG.cons b (by decide+kernel)) (by simp only[bX];omega)⟩ trivial,zl hx hG hl (Z0 hv (by simp))⟩ trivial
theorem oo.ag{T l a:M.Tm}(h:oo T l a){G:List M.Tm}(hG:y6 G)(k:DG G 4)(h8:G.length<=8)(hv:valid sigT (enc (I4 T l a))=true):Ag G (I4 T l a):=by
 obtain⟨hm,y,hc⟩:=h;have hl:G.length<=20:=by omega
 have v1:valid sigT (enc (BF T l))=true:=Z0 hv (by simp[I4,BF]);have v2:valid sigT (enc (.refl l))=true:=Z0 hv (by simp[I4]);have x:valid sigT (enc a)=true:=Z0 hv (by simp[I4]);have j:valid sigT (enc T)=true:=Z0 v1 (by simp);have o:valid sigT (enc (.id (M.Tm.wk T) (.var 0) (M.Tm.wk l)))=true:=Z0 v1 (by simp);have v:valid sigT (enc l)=true:=Z0 v2 (by simp);have u:valid sigT (enc (M.Tm.wk l))=true:=Z0 o (by simp);have z:Ag G T:=by
  rcases hc with⟨n,m,g,c⟩ |⟨g,c,p,s⟩
  · exact KD g hG hl j
  · exact Ov T G c hG k hl j
 have al:Ag G l:=by
  rcases hc with⟨n,m,g,c⟩ |⟨g,c,p,s⟩
  · exact zl c hG hl v
  · exact Ov l G p hG k hl v
 have B: ∀b:a7 G T,Ag (T::G) (M.Tm.wk l):=fun b=> by
  rcases hc with⟨n,m,g,c⟩ |⟨g,c,p,s⟩
  · exact zl c.wk (hG.cons b j) (by simp only[bX];omega) u
  · exact Ov _ (T::G) s (hG.cons b j) (k.cons g) (by simp only[bX];omega) u
 refine k7 hG hl _ hv ⟨k7 hG hl _ v1 ⟨z,fun b C=> ?_⟩ trivial,Ov a G y hG k hl x,k7 hG hl _ v2 al trivial⟩ (.inl (JB hG k hv hm));have q:=hG.cons b j;have d:(T::G).length<=20:=by simp only[bX];omega
 obtain⟨lT,i,hi,S,t,w⟩:=b;exact k7 q d _ o ⟨fun f D=> vm q d (Z0 o (by simp)) (t.wk T) (j2.ren t hG.wf.wf (M.RenOk.wk T G) lT),k7 q d _ (Z0 o (by simp)) trivial trivial,B ⟨lT,i,hi,S,t,w⟩⟩ trivial
