/-
  Lemmas towards the law, 37: MHd, DrawZ, StepT, MInf.
-/
import Derived.Test.YtdkamgafpphdjaaGreatTAD
import Derived.Test.YtdkamgafpphdjaaGreatTBG
import Derived.Test.YtdkamgafpphdjaaGreatTBI
import Derived.Test.YtdkamgafpphdjaaGreatTBJ
namespace Go.Proofs.YtdkamgafpphdjaaGreat
open Go.RowKit
set_option linter.unusedVariables false
open M (Hd HR Cv)
theorem j98{k:Int}(n:Int)(ks:List Tr)(h: ¬(k=5\/k=9\/k=12\/k=15\/k=16)):hdW (.mk k n ks)=([],false):=by
 have h0:rdx k ks=0:=j94 (by omega) (by omega) (by omega) (by omega) (by omega);rw[hdW,if_neg (by rw[h0];decide),if_neg (by omega),if_neg (by omega),if_neg (by omega)]
def HdE(t:M.Tm):Prop:=(∀p,hdW (enc t)=(p,true)-> ∃u,conA (enc t) p=enc u/\Hd t u)/\((hdW (enc t)).2=false-> ∀u,¬Hd t u)
theorem HdE.leaf{t:M.Tm}(h:hdW (enc t)=([],false))(no: ∀u,¬Hd t u):HdE t:=
 ⟨fun p e=> by rw[h] at e;simp at e,fun _=> no⟩
theorem HdE.root{t u:M.Tm}(h:hdW (enc t)=([],true))(e:ctrT (enc t)=enc u)(k:Hd t u):HdE t:=
 ⟨fun p q=> by
  rw[h] at q;simp only[Prod.mk.injEq,and_true] at q;subst q;exact⟨u,by rw[j210,e],k⟩,fun q=> by rw[h] at q;cases q⟩
theorem j182: ∀t:M.Tm,HdE t:=by
 intro t
 induction t with
 |var n=> exact .leaf (j98 _ _ (by omega)) fun u h=> by cases h
 |sort n=> exact .leaf (j98 _ _ (by omega)) fun u h=> by cases h
 |pi A B=> exact .leaf (j98 _ _ (by omega)) fun u h=> by cases h
 |lam A B=> exact .leaf (j98 _ _ (by omega)) fun u h=> by cases h
 |nat=> exact .leaf (j98 _ _ (by omega)) fun u h=> by cases h
 |zero=> exact .leaf (j98 _ _ (by omega)) fun u h=> by cases h
 |succ a=> exact .leaf (j98 _ _ (by omega)) fun u h=> by cases h
 |id T a b=> exact .leaf (j98 _ _ (by omega)) fun u h=> by cases h
 |refl a=> exact .leaf (j98 _ _ (by omega)) fun u h=> by cases h
 |sg A B=> exact .leaf (j98 _ _ (by omega)) fun u h=> by cases h
 |pair T a b=> exact .leaf (j98 _ _ (by omega)) fun u h=> by cases h
 |app f a i1 i2=>
  by_cases hl: ∃A b,f= .lam A b
  · obtain⟨A,b,rfl⟩:=hl
    exact .root (by simp[enc,hdW,rdx,kd,Tr.kind]) (y55 b a) (.beta A b a)
  · have hk:(enc f).kind≠4:=by intro h;cases f <;> simp[enc,Tr.kind] at h;exact hl ⟨_,_,rfl⟩
    have h0: ¬rdx 5 [enc f,enc a]≠0:=fun h=> by
     rcases q34 h with h|h|h|h|h|h <;> first|exact hk h.2|omega
    have e:hdW (enc (.app f a))=(((0:Nat):Int)::(hdW (enc f)).1,(hdW (enc f)).2):=by
     show hdW (.mk 5 0 [enc f,enc a])=_
     rw[hdW,if_neg h0,if_pos (.inl rfl),hdWs]
     rfl
    refine⟨fun p h=> ?_,fun h u hu=> ?_⟩
    · rw[e] at h
      simp only[Prod.mk.injEq] at h;obtain⟨rfl,h2⟩:=h;obtain⟨u,h3,h4⟩:=i1.1 _ (by rw[<-h2]);refine⟨.app u a, ?_, .app a h4⟩
      show conA (.mk 5 0 [enc f,enc a]) _=_
      rw[j58 (k:=5) (n:=0) (ks:= [enc f,enc a]) (i:=0) (p:=(hdW (enc f)).1) (by simp) (j112 (enc f) _ (by rw[<-h2]))]
      show Tr.mk 5 0 [conA (enc f) _,enc a]=_
      rw[h3]
      rfl
    · rw[e] at h
      cases hu with
      |beta=> exact hl ⟨_,_,rfl⟩
      |app _ h5=> exact i1.2 h _ h5
 |elim p z s a i1 i2 i3 i4=>
  by_cases hz:a= .zero
  · subst hz
    exact .root (by simp[enc,hdW,rdx,kd,Tr.kind]) rfl (.ez p z s)
  by_cases hl: ∃b,a= .succ b
  · obtain⟨b,rfl⟩:=hl
    exact .root (by simp[enc,hdW,rdx,kd,Tr.kind]) rfl (.es p z s b)
  · have hk:(enc a).kind≠7:=by intro h;cases a <;> simp[enc,Tr.kind] at h;exact hz rfl
    have hk2:(enc a).kind≠8:=by intro h;cases a <;> simp[enc,Tr.kind] at h;exact hl ⟨_,rfl⟩
    have h0: ¬rdx 9 [enc p,enc z,enc s,enc a]≠0:=fun h=> by
     rcases q34 h with h|h|h|h|h|h <;> first|exact hk h.2|exact hk2 h.2|omega
    have e:hdW (enc (.elim p z s a))=(((3:Nat):Int)::(hdW (enc a)).1,(hdW (enc a)).2):=by
     show hdW (.mk 9 0 [enc p,enc z,enc s,enc a])=_
     rw[hdW,if_neg h0,if_neg (by omega),if_pos rfl,hdWs,hdWs,hdWs,hdWs]
     rfl
    refine⟨fun q h=> ?_,fun h u hu=> ?_⟩
    · rw[e] at h
      simp only[Prod.mk.injEq] at h;obtain⟨rfl,h2⟩:=h;obtain⟨u,h3,h4⟩:=i4.1 _ (by rw[<-h2]);refine⟨.elim p z s u, ?_, .elim p z s h4⟩
      show conA (.mk 9 0 [enc p,enc z,enc s,enc a]) _=_
      rw[j58 (k:=9) (n:=0) (ks:= [enc p,enc z,enc s,enc a]) (i:=3) (p:=(hdW (enc a)).1) (by simp) (j112 (enc a) _ (by rw[<-h2]))]
      show Tr.mk 9 0 [enc p,enc z,enc s,conA (enc a) _]=_
      rw[h3]
      rfl
    · rw[e] at h
      cases hu with
      |ez=> exact hz rfl
      |es=> exact hl ⟨_,rfl⟩
      |elim _ _ _ h5=> exact i4.2 h _ h5
 |move p m a i1 i2 i3=>
  by_cases hl: ∃b,m= .refl b
  · obtain⟨b,rfl⟩:=hl
    exact .root (by simp[enc,hdW,rdx,kd,Tr.kind]) rfl (.mr p b a)
  · have hk:(enc m).kind≠11:=by intro h;cases m <;> simp[enc,Tr.kind] at h;exact hl ⟨_,rfl⟩
    have h0: ¬rdx 12 [enc p,enc m,enc a]≠0:=fun h=> by
     rcases q34 h with h|h|h|h|h|h <;> first|exact hk h.2|omega
    have e:hdW (enc (.move p m a))=(((1:Nat):Int)::(hdW (enc m)).1,(hdW (enc m)).2):=by
     show hdW (.mk 12 0 [enc p,enc m,enc a])=_
     rw[hdW,if_neg h0,if_neg (by omega),if_neg (by omega),if_pos rfl,hdWs,hdWs]
     rfl
    refine⟨fun q h=> ?_,fun h u hu=> ?_⟩
    · rw[e] at h
      simp only[Prod.mk.injEq] at h;obtain⟨rfl,h2⟩:=h;obtain⟨u,h3,h4⟩:=i2.1 _ (by rw[<-h2]);refine⟨.move p u a, ?_, .move p a h4⟩
      show conA (.mk 12 0 [enc p,enc m,enc a]) _=_
      rw[j58 (k:=12) (n:=0) (ks:= [enc p,enc m,enc a]) (i:=1) (p:=(hdW (enc m)).1) (by simp) (j112 (enc m) _ (by rw[<-h2]))]
      show Tr.mk 12 0 [enc p,conA (enc m) _,enc a]=_
      rw[h3]
      rfl
    · rw[e] at h
      cases hu with
      |mr=> exact hl ⟨_,rfl⟩
      |move _ _ h5=> exact i2.2 h _ h5
 |fst a i1=>
  by_cases hl: ∃T x y,a= .pair T x y
  · obtain⟨T,x,y,rfl⟩:=hl
    exact .root (by simp[enc,hdW,rdx,kd,Tr.kind]) rfl (.fp T x y)
  · have hk:(enc a).kind≠14:=by intro h;cases a <;> simp[enc,Tr.kind] at h;exact hl ⟨_,_,_,rfl⟩
    have h0: ¬rdx 15 [enc a]≠0:=fun h=> by
     rcases q34 h with h|h|h|h|h|h <;> first|exact hk h.2|omega
    have e:hdW (enc (.fst a))=(((0:Nat):Int)::(hdW (enc a)).1,(hdW (enc a)).2):=by
     show hdW (.mk 15 0 [enc a])=_
     rw[hdW,if_neg h0,if_pos (.inr (.inl rfl)),hdWs]
     rfl
    refine⟨fun q h=> ?_,fun h u hu=> ?_⟩
    · rw[e] at h
      simp only[Prod.mk.injEq] at h;obtain⟨rfl,h2⟩:=h;obtain⟨u,h3,h4⟩:=i1.1 _ (by rw[<-h2]);refine⟨.fst u, ?_, .fst h4⟩
      show conA (.mk 15 0 [enc a]) _=_
      rw[j58 (k:=15) (n:=0) (ks:= [enc a]) (i:=0) (p:=(hdW (enc a)).1) (by simp) (j112 (enc a) _ (by rw[<-h2]))]
      show Tr.mk 15 0 [conA (enc a) _]=_
      rw[h3]
      rfl
    · rw[e] at h
      cases hu with
      |fp=> exact hl ⟨_,_,_,rfl⟩
      |fst h5=> exact i1.2 h _ h5
 |snd a i1=>
  by_cases hl: ∃T x y,a= .pair T x y
  · obtain⟨T,x,y,rfl⟩:=hl
    exact .root (by simp[enc,hdW,rdx,kd,Tr.kind]) rfl (.sp T x y)
  · have hk:(enc a).kind≠14:=by intro h;cases a <;> simp[enc,Tr.kind] at h;exact hl ⟨_,_,_,rfl⟩
    have h0: ¬rdx 16 [enc a]≠0:=fun h=> by
     rcases q34 h with h|h|h|h|h|h <;> first|exact hk h.2|omega
    have e:hdW (enc (.snd a))=(((0:Nat):Int)::(hdW (enc a)).1,(hdW (enc a)).2):=by
     show hdW (.mk 16 0 [enc a])=_
     rw[hdW,if_neg h0,if_pos (.inr (.inr rfl)),hdWs]
     rfl
    refine⟨fun q h=> ?_,fun h u hu=> ?_⟩
    · rw[e] at h
      simp only[Prod.mk.injEq] at h;obtain⟨rfl,h2⟩:=h;obtain⟨u,h3,h4⟩:=i1.1 _ (by rw[<-h2]);refine⟨.snd u, ?_, .snd h4⟩
      show conA (.mk 16 0 [enc a]) _=_
      rw[j58 (k:=16) (n:=0) (ks:= [enc a]) (i:=0) (p:=(hdW (enc a)).1) (by simp) (j112 (enc a) _ (by rw[<-h2]))]
      show Tr.mk 16 0 [conA (enc a) _]=_
      rw[h3]
      rfl
    · rw[e] at h
      cases hu with
      |sp=> exact hl ⟨_,_,_,rfl⟩
      |snd h5=> exact i1.2 h _ h5
theorem y154: ∀(f:Nat) (A:M.Tm) (x:Tr),hnfC f (enc A)=(x,0)-> ∃B,x=enc B/\HR A B/\ ∀C,¬Hd B C
 |0,A,x,h=> by
  cases e:hdQ (enc A) with
  |none=>
   rw[q61 e] at h;simp only[Prod.mk.injEq,and_true] at h;exact⟨A,h.symm, .refl A,(j182 A).2 (y124 e)⟩
  |some p=> rw[j102 e] at h;cases h
 |f+1,A,x,h=> by
  cases e:hdQ (enc A) with
  |none=>
   rw[q61 e] at h;simp only[Prod.mk.injEq,and_true] at h;exact⟨A,h.symm, .refl A,(j182 A).2 (y124 e)⟩
  |some p=>
   by_cases hc:valid sigT (conA (enc A) p)=true
   · rw[j141 e hc] at h
     obtain⟨u,h1,h2⟩:=(j182 A).1 p (y82 e);rw[h1] at h;obtain⟨B,h3,h4,h5⟩:=y154 f u x h;exact⟨B,h3, .step h2 h4,h5⟩
   · rw[y142 e (Bool.eq_false_iff.2 hc)] at h
     cases h
theorem j55{A:M.Tm}{x:Tr}{f:Int}(h:hnfV (enc A) f=(x,0)): ∃B,x=enc B/\HR A B/\(∀C,¬Hd B C)/\valid sigT (enc B)=true:=by
 have hv:=(j97 h).2.2.2;unfold hnfV at h
 split at h
 · obtain⟨B,rfl,h1,h2⟩:=y154 _ A x h
   exact⟨B,rfl,h1,h2,hv⟩
 · cases h
theorem q116{A B c:M.Tm}(h:HR A B)(hs: ∀C,¬Hd B C)(k:HR A c)(hc:M.hk c≠0):B=c:=by
 have:=h.after k hc;cases this with
 |refl=> rfl
 |step h1 _=> exact absurd h1 (hs _)
theorem j214{A B:M.Tm}(h:y96 (enc A) (enc B) 200=1):Cv A B:=by
 unfold y96 at h
 split at h
 · rename_i hv
   simp only[Bool.and_eq_true] at hv
   split at h
   · rename_i e
     rw[q191 e];exact Cv.rfl' _
   · split at h
     · rename_i h1
       split at h
       · rename_i h2
         obtain⟨r1,-,-⟩:=j57 (200:Int).toNat (enc A) (nrmC (200:Int).toNat (enc A)).1 hv.1 (by rw[<-h1.1]);obtain⟨r2,-,-⟩:=j57 (200:Int).toNat (enc B) (nrmC (200:Int).toNat (enc B)).1 hv.2.1 (by rw[<-h1.2]);obtain⟨m,e1,q1⟩:=y179 r1 rfl;obtain⟨m',e2,q2⟩:=y179 r2 rfl;have:m=m':=q191 (by rw[<-e1,<-e2,h2]);subst this;exact⟨m,q1,q2⟩
       · simp at h
     · simp at h
 · simp at h
theorem conv_no{A B:M.Tm}(h:y96 (enc A) (enc B) 200=2): ¬Cv A B:=by
 intro hc;unfold y96 at h
 split at h
 · rename_i hv
   simp only[Bool.and_eq_true] at hv
   split at h
   · simp at h
   · split at h
     · rename_i h1
       split at h
       · simp at h
       · rename_i h2
         obtain⟨r1,n1,-⟩:=j57 (200:Int).toNat (enc A) (nrmC (200:Int).toNat (enc A)).1 hv.1 (by rw[<-h1.1]);obtain⟨r2,n2,-⟩:=j57 (200:Int).toNat (enc B) (nrmC (200:Int).toNat (enc B)).1 hv.2.1 (by rw[<-h1.2]);obtain⟨C,c1,c2⟩:=hc;obtain⟨d1,e1,f1⟩:=r1.meet (j181 c1);obtain⟨d2,e2,f2⟩:=r2.meet (j181 c2);rw[e1.normal n1] at f1;rw[e2.normal n2] at f2;exact h2 (Reds.unique f1 f2 n1 n2)
     · simp at h
 · simp at h
theorem j198{A B:M.Tm}(h:cvtV (enc A) (enc B)=0):Cv A B:=j214 (cvtV_ok h)
theorem cvt_nb{A B:M.Tm}(h:Cv A B):cvtV (enc A) (enc B)=0\/cvtV (enc A) (enc B)=2:=by
 unfold cvtV
 split
 · exact .inl rfl
 · split
   · rename_i h2
     exact absurd h (conv_no h2)
   · exact .inr rfl
theorem kind2{B:M.Tm}(h:(enc B).kind=2): ∃n,B= .sort n:=by
 cases B <;> simp[enc,Tr.kind] at h;exact⟨_,rfl⟩
theorem kind3{B:M.Tm}(h:(enc B).kind=3): ∃C R,B= .pi C R:=by
 cases B <;> simp[enc,Tr.kind] at h;exact⟨_,_,rfl⟩
theorem kind10{B:M.Tm}(h:(enc B).kind=10): ∃T a b,B= .id T a b:=by
 cases B <;> simp[enc,Tr.kind] at h;exact⟨_,_,_,rfl⟩
theorem kind13{B:M.Tm}(h:(enc B).kind=13): ∃C R,B= .sg C R:=by
 cases B <;> simp[enc,Tr.kind] at h;exact⟨_,_,rfl⟩
end Go.Proofs.YtdkamgafpphdjaaGreat
namespace Go.Proofs.YtdkamgafpphdjaaGreat
open Go.RowKit
set_option linter.unusedVariables false
attribute [local go_sem ↓] Go.wp_at_zero Go.wp_at_succ
set_option maxRecDepth 100000 in
set_option maxHeartbeats 4000000 in
theorem y87(w:World)(A:Option Addr)(cap:Nat)(bs:List Int)(hl:bs.length<=cap)(hc:cap<=maxLen)(hB:q57 w w.heap.size A bs):Calls Tryz.prog 13 #[.slice A bs.length cap] w fun e w'=>
 ∃B n c ks t u x p,e= .returned (.tuple #[.slice B n c,u,x])/\ks.length=n/\n<=c/\c<=maxLen/\n<=9/\p.length<=29/\j21 w' B ks/\Lies w' t u/\q19 w' (fun b=> b < w'.heap.size) x p/\Ext w w':=by
 have hx0:=(xr w).alloc (.cells #[.int .i64 0, .int .i64 0, .slice none 0 0] 25);have hb0:=heap_alloc_new w (.cells #[.int .i64 0, .int .i64 0, .slice none 0 0] 25);go_enter Tryz.func13,Tryz.ntmps13;go_wp2_with fail;refine(q142 _ A cap bs hl hc ((hB.ext hx0).mono hx0.size)).mono ?_;rintro e w1 ⟨rfl,hR,h1⟩;generalize hg:(w.alloc (.cells #[.int .i64 0, .int .i64 0, .slice none 0 0] 25)).heap.size=g at hR⊢;have hg':w.heap.size < g:=by rw[<-hg];simp
 have hb1:=h1.blk hb0;have hg1:g < w1.heap.size:=hR.lt;clear hg hb0;go_wp2_with fail;refine(y159 w1 g 0 hR (by omega)).mono ?_;rintro e w2 ⟨A2,n2,c2,ks2,t2,u2,rfl,hk2,hl2,hc2,hn2,hkc2,htc2,hK2,hF2,hR2,ho⟩;obtain⟨a1,a2,a3,a4,a5,rfl⟩:=hF2.three;subst hk2;have hxm:=(xr w2).alloc (.cells #[.int .i64 a1, .int .i64 a2, .slice a3 a4 a5] 25);have hbm:=hxm.blk (ho.keepBlk hb1 (by simp;omega));have hom:=ho.trans (oE (L:= [g]) hxm);have hKm:=hK2.ext hxm;have hFm:=hF2.ext hxm;have hRm:=hR2.ext hxm;clear hb1 hK2 hF2 hR2 hxm;go_wp2_with fail;have hs12:=ho.size;clear ho;generalize hwm:w2.alloc (.cells #[.int .i64 a1, .int .i64 a2, .slice a3 a4 a5] 25)=wm at hbm hom hKm hFm hRm⊢;have hsm:w2.heap.size < wm.heap.size:=by rw[<-hwm];simp
 clear hwm;refine(y127 ks2 t2 wm g _ _ A2 c2 w1.heap.size hFm hg1 (InK.mono (fun b hb=> hb.2) (fun _ _=> rfl) hKm) hl2 hc2 (by omega) (fun x hx=> by have:=hkc2 x hx;omega) (by omega) hRm (by omega)).mono ?_;rintro e w3 ⟨B,n,c,ks,t',u',rfl,hkn,hnc,hcm,hn9,hK3,hF3,hR3,ho3⟩;obtain⟨b1,b2,b3,b4,b5,rfl⟩:=hF3.three;have hx4:=(xr w3).alloc (.cells #[.int .i64 b1, .int .i64 b2, .slice b3 b4 b5] 25);have hb4:=heap_alloc_new w3 (.cells #[.int .i64 b1, .int .i64 b2, .slice b3 b4 b5] 25);have hb14:=hx4.blk (ho3.keepBlk hbm (by simp;omega));have hO:=((hom.trans ho3).trans (oE (L:= [g]) hx4));have hF4:=hF3.ext hx4;have hK4:=hK3.ext hx4;have hR4:=hR3.ext hx4;have hg3:=hR3.lt;have hsm3:=ho3.size;have hwm2:w.heap.size < wm.heap.size:=q10 hbm;clear hK3 hF3 hR3 hKm hFm hRm hbm;go_wp2_with fail;generalize hw4:w3.alloc _=w4 at hx4 hb4 hb14 hO hF4 hR4 hK4⊢;clear hw4;have lz:=q10 hb4;have HS:=hdq (show∀w',Only [g] w4 w'->w'.cell? ⟨w3.heap.size,0,none⟩=some (.int .i64 b1)/\w'.cell? ⟨w3.heap.size,1,none⟩=some (.int .i64 b2)/\w'.cell? ⟨w3.heap.size,2,none⟩=some (.slice b3 b4 b5) from fun w' hw=> by
  obtain⟨y0,y1,y2,-,-,-⟩:=own3 (hw.keepBlk hb4 (by simp;omega));exact⟨y0,y1,y2⟩)
 have hbR: ∀w',Only [g] w4 w'->w'.heap[w.heap.size]? =some (.cells #[.int .i64 0, .int .i64 0, .slice none 0 0] 25 (0,0)):=fun w' hw=> hw.keepBlk hb14 (by simp;omega)
 have HBR:=hdq hbR;have hwS:w.heap.size < w4.heap.size:=q10 hb14;have hs3w:w.heap.size < w3.heap.size:=by omega
 have HO4:=hdq hO;have HHS:=hdq (show∀w',Only [g] w4 w'-> ∀v0 v1 v2,(((w'.setCell ⟨w.heap.size,0,none⟩ v0).setCell ⟨w.heap.size,1,none⟩ v1).setCell ⟨w.heap.size,2,none⟩ v2).cell? ⟨w3.heap.size,0,none⟩=some (.int .i64 b1)/\(((w'.setCell ⟨w.heap.size,0,none⟩ v0).setCell ⟨w.heap.size,1,none⟩ v1).setCell ⟨w.heap.size,2,none⟩ v2).cell? ⟨w3.heap.size,1,none⟩=some (.int .i64 b2)/\(((w'.setCell ⟨w.heap.size,0,none⟩ v0).setCell ⟨w.heap.size,1,none⟩ v1).setCell ⟨w.heap.size,2,none⟩ v2).cell? ⟨w3.heap.size,2,none⟩=some (.slice b3 b4 b5) from fun w' hw v0 v1 v2=> by
  obtain⟨y0,y1,y2,-,-,-⟩:=own3 (j11 (j11 (j11 (hw.keepBlk hb4 (by simp;omega)) (p:=⟨w.heap.size,0,none⟩) (by show w3.heap.size≠w.heap.size;omega) v0) (p:=⟨w.heap.size,1,none⟩) (by show w3.heap.size≠w.heap.size;omega) v1) (p:=⟨w.heap.size,2,none⟩) (by show w3.heap.size≠w.heap.size;omega) v2);exact⟨y0,y1,y2⟩)
 clear hb14 hbR hb4 hO;have hD:Only [g] w4 w4.drew:=oE (xr w4).drew;have hx34:w3.heap.size < w4.heap.size:=lz;clear hx4
 go_region_held3 (fun w'=> w'.cell? ⟨w3.heap.size,0,none⟩=some (.int .i64 b1)/\w'.cell? ⟨w3.heap.size,1,none⟩=some (.int .i64 b2)/\w'.cell? ⟨w3.heap.size,2,none⟩=some (.slice b3 b4 b5))
  (first|exact HHS.out _ (hD.trans ho5) _ _ _|exact HS.out _ (hD.trans ho5) |exact HS.out _ hD)
  (first|(go_at_call 54;refine(j157 t' _ g _ _ (hF4.lies.ext (xr w4).drew) (hR4.ext (xr w4).drew) (by omega)).mono ?_;rintro e w5 ⟨x,p,rfl,hpl,hPA,hR5,ho5⟩;obtain⟨q0,q1,q2,r0,r1,r2⟩:=own3 (HBR.out _ (hD.trans ho5))))
 have hwS5:w.heap.size < w5.heap.size:=by have:=(hD.trans ho5).size;omega
 have hE:=(HO4.out.trans (hD.trans ho5)).ext (hx0.trans h1) (by intro b hb;simp at hb;omega);have hF5:=hF4.only (hD.trans ho5) (by intro b hb;rw[List.mem_singleton.1 hb];omega);have hK5:=hK4.only (hD.trans ho5) (by intro b hb;rw[List.mem_singleton.1 hb];omega);go_wp2_with fail;refine bodyPost_ret (v:= .tuple #[.slice B n c, .agg #[.int .i64 b1, .int .i64 b2, .slice b3 b4 b5],x]) (by simp[results,Tryz.results13,go_sem,q0,q1,q2]) rfl ⟨B,n,c,ks,t',_,x,p,rfl,hkn,hnc,hcm,hn9,hpl, ?_, ?_, ?_, ?_⟩
 · refine InK.mono (fun b hb=> by simpa using hb.2) (fun b hb=> ?_) hK5
   have hb1:wm.heap.size<=b:=hb.1;rw[Below.heap_setCell _ _ _ _ (by show b≠w.heap.size;omega),Below.heap_setCell _ _ _ _ (by show b≠w.heap.size;omega),Below.heap_setCell _ _ _ _ (by show b≠w.heap.size;omega)]
 · exact(((hF5.set (by show w.heap.size < wm.heap.size;omega) _).set (by show w.heap.size < wm.heap.size;omega) _).set (by show w.heap.size < wm.heap.size;omega) _).lies
 · refine hPA.mono (fun b hb=> by simpa using hb.2) (fun b hb=> ?_)
   have hb1:w4.heap.size<=b:=hb.1;rw[Below.heap_setCell _ _ _ _ (by show b≠w.heap.size;omega),Below.heap_setCell _ _ _ _ (by show b≠w.heap.size;omega),Below.heap_setCell _ _ _ _ (by show b≠w.heap.size;omega)]
 · exact((hE.setCell (by simp) _).setCell (by simp) _).setCell (by simp) _
end Go.Proofs.YtdkamgafpphdjaaGreat
namespace Go.Proofs.YtdkamgafpphdjaaGreat
open Go.RowKit
set_option linter.unusedVariables false
theorem j87{w:World}{base:Nat}{v:Value}{p:List Int}(h:w.ownsRow base 3 1 v p.length (p.map (Value.int .i64))): ∃B c,v= .slice B p.length c/\PFs w B p.length c p:=by
 obtain⟨B,c,rfl,h1,h2,h3⟩:=y24 h;exact⟨B,c,rfl,rfl,h1,h2,h3⟩
end Go.Proofs.YtdkamgafpphdjaaGreat
namespace Go.Proofs.YtdkamgafpphdjaaGreat
open Go.RowKit
set_option linter.unusedVariables false
open M (Hd HR Cv Ty Lim WfL TyB Lev)
def ctxE(G:List M.Tm):List Tr:=(G.map enc).reverse
theorem q39(G:List M.Tm):(ctxE G).length=G.length:=by simp[ctxE]
theorem y29(A:M.Tm)(G:List M.Tm):ctxE (A::G)=ctxE G++ [enc A]:=by simp[ctxE]
theorem j215{G:List M.Tm}{n:Nat}(h:n < G.length):kd (ctxE G) (G.length - 1 - n)=enc G[n]:=by
 unfold kd ctxE;rw[List.getD_eq_getElem?_getD,List.getElem?_reverse (by simp;omega)];simp only[List.length_map,List.getElem?_map];rw[show G.length - 1 -(G.length - 1 - n)=n by omega,List.getElem?_eq_getElem h]
 rfl
theorem y147(p:M.Tm):stpT (enc p)=enc (M.stepTy p):=by
 have h1:=q118 1 p 0;have h2:=q118 2 p 0;rw[y115] at h1 h2;unfold stpT M.stepTy;simp only[enc,natT,varT];rw[show shfT 1 (enc p) 0=enc (p.ren fun i=> i+1) from h1,show shfT 2 (enc p) 0=enc (p.ren fun i=> i+2) from h2]
 rfl
theorem j187{G:List M.Tm}{n:Nat}(h:n < G.length):lkV (ctxE G) (n:Int)=mkV (enc (G[n].ren fun i=> i+(n+1))):=by
 unfold lkV;rw[if_neg (by rw[q39];omega),q39,show(n:Int).toNat=n by omega,j215 h];have:=q118 (n+1) G[n] 0;rw[y115] at this;rw[<-this]
 rfl
theorem lk_get{G:List M.Tm}{n:Nat}(h:n < G.length):M.lk G n=some (G[n].ren fun i=> i+(n+1)):=by
 unfold M.lk;rw[List.getElem?_eq_getElem h]
 rfl
section
variable (f : Nat) (G : List Tr)
theorem q213{k:Int}{ks:List Tr}{i:Nat}(h:und k i=0):tyV (infV f) G k ks i=infV f G (kd ks i):=by unfold tyV;rw[if_pos h]
theorem y93{k:Int}{ks:List Tr}(h:und k 1=1):tyV (infV f) G k ks 1=if 20<=G.length then some (j14,2) else infV f (G++ [kd ks 0]) (kd ks 1):=by unfold tyV;rw[if_neg (by rw[h];decide)]
end
theorem pty{f:Nat}{G:List Tr}{k:Int}{ks:List Tr}{i:Nat}{r:Tr×Int}(h:und k i=0)(e:tyV (infV f) G k ks i=some r):infV f G (kd ks i)=some r:=by rwa [q213 f G h] at e
theorem uty{f:Nat}{G:List Tr}{k:Int}{ks:List Tr}{s:Tr}(h:und k 1=1)(e:tyV (infV f) G k ks 1=some (s,0)):G.length < 20/\infV f (G++ [kd ks 0]) (kd ks 1)=some (s,0):=by
 rw[y93 f G h] at e
 split at e
 · simp at e
 · exact⟨by omega,e⟩
theorem y11{k n:Int}{ks:List Tr}{x:Tr}(h:valid sigT (.mk k n ks)=true)(hm:x∈ks):valid sigT x=true:=q62 h hm
structure q27 (G:List M.Tm):Prop where
 wf:WfL G
 vd: ∀A∈G,valid sigT (enc A)=true
theorem q27.nil:q27 []:=⟨WfL.nil,fun _ h=> by simp at h⟩
theorem q27.cons{G:List M.Tm}{A:M.Tm}(h:q27 G)(b:TyB G A)(v:valid sigT (enc A)=true):q27 (A::G):=
 ⟨h.wf.cons b,fun B hB=> by
  rcases List.mem_cons.1 hB with rfl|hB
  · exact v
  · exact h.vd B hB⟩
def Snd(f:Nat):Prop:= ∀(G:List M.Tm) (t:M.Tm) (x:Tr),q27 G->valid sigT (enc t)=true->infV f (ctxE G) (enc t)=some (x,0)-> ∃A,x=enc A/\Ty G t A/\Lim G t/\valid sigT (enc A)=true
theorem q37{f:Nat}(ih:Snd f){G:List M.Tm}{A:M.Tm}{s:Tr}(hG:q27 G)(hv:valid sigT (enc A)=true)(h:frmV (infV f (ctxE G) (enc A)) 2=some (s,0)): ∃S i,s=enc (.sort i)/\Ty G A S/\HR S (.sort i)/\Lim G A/\TyB G A/\i<=3:=by
 obtain⟨u,h1,h2,h3⟩:=j52 h;obtain⟨S,rfl,tA,lA,vS⟩:=ih G A u hG hv h1;obtain⟨B,rfl,r,-,-⟩:=j55 h2;obtain⟨i,rfl⟩:=kind2 h3;have hi:=M.lev_le (Lim.type tA hG.wf lA) r;exact⟨S,i,rfl,tA,r,lA,⟨lA,i,hi,S,tA,r⟩,hi⟩
theorem j170{f:Nat}(ih:Snd f){G:List M.Tm}{t:M.Tm}{s:Tr}(hG:q27 G)(hv:valid sigT (enc t)=true)(h:frmV (infV f (ctxE G) (enc t)) 3=some (s,0)): ∃F C R,s=enc (.pi C R)/\Ty G t F/\HR F (.pi C R)/\Lim G t/\valid sigT (enc C)=true/\valid sigT (enc R)=true:=by
 obtain⟨u,h1,h2,h3⟩:=j52 h;obtain⟨F,rfl,tA,lA,vS⟩:=ih G t u hG hv h1;obtain⟨B,rfl,r,-,vB⟩:=j55 h2;obtain⟨C,R,rfl⟩:=kind3 h3;exact⟨F,C,R,rfl,tA,r,lA,y11 vB (by simp),y11 vB (by simp)⟩
theorem snd_sg{f:Nat}(ih:Snd f){G:List M.Tm}{t:M.Tm}{s:Tr}(hG:q27 G)(hv:valid sigT (enc t)=true)(h:frmV (infV f (ctxE G) (enc t)) 13=some (s,0)): ∃F C R,s=enc (.sg C R)/\Ty G t F/\HR F (.sg C R)/\Lim G t/\valid sigT (enc C)=true/\valid sigT (enc R)=true:=by
 obtain⟨u,h1,h2,h3⟩:=j52 h;obtain⟨F,rfl,tA,lA,vS⟩:=ih G t u hG hv h1;obtain⟨B,rfl,r,-,vB⟩:=j55 h2;obtain⟨C,R,rfl⟩:=kind13 h3;exact⟨F,C,R,rfl,tA,r,lA,y11 vB (by simp),y11 vB (by simp)⟩
theorem snd_id{f:Nat}(ih:Snd f){G:List M.Tm}{t:M.Tm}{s:Tr}(hG:q27 G)(hv:valid sigT (enc t)=true)(h:frmV (infV f (ctxE G) (enc t)) 10=some (s,0)): ∃F T a b,s=enc (.id T a b)/\Ty G t F/\HR F (.id T a b)/\Lim G t/\valid sigT (enc T)=true/\valid sigT (enc a)=true/\valid sigT (enc b)=true:=by
 obtain⟨u,h1,h2,h3⟩:=j52 h;obtain⟨F,rfl,tA,lA,vS⟩:=ih G t u hG hv h1;obtain⟨B,rfl,r,-,vB⟩:=j55 h2;obtain⟨T,a,b,rfl⟩:=kind10 h3;exact⟨F,T,a,b,rfl,tA,r,lA,y11 vB (by simp),y11 vB (by simp),y11 vB (by simp)⟩
theorem q48{f:Nat}(ih:Snd f){G:List M.Tm}{t W:M.Tm}{y:An}{u:Tr}(hG:q27 G)(hv:valid sigT (enc t)=true)(h:chkV (infV f (ctxE G) (enc t)) (enc W) y=some (u,0)): ∃X,Ty G t X/\Cv X W/\Lim G t/\y=some (u,0):=by
 obtain⟨s,h1,h2,h3⟩:=y44 h;obtain⟨X,rfl,tX,lX,-⟩:=ih G t s hG hv h1;exact⟨X,tX,j198 h2,lX,h3⟩
theorem q197{f:Nat}(ih:Snd f){G:List M.Tm}{p T:M.Tm}{y:An}{u:Tr}(hG:q27 G)(hv:valid sigT (enc p)=true)(h:famV (infV f (ctxE G) (enc p)) (enc T) y=some (u,0)): ∃F C D k,Ty G p F/\HR F (.pi C D)/\Cv C T/\HR D (.sort k)/\Lim G p/\y=some (u,0):=by
 obtain⟨F0,s,c,h1,h2,h3,h4,h5,h6,h7⟩:=j140 h;obtain⟨F,C,D,rfl,tF,rF,lF,-,-⟩:=j170 ih hG hv (s:=s) (by
  unfold frmV thn;rw[h1];simp only[if_true];unfold shpV;rw[if_neg (by rw[h2];simp),if_neg (by rw[h2];simpa using h3),h2])
 obtain⟨B,rfl,r,-,-⟩:=j55 (show hnfV (enc D) 200=(c,0) from h5);obtain⟨k,rfl⟩:=kind2 h6;exact⟨F,C,D,k,tF,rF,j198 h4,r,lF,h7⟩
theorem snd: ∀f,Snd f
 |0=> fun G t x hG hv h=> by cases h
 |f+1=> fun G t x hG hv h=> by
  have ih:=snd f;cases t with
  |var n=>
   have h1:some (lkV (ctxE G) (n:Int))=some (x,0):=h;by_cases hn:n < G.length
   · rw[j187 hn] at h1
     obtain⟨v,rfl⟩:=j29 h1;exact⟨_,rfl, .var (lk_get hn),trivial,v⟩
   · unfold lkV at h1
     rw[if_pos (by rw[q39];omega)] at h1;simp at h1
  |sort n=>
   have h1:some (if(n:Int)=3 then(j14,(1:Int)) else(srtT ((n:Int)+1),0))=some (x,0):=by
    rw[<-h];simp[enc,infV,judV]
   split at h1
   · simp at h1
   · rename_i hn
     simp only[Option.some.injEq,Prod.mk.injEq,and_true] at h1;have hle:(n:Int)<=3:=(j12 (q12 hv).1).2.2.1;refine⟨.sort (n+1),by rw[<-h1];rfl, .sort,by show n < 3;omega, ?_⟩;have: ∀m:Fin 4,valid sigT (enc (.sort m.val))=true:=by decide+kernel
     exact this ⟨n+1,by omega⟩
  |nat=>
   have h1:some (srtT 0,(0:Int))=some (x,0):=h;simp only[Option.some.injEq,Prod.mk.injEq,and_true] at h1;exact⟨.sort 0,by rw[<-h1];rfl, .nat,trivial,by decide+kernel⟩
  |zero=>
   have h1:some (natT,(0:Int))=some (x,0):=h;simp only[Option.some.injEq,Prod.mk.injEq,and_true] at h1;exact⟨.nat,by rw[<-h1];rfl, .zero,trivial,by decide+kernel⟩
  |succ a=>
   have h1:chkV (infV f (ctxE G) (enc a)) (enc .nat) (some (natT,0))=some (x,0):=h;obtain⟨X,tX,cX,lX,h2⟩:=q48 ih hG (y11 hv (by simp)) h1;simp only[Option.some.injEq,Prod.mk.injEq,and_true] at h2;exact⟨.nat,by rw[<-h2];rfl, .succ tX cX,lX,by decide+kernel⟩
  |pi A B=>
   have h1:thn (frmV (infV f (ctxE G) (enc A)) 2) (fun a=> thn (frmV (tyV (infV f) (ctxE G) 3 [enc A,enc B] 1) 2) fun b=> some (srtT (max a.num b.num),0))=some (x,0):=h;obtain⟨s,h2,h3⟩:=j17 h1;obtain⟨S,i,rfl,tA,rA,lA,bA,hi⟩:=q37 ih hG (y11 hv (by simp)) h2;obtain⟨s2,h4,h5⟩:=j17 h3;obtain⟨u,h6,h7,h8⟩:=j52 h4;obtain⟨h9,h10⟩:=uty rfl h6;have hG':=hG.cons bA (y11 hv (by simp));rw[show ctxE G++ [kd [enc A,enc B] 0]=ctxE (A::G) from(y29 A G).symm] at h10;obtain⟨S',j,rfl,tB,rB,lB,bB,hj⟩:=q37 ih hG' (y11 hv (by simp)) (A:=B) (s:=s2) (by
    unfold frmV thn;rw[show infV f (ctxE (A::G)) (enc B)=some (u,0) from h10];simp only[if_true];unfold shpV;rw[if_neg (by rw[h7];simp),if_neg (by rw[h7];simpa using h8),h7])
   simp only[Option.some.injEq,Prod.mk.injEq,and_true] at h5;refine⟨.sort (max i j),by rw[<-h5];simp only[enc,Tr.num,srtT];congr 1;omega, .pi tA rA tB rB,⟨lA,lB⟩, ?_⟩;have: ∀m:Fin 4,valid sigT (enc (.sort m.val))=true:=by decide+kernel
   exact this ⟨max i j,by omega⟩
  |sg A B=>
   have h1:thn (frmV (infV f (ctxE G) (enc A)) 2) (fun a=> thn (frmV (tyV (infV f) (ctxE G) 13 [enc A,enc B] 1) 2) fun b=> some (srtT (max a.num b.num),0))=some (x,0):=h;obtain⟨s,h2,h3⟩:=j17 h1;obtain⟨S,i,rfl,tA,rA,lA,bA,hi⟩:=q37 ih hG (y11 hv (by simp)) h2;obtain⟨s2,h4,h5⟩:=j17 h3;obtain⟨u,h6,h7,h8⟩:=j52 h4;obtain⟨h9,h10⟩:=uty rfl h6;have hG':=hG.cons bA (y11 hv (by simp));rw[show ctxE G++ [kd [enc A,enc B] 0]=ctxE (A::G) from(y29 A G).symm] at h10;obtain⟨S',j,rfl,tB,rB,lB,bB,hj⟩:=q37 ih hG' (y11 hv (by simp)) (A:=B) (s:=s2) (by
    unfold frmV thn;rw[show infV f (ctxE (A::G)) (enc B)=some (u,0) from h10];simp only[if_true];unfold shpV;rw[if_neg (by rw[h7];simp),if_neg (by rw[h7];simpa using h8),h7])
   simp only[Option.some.injEq,Prod.mk.injEq,and_true] at h5;refine⟨.sort (max i j),by rw[<-h5];simp only[enc,Tr.num,srtT];congr 1;omega, .sg tA rA tB rB,⟨lA,lB⟩, ?_⟩;have: ∀m:Fin 4,valid sigT (enc (.sort m.val))=true:=by decide+kernel
   exact this ⟨max i j,by omega⟩
  |lam A t=>
   have h1:thn (frmV (infV f (ctxE G) (enc A)) 2) (fun _=> thn (tyV (infV f) (ctxE G) 4 [enc A,enc t] 1) fun b=> thn (some (mkV (.mk 3 0 [enc A,b]))) fun out=> thn (infV f (ctxE G) out) fun _=> some (out,0))=some (x,0):=h;obtain⟨s,h2,h3⟩:=j17 h1;obtain⟨S,i,rfl,tA,rA,lA,bA,hi⟩:=q37 ih hG (y11 hv (by simp)) h2;obtain⟨b,h4,h5⟩:=j17 h3;obtain⟨h6,h7⟩:=uty rfl h4;have hG':=hG.cons bA (y11 hv (by simp));rw[show ctxE G++ [kd [enc A,enc t] 0]=ctxE (A::G) from(y29 A G).symm] at h7;obtain⟨B,rfl,tB,lB,vB⟩:=ih (A::G) t b hG' (y11 hv (by simp)) h7;obtain⟨h8,h9⟩:=j71 h5;obtain⟨v,e⟩:=j91 h8;rw[e] at h9;obtain⟨s3,h10,h11⟩:=j17 h9;obtain⟨P,rfl,tP,lP,-⟩:=ih G (.pi A B) s3 hG v h10;simp only[Option.some.injEq,Prod.mk.injEq,and_true] at h11;refine⟨.pi A B,h11.symm, .lam tA rA tB,⟨lA,lB,fun B' k' hB hk=> ?_⟩,v⟩;obtain rfl:=tB.det hB;cases tP with
   |pi k1 k2 k3 k4=>
    have:=M.lev_le (Lim.type (.pi k1 k2 k3 k4) hG.wf lP) (.refl _);have e2:=hk.det ⟨_,k3,k4⟩;omega
  |app g a=>
   have h1:thn (frmV (infV f (ctxE G) (enc g)) 3) (fun s=> chkV (infV f (ctxE G) (enc a)) (kd s.kids 0) (some (mkV (sbsT (enc a) (kd s.kids 1) 0 0))))=some (x,0):=h;obtain⟨s,h2,h3⟩:=j17 h1;obtain⟨F,C,R,rfl,tF,rF,lF,vC,vR⟩:=j170 ih hG (y11 hv (by simp)) h2;obtain⟨X,tX,cX,lX,h4⟩:=q48 ih hG (y11 hv (by simp)) (W:=C) h3;obtain⟨v,rfl⟩:=j29 h4;have e:sbsT (enc a) (kd (enc (.pi C R)).kids 1) 0 0=enc (R.inst a):=y55 R a;rw[e] at v⊢;exact⟨_,rfl, .app tF rF tX cX,⟨lF,lX⟩,v⟩
  |elim p z s a=>
   have h1:famV (infV f (ctxE G) (enc p)) (enc .nat) (thn (some (mkV (.mk 5 0 [enc p, .mk 7 0 []]))) fun w=> chkV (infV f (ctxE G) (enc z)) w (thn (some (mkV (stpT (enc p)))) fun w2=> chkV (infV f (ctxE G) (enc s)) w2 (chkV (infV f (ctxE G) (enc a)) (enc .nat) (some (mkV (.mk 5 0 [enc p,enc a]))))))=some (x,0):=h;obtain⟨F,C,D,k,tF,rF,cC,rD,lF,h2⟩:=q197 ih hG (y11 hv (by simp)) h1;obtain⟨h3,h4⟩:=j71 h2;obtain⟨v1,e1⟩:=j91 h3;rw[e1] at h4;obtain⟨Z,tZ,cZ,lZ,h5⟩:=q48 ih hG (y11 hv (by simp)) (W:= .app p .zero) h4;obtain⟨h6,h7⟩:=j71 h5;obtain⟨v2,e2⟩:=j91 h6;rw[e2,y147] at h7;obtain⟨S,tS,cS,lS,h8⟩:=q48 ih hG (y11 hv (by simp)) h7;obtain⟨X,tX,cX,lX,h9⟩:=q48 ih hG (y11 hv (by simp)) h8;obtain⟨v3,rfl⟩:=j29 h9;exact⟨.app p a,rfl, .elim tF rF cC rD tZ cZ tS cS tX cX,⟨lF,lZ,lS,lX⟩,v3⟩
  |id T a b=>
   have h1:thn (frmV (infV f (ctxE G) (enc T)) 2) (fun s=> chkV (infV f (ctxE G) (enc a)) (enc T) (chkV (infV f (ctxE G) (enc b)) (enc T) (some (srtT s.num,0))))=some (x,0):=h;obtain⟨s,h2,h3⟩:=j17 h1;obtain⟨S,i,rfl,tA,rA,lA,bA,hi⟩:=q37 ih hG (y11 hv (by simp)) h2;obtain⟨X,tX,cX,lX,h4⟩:=q48 ih hG (y11 hv (by simp)) h3;obtain⟨Y,tY,cY,lY,h5⟩:=q48 ih hG (y11 hv (by simp)) h4;simp only[Option.some.injEq,Prod.mk.injEq,and_true] at h5;refine⟨.sort i,by rw[<-h5];rfl, .id tA rA tX cX tY cY,⟨lA,lX,lY⟩, ?_⟩;have: ∀m:Fin 4,valid sigT (enc (.sort m.val))=true:=by decide+kernel
   exact this ⟨i,by omega⟩
  |refl a=>
   have h1:thn (infV f (ctxE G) (enc a)) (fun s=> thn (frmV (infV f (ctxE G) s) 2) fun _=> some (mkV (.mk 10 0 [s,enc a,enc a])))=some (x,0):=h;obtain⟨s,h2,h3⟩:=j17 h1;obtain⟨A,rfl,tA,lA,vA⟩:=ih G a s hG (y11 hv (by simp)) h2;obtain⟨s2,h4,h5⟩:=j17 h3;obtain⟨S,i,rfl,tS,rS,lS,bS,hi⟩:=q37 ih hG vA h4;obtain⟨v,rfl⟩:=j29 h5;refine⟨.id A a a,rfl, .refl tA,⟨lA,fun B' k' hB hk=> ?_⟩,v⟩;obtain rfl:=tA.det hB;have:=hk.det ⟨S,tS,rS⟩;omega
  |move p e a=>
   have h1:thn (frmV (infV f (ctxE G) (enc e)) 10) (fun s=> famV (infV f (ctxE G) (enc p)) (kd s.kids 0) (thn (some (mkV (.mk 5 0 [enc p,kd s.kids 1]))) fun w=> chkV (infV f (ctxE G) (enc a)) w (some (mkV (.mk 5 0 [enc p,kd s.kids 2])))))=some (x,0):=h;obtain⟨s,h2,h3⟩:=j17 h1;obtain⟨E,T,b,c,rfl,tE,rE,lE,vT,vb,vc⟩:=snd_id ih hG (y11 hv (by simp)) h2;obtain⟨F,C,D,k,tF,rF,cC,rD,lF,h4⟩:=q197 ih hG (y11 hv (by simp)) (T:=T) h3;obtain⟨h5,h6⟩:=j71 h4;obtain⟨v1,e1⟩:=j91 h5;rw[e1] at h6;obtain⟨X,tX,cX,lX,h7⟩:=q48 ih hG (y11 hv (by simp)) (W:= .app p b) h6;obtain⟨v2,rfl⟩:=j29 h7;exact⟨.app p c,rfl, .move tE rE tF rF cC rD tX cX,⟨lF,lE,lX⟩,v2⟩
  |pair T a b=>
   have h1:thn (frmV (infV f (ctxE G) (enc T)) 2) (fun _=> thn (some (shpV (enc T) 13)) fun s=> chkV (infV f (ctxE G) (enc a)) (kd s.kids 0) (thn (some (mkV (sbsT (enc a) (kd s.kids 1) 0 0))) fun w=> chkV (infV f (ctxE G) (enc b)) w (some (enc T,0))))=some (x,0):=h;obtain⟨s,h2,h3⟩:=j17 h1;obtain⟨S,i,rfl,tA,rA,lA,bA,hi⟩:=q37 ih hG (y11 hv (by simp)) h2;obtain⟨h4,h5⟩:=j71 h3;obtain⟨h6,h7⟩:=q97 h4;generalize (shpV (enc T) 13).1=q at h5 h6 h7;obtain⟨B,rfl,r,-,vB⟩:=j55 h6;obtain⟨C,R,rfl⟩:=kind13 h7;obtain⟨X,tX,cX,lX,h8⟩:=q48 ih hG (y11 hv (by simp)) (W:=C) h5;obtain⟨h9,h10⟩:=j71 h8;obtain⟨v1,e1⟩:=j91 h9;have e:sbsT (enc a) (kd (enc (.sg C R)).kids 1) 0 0=enc (R.inst a):=y55 R a;rw[e1,e] at h10;obtain⟨Y,tY,cY,lY,h11⟩:=q48 ih hG (y11 hv (by simp)) h10;simp only[Option.some.injEq,Prod.mk.injEq,and_true] at h11;exact⟨T,h11.symm, .pair tA rA r tX cX tY cY,⟨lA,lX,lY⟩,y11 hv (by simp)⟩
  |fst a=>
   have h1:thn (frmV (infV f (ctxE G) (enc a)) 13) (fun s=> some (kd s.kids 0,0))=some (x,0):=h;obtain⟨s,h2,h3⟩:=j17 h1;obtain⟨F,C,R,rfl,tF,rF,lF,vC,vR⟩:=snd_sg ih hG (y11 hv (by simp)) h2;simp only[Option.some.injEq,Prod.mk.injEq,and_true] at h3;exact⟨C,h3.symm, .fst tF rF,lF,vC⟩
  |snd a=>
   have h1:thn (frmV (infV f (ctxE G) (enc a)) 13) (fun s=> some (mkV (sbsT (.mk 15 0 [enc a]) (kd s.kids 1) 0 0)))=some (x,0):=h;obtain⟨s,h2,h3⟩:=j17 h1;obtain⟨F,C,R,rfl,tF,rF,lF,vC,vR⟩:=snd_sg ih hG (y11 hv (by simp)) h2;obtain⟨v,rfl⟩:=j29 h3;have e:sbsT (.mk 15 0 [enc a]) (kd (enc (.sg C R)).kids 1) 0 0=enc (R.inst (.fst a)):=y55 R (.fst a);rw[e] at v⊢;exact⟨_,rfl, .snd tF rF,lF,v⟩
end Go.Proofs.YtdkamgafpphdjaaGreat
