/-
  Lemmas towards the law, 39: MUty.
-/
import Derived.Test.YtdkamgafpphdjaaGreatUBK
namespace Go.Proofs.YtdkamgafpphdjaaGreat
open Go.RowKit
set_option linter.unusedVariables false
open M (Hd HR Cv Ty Lim WfL TyB Lev q24)
theorem y172{ks:List Tr}{ty:Nat->M.Tm}{n:Nat}(hn:ks.length=n*2)(ht: ∀i,i < n->ks.getD (i*2) y13=enc (ty i)): ∀j,j<=n->ctxE (tyL ty j)=tys (ks.take (j*2))
 |0,_=> by simp[tyL,ctxE,tys]
 |j+1,h=> by
  show ctxE (ty j::tyL ty j)=_
  rw[q26,j111 ks j (by omega),y172 hn ht j (by omega),<-ht j (by omega),List.getD_eq_getElem?_getD,List.getElem?_eq_getElem (by omega)]
  rfl
theorem j218{G D:List M.Tm}(h:ctxE G=ctxE D):G=D:=by
 unfold ctxE at h;have h:=List.reverse_inj.1 h
 induction G generalizing D with
 |nil=> cases D with
  |nil=> rfl
  |cons a D=> cases h
 |cons a G ih=> cases D with
  |nil=> cases h
  |cons b D=>
   simp only[List.map_cons,List.cons.injEq] at h;rw[y137 h.1,ih (by rw[h.2]) h.2]
theorem uyFacts{ks:List Tr}{n:Nat}{t x s u v u0:Tr}{f g k:Nat}{m:Int}(hn:ks.length=n*2)(hd:dfV ks n=true)(hvt:valid sigT t=true)(hmx:mxf t 0<=(n:Int))(hx:unfD ks n t=(x,true))(hc:cdV f ks n=some (u0,0))(hi:itV g (tysV ks n) t=some (s,0))
 (hu:unfD ks n s=(u,true)) (hid:idV k ks n t=some (v,m)):m=2\/m=0/\(y66 u v 200 !=2)=true:=by
 have hdv:dvs ks 0=true:=by unfold dfV at hd;rw[Bool.and_eq_true] at hd;exact hd.1
 have hval: ∀i,i < ks.length->valid sigT (ks.getD i y13)=true:=fun i hi=> by
  rw[List.getD_eq_getElem?_getD,List.getElem?_eq_getElem hi];exact(j30 hdv hn _ (List.getElem_mem hi)).1
 obtain⟨bd,hbd⟩:=Classical.axiomOfChoice (r:=fun(i:Nat) (b:M.Tm)=> i < n->ks.getD (i*2+1) y13=enc b) (fun i=> by
  by_cases h:i < n
  · obtain⟨b,e⟩:=y82 (hval (i*2+1) (by omega))
    exact⟨b,fun _=> e⟩
  · exact⟨.nat,fun h'=> absurd h' h⟩)
 obtain⟨ty,hty⟩:=Classical.axiomOfChoice (r:=fun(i:Nat) (b:M.Tm)=> i < n->ks.getD (i*2) y13=enc b) (fun i=> by
  by_cases h:i < n
  · obtain⟨b,e⟩:=y82 (hval (i*2) (by omega))
    exact⟨b,fun _=> e⟩
  · exact⟨.nat,fun h'=> absurd h' h⟩)
 obtain⟨G,a,A,e1,hG,h8,rfl,-,rfl,tA,lA,-,-⟩:=q194 hi;have e2:=y172 hn hty n (Nat.le_refl _);rw[List.take_of_length_le (by omega)] at e2;unfold tysV at e1;rw[if_pos hd,<-e2] at e1;obtain rfl:=j218 e1;unfold cdV at hc;rw[if_pos hd] at hc;obtain⟨hs,hv⟩:=cdR_ok (bd:=bd) (ty:=ty) n 0 u0 (fun i hi=>⟨hbd i (by omega),hty i (by omega)⟩) (fun q B hB=> by simp[tyL,M.lk] at hB) (fun q B hB=> by simp[tyL,M.lk] at hB) hc;rw[Nat.zero_add] at hs hv;have q1:=y98 (bd:=bd) n _ x hbd hx;have q2:=y98 (bd:=bd) n _ u hbd hu;have hvx:=j106 ks n _ x hvt hx;subst q1 q2;obtain⟨A',tA',cA'⟩:=Ty.sub tA hs;have lA':=Lim.sub tA hG.wf.wf M.Wf.nil hs hv lA;unfold idV at hid;rw[hd,hvt,decide_eq_true hmx,if_pos (by simp),hx,if_pos rfl] at hid;rcases itV_nb (G:= []) y26.nil (Nat.zero_le _) hvx tA' lA' _ _ hid with rfl|rfl
 · refine .inr ⟨rfl, ?_⟩
   obtain⟨G',b',B',e3,hG',-,e4,-,rfl,tB',-,-,hinf⟩:=q194 hid;obtain⟨e5,-⟩:=j43 (G:= []) y26.nil hvx tA' hinf;rw[e5];have:=fun h:y66 (enc (A.sub (sgD bd n))) (enc A') 200=2=> y195 h cA'.symm
   simpa using this
 · exact .inl rfl
end Go.Proofs.YtdkamgafpphdjaaGreat
