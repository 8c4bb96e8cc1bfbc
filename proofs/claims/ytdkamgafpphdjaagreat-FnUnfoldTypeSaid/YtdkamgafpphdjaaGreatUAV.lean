/-
  Lemmas towards the law, 22: OrdS, Parse7, Walked, Places3.
-/
import Derived.Test.YtdkamgafpphdjaaGreatUAU
set_option maxHeartbeats 2000000
set_option maxRecDepth 100000
namespace Go.Proofs.YtdkamgafpphdjaaGreat
open Go.RowKit
set_option linter.unusedVariables false
theorem ordX{P:Program}{ops:Array Oper}{Q:Exit->Act->World->Prop}{l0:Array Bool}{a0:Act}{fuel:Nat}{ox:Oper}(W:World)(m N x:Nat)(lT lX:Array Bool)(fT:Nat)(l:List Sp)(hok1:OrdX.okX ops l0 m N x=true)(hN:a0.tmps.size=N)(hf:fuel=Ord.opnO l0 ops.size)(hlT:Ord.doneO l0 m=lT)(hfT:Ord.opnO lT ops.size=fT)
 (hox:ops[x]? =some ox) (hxm:x < m) (hxl:Ord.isOn l0 x=false) (hlX:lT.setIfInBounds x false=lX) (hns:Region.noSelect ops=true) (hfr:Region.free .any ops lX x=true) (hrd:(Region.ready .any ops lX).contains x=true)
 (hQ: ∀v c a w,Q (.panic c) (a.put ox.dst v) w->Q (.panic c) a w)
 (hX: ∀a w z,EG (W.drew, []) (w,z)->(∀t,Ord.isDst ops l0 m t=false->a.eval (.tmp t)=a0.eval (.tmp t))->(∀j d,Ord.depO ops l0 x j d=true->spGG l j (a.eval (.tmp d)) (w,z))-> ∃u,YieldsIf P ops (fun _=> True) ox u a/\spGG l x u (w,z))
 (steps:OrdG.StepsO P ops Q l0 m EG (spGG l) a0 (W.drew, []) 0 (ops.toList.take m))
 (fin: ∀(v:Nat->Value) w z,EG (W.drew, []) (w,z)->(∀j,j < m->Ord.isOn l0 j=false->spGG l j (v j) (w,z))->wpAnyH P .any ops Q (fun _=> True) fT lT (Ord.putN ops v (fun j=> !Ord.isOn l0 j) a0 m) w):
 wpAnyH P .any ops Q (fun _=> True) fuel l0 a0 W.drew:=
 OrdX.wpAnyH_orderX (w0:=(W.drew, [])) hok1 hN hf hlT hfT hox hxm hxl hlX hns hfr hrd hQ hX (EG.start _) (fun _ _ _ h h'=> h.trans h') (j151 _) (fun _ _ _=> trivial) steps fin
theorem ofL_tl(l:List UInt8):(ofL l).toList=l:=by rw[ByteArray.toList_eq,q111]
theorem j174{l:List UInt8}{t:Tr}{b:Nat}(h:prs 30 l 0=some (t,b)):prsV l=if l≠ []/\b=l.length/\fmtV t=l then some t else none:=by
 unfold prsV;rw[h]
theorem q191{l:List UInt8}(h:prs 30 l 0=none):prsV l=none:=by
 unfold prsV;rw[h]
theorem j112(s:ByteArray)(w:World)(hs:s.size<=1000000000):Calls Tryz.prog 160 #[.string s] w fun e w'=> ∃u,e= .returned (.tuple #[u,.bool (prsV s.data.toList).isSome])/\From w.heap.size w' ((prsV s.data.toList).getD (.mk 0 0 [])) u/\Ext w w':=by
 have HP:=hdq (fun W=>(show Calls Tryz.prog 192 #[.string s,.int .i64 0,.int .i64 30] W (j17 W.heap.size W s.size (prs 30 s.data.toList 0)) from y77 30 (by omega) s 0 W hs (by omega)));have hlen:s.data.toList.length=s.size:=by rw[Array.length_toList];rfl
 have htl:=ByteArray.toList_eq s;obtain⟨R,hR⟩: ∃R,R=prsV s.data.toList:=⟨_,rfl⟩;rw[<-hR];obtain⟨F,hF0⟩: ∃F,F=prs 30 s.data.toList 0:=⟨_,rfl⟩;rw[<-hF0] at HP;cases F with
 |none=>
  have hRn:R=none:=by rw[hR];exact q191 hF0.symm
  have HR:=hdq hRn;obtain⟨be,hbe⟩: ∃be,s.toList.isEmpty=be:=⟨_,rfl⟩;have hbe2:(s.toList== [])=be:=by rw[<-hbe];cases s.toList <;> rfl
  have t1:((-1:Int) !=(s.size:Int))=true:=by rw[bne_iff_ne];omega
  clear hR hF0 hlen htl hRn;cases be
  all_goals(
   go_enter Tryz.func160,Tryz.ntmps160;go_wp2_with fail;refine(HP.out _).mono ?_;rintro e w1 ⟨t,u,nx,rfl,hF,e1,-,q2⟩;obtain rfl:=q2 rfl;obtain⟨k0,n0,A0,l0,c0,rfl⟩:=hF.three;have hx1:=(((xr w).alloc (.cells #[.int .i64 0,.int .i64 0,.slice none 0 0] 25)).trans e1).trans ((xr w1).alloc (.cells #[.int .i64 k0,.int .i64 n0,.slice A0 l0 c0] 25));have hb':=((xr w1).alloc (.cells #[.int .i64 k0,.int .i64 n0,.slice A0 l0 c0] 25)).blk e1.newBlk;obtain⟨s0,s1,s2,f0,f1,f2⟩:=own3 hb';clear hb' q2;go_wp2_with fail;exact bodyPost_ret (v:= .tuple #[.agg #[.int .i64 0,.int .i64 0,.slice none 0 0],.bool false]) (by simp[results,Tryz.results160,go_sem,s0,s1,s2]) rfl ⟨_,by rw[HR.out];rfl,by rw[HR.out];exact From.leaf _ _ _ _,((hx1.setCell (by simp) _).setCell (by simp) _).setCell (by simp) _⟩)
 |some y=>
  obtain⟨t,b⟩:=y;have hRs:R=if s.data.toList≠ []/\b=s.data.toList.length/\fmtV t=s.data.toList then some t else none:=by rw[hR];exact j174 hF0.symm
  have hne:s.data.toList≠ []:=by
   intro h;rw[h] at hF0;rw[y145 (by simp)] at hF0;cases hF0
  have hbe:s.toList.isEmpty=false:=by rw[htl];cases hq:s.data.toList with|nil=> exact absurd hq hne|cons=> rfl
  have hbe2:(s.toList== [])=false:=by rw[htl];cases hq:s.data.toList with|nil=> exact absurd hq hne|cons=> rfl
  have hbe3: ¬(s.toList= []):=by rw[htl];exact hne
  rw[hlen] at hRs;by_cases hb:b=s.size
  · obtain⟨fv,hfv⟩: ∃fv,fv=fmtV t:=⟨_,rfl⟩
    rw[<-hfv] at hRs;have HF:=hdq (fun W v (h:Lies W t v)=> y102 t W v h);rw[<-hfv] at HF;have t1:((b:Int) !=(s.size:Int))=false:=by simp[hb]
    obtain⟨bq,hbq⟩: ∃bq,((ofL fv).toList==s.toList)=bq:=⟨_,rfl⟩;have hRb:R=if bq=true then some t else none:=by
     rw[hRs,<-hbq,ofL_tl,htl];by_cases hq:fv=s.data.toList
     · rw[if_pos ⟨hne,hb,hq⟩,if_pos (by rw[hq];simp)]
     · rw[if_neg (fun h=> hq h.2.2),if_neg (by simpa using hq)]
    have HR:=hdq hRb;have HFV:=hdq hbq;clear hR hF0 hRs hne htl hfv hRb hlen hb;go_enter Tryz.func160,Tryz.ntmps160;go_wp2_with fail;refine(HP.out _).mono ?_;rintro e w1 ⟨t',u,nx,rfl,hF,e1,q1,-⟩;obtain⟨h1,h2,h3⟩:=q1 _ rfl;simp only at h1 h2 h3;subst h1 h2;obtain⟨k0,n0,A0,l0,c0,rfl⟩:=hF.three;have hsz:=e1.size_alloc;have hx1:=(((xr w).alloc (.cells #[.int .i64 0,.int .i64 0,.slice none 0 0] 25)).trans e1).trans ((xr w1).alloc (.cells #[.int .i64 k0,.int .i64 n0,.slice A0 l0 c0] 25));have hb':=((xr w1).alloc (.cells #[.int .i64 k0,.int .i64 n0,.slice A0 l0 c0] 25)).blk e1.newBlk;have hbT:=heap_alloc_new w1 (.cells #[.int .i64 k0,.int .i64 n0,.slice A0 l0 c0] 25);have hFT:From (w.heap.size+1) (w1.alloc (.cells #[.int .i64 k0,.int .i64 n0,.slice A0 l0 c0] 25)) t' (.agg #[.int .i64 k0,.int .i64 n0,.slice A0 l0 c0]):=by simpa using hF.ext ((xr w1).alloc (.cells #[.int .i64 k0,.int .i64 n0,.slice A0 l0 c0] 25))
    clear hF hsz q1;go_wp2_with fail;refine(HF.out _ _ hFT.lies).mono ?_;rintro e w2 ⟨rfl,e2⟩;have hx2:=hx1.trans e2;have hF2:=hFT.ext e2;obtain⟨s0,s1,s2,f0,f1,f2⟩:=own3 (e2.blk hb');obtain⟨x0,x1,x2,-,-,-⟩:=own3 (e2.blk hbT);have hq:=HFV.out;clear hb' hbT;cases bq with
    |false=>
     go_wp2_with fail;exact bodyPost_ret (v:= .tuple #[.agg #[.int .i64 0,.int .i64 0,.slice none 0 0],.bool false]) (by simp[results,Tryz.results160,go_sem,s0,s1,s2]) rfl ⟨_,by rw[HR.out];rfl,by rw[HR.out];exact From.leaf _ _ _ _,((hx2.setCell (by simp) _).setCell (by simp) _).setCell (by simp) _⟩
    |true=>
     go_wp2_with fail;exact bodyPost_ret (v:= .tuple #[.agg #[.int .i64 k0,.int .i64 n0,.slice A0 l0 c0],.bool true]) (by simp[results,Tryz.results160,go_sem,s0,s1,s2]) rfl ⟨_,by rw[HR.out];rfl,by rw[HR.out];exact(((hF2.set (by simp) _).set (by simp) _).set (by simp) _).since (by omega),((hx2.setCell (by simp) _).setCell (by simp) _).setCell (by simp) _⟩
  · have hRn:R=none:=by rw[hRs,if_neg (fun h=> hb h.2.1)]
    have HR:=hdq hRn;have t1:((b:Int) !=(s.size:Int))=true:=by rw[bne_iff_ne];omega
    clear hR hF0 hRs hne htl hRn hlen hb;go_enter Tryz.func160,Tryz.ntmps160;go_wp2_with fail;refine(HP.out _).mono ?_;rintro e w1 ⟨t',u,nx,rfl,hF,e1,q1,-⟩;obtain⟨h1,h2,h3⟩:=q1 _ rfl;simp only at h1 h2 h3;subst h1 h2;obtain⟨k0,n0,A0,l0,c0,rfl⟩:=hF.three;have hx1:=(((xr w).alloc (.cells #[.int .i64 0,.int .i64 0,.slice none 0 0] 25)).trans e1).trans ((xr w1).alloc (.cells #[.int .i64 k0,.int .i64 n0,.slice A0 l0 c0] 25));have hb':=((xr w1).alloc (.cells #[.int .i64 k0,.int .i64 n0,.slice A0 l0 c0] 25)).blk e1.newBlk;obtain⟨s0,s1,s2,f0,f1,f2⟩:=own3 hb';clear hb' q1;go_wp2_with fail;exact bodyPost_ret (v:= .tuple #[.agg #[.int .i64 0,.int .i64 0,.slice none 0 0],.bool false]) (by simp[results,Tryz.results160,go_sem,s0,s1,s2]) rfl ⟨_,by rw[HR.out];rfl,by rw[HR.out];exact From.leaf _ _ _ _,((hx1.setCell (by simp) _).setCell (by simp) _).setCell (by simp) _⟩
end Go.Proofs.YtdkamgafpphdjaaGreat
namespace Go.Proofs.YtdkamgafpphdjaaGreat
open Go.RowKit
set_option linter.unusedVariables false
attribute [local go_sem ↓] Go.wp_at_zero Go.wp_at_succ
theorem q219{k n i:Int}{ks:List Tr}{q:List Int}:atT (.mk k n ks) (i::q)=if 0<=i/\i < ks.length then atT (kd ks i.toNat) q else none:=by rw[atT]
def outP(t:Tr):List Int:=(outT t).getD []
def OutC(t:Tr):Prop:= ∀(w:World) (v:Value) (d:Int),shape sigT t d=true->Lies w t v->d<=1000->Calls Tryz.prog 131 #[v] w fun e w'=> ∃x,e= .returned (.tuple #[x,.bool (outT t).isSome])/\w'.ownsRow w.heap.size 3 1 x (outP t).length ((outP t).map (Value.int .i64))/\Ext w w'
theorem q197: ∀t:Tr,OutC t:=Tr.ind fun k n ks hk=> by
 intro w v d hsh hin hd;have HR:=hdq (fun V (hV:Ext w V)=> y32 (.mk k n ks) d hsh V v (hin.ext hV));have hol:=y111 (.mk k n ks) d hsh;obtain⟨-,-,-,hsk⟩:=j31 hsh;obtain⟨A,cap,rfl,hl,hc,hK⟩:=Lies.mk_iff.1 hin;obtain⟨i0,hi,hz0,hz1,hz2⟩:=info_parts q152;have hcc:=hc;unfold maxLen at hcc;have ho:outT (.mk k n ks)=if rdx k ks=0 then j47 0 ks else some []:=by rw[outT]
 have hx0:=(xr w).alloc (.cells #[.int .i64 k,.int .i64 n,.slice A ks.length cap] 25);have hbB:=heap_alloc_new w (.cells #[.int .i64 k,.int .i64 n,.slice A ks.length cap] 25);obtain⟨r,hr⟩: ∃r,rdx k ks=r:=⟨_,rfl⟩;have HR2:=hdq (show∀V,Ext w V->Calls Tryz.prog 56 #[.agg #[.int .i64 k,.int .i64 n,.slice A ks.length cap]] V fun e w'=> e= .returned (.int .i64 r)/\Ext V w' from fun V hV=> by have:=HR.out V hV;rw[show rdxT (.mk k n ks)=r from hr] at this;exact this);rw[hr] at ho;clear hr HR;by_cases h0:r=0
 · rw[if_pos h0] at ho
   have hb0:(r !=0)=false:=by rw[h0];rfl
   subst h0;have HO:=hdq ho;clear ho hin;go_enter Tryz.func131,Tryz.ntmps131;go_wp2_with fail;refine(HR2.out _ hx0).mono ?_;rintro e w1 ⟨rfl,h1⟩;obtain⟨z0,z1,z2,-,-,-⟩:=own3 (h1.blk hbB);have lz:=q10 (h1.blk hbB);have hx1:=hx0.trans h1;clear hbB h1 hx0 HR2;go_wp2_with fail;clear z0 z1 z2 lz
   go_loopw [14] (fun i wr=> ∃(j:Nat),j<=ks.length/\i= .int .i64 j/\Hid (j47 0 ks=j47 j (ks.drop j))/\Ext w wr) (fun i _=> ks.length -(intOf i).toNat)
   case atStart=> exact⟨0,Nat.zero_le _,rfl,hdq rfl,hx1⟩
   case round=>
    obtain⟨j,hj',rfl,HE,hx⟩:=hrel;by_cases hlt:j < ks.length
    · obtain⟨b,o,k',n',A',cap',kids,rfl,HK,c0,c1,c2,hkl,hkc,hK',hin',hmem⟩:=hK.get hx hlt
      have hst:j47 j (ks.drop j)=match outT (.mk k' n' kids) with|some p=> some ((j:Int)::p) |none=> j47 (j+1) (ks.drop (j+1)):=by
       rw[List.drop_eq_getElem_cons hlt,HK.out];conv=> lhs;unfold j47
       rfl
      have hol2:=y111 (.mk k' n' kids) (d - 1) (hsk _ hmem);have hx5:=(xr wr).alloc (.cells #[.int .i64 k',.int .i64 n',.slice A' kids.length cap'] 25);have HC:=hdq (hk _ hmem _ _ (d - 1) (hsk _ hmem) (hin'.ext hx5) (by omega));have hpe:outP (.mk k' n' kids)=(outT (.mk k' n' kids)).getD []:=rfl;rw[hpe] at HC;clear hpe;generalize outT (.mk k' n' kids)=q at hst hol2 HC;have hj2:(j:Int) <(ks.length:Int):=by omega
      clear hol hin';go_wp2_with fail;refine HC.out.mono ?_;rintro e w2 ⟨x,rfl,hq,h2⟩;have hx2:=(hx.trans hx5).trans h2;cases q with
      |some p=>
       have hpl:=hol2 p rfl;simp only[Option.getD_some] at hq;simp only at hst;have HO2:=hdq ((HO.out.trans HE.out).trans hst);have hpa:=j26 hq;obtain⟨Bq,cq,rfl,-,-,-⟩:=y25 hq;have hx3:=(xr w2).alloc (.cells #[.int .i64 j] 3);have hG:(w2.alloc (.cells #[.int .i64 j] 3)).ownsRow w2.heap.size 3 1 (.slice (some ⟨w2.heap.size,0,none⟩) 1 1) ([(j:Int)]).length (([(j:Int)]).map (Value.int .i64)):=World.ownsRow_lit w2 #[.int .i64 j] 1 (Nat.le_refl _) (by decide) rfl;have hpa3:=hpa.ext hx3;clear hst HC HE HO hpa hq hol2;go_wp2_with (at_builtin;refine q19 _ rfl (.tmp 26) (.tmp 27) 26 rfl w2.heap.size 3 i0 _ 8 Tryz.underlying26 hi hz0 hz1 hz2 (by decide) rfl (ns:= [(j:Int)]) (p:=p) rfl hG (by simp) rfl hpa3 (by simp;omega) ?_)
       intro va wa hva hga hoa;have hEa:Ext w wa:=hx2.trans (hx3.grown hga (by intro g hg;simp[Value.ownBlock] at hg;omega));have hsz:=hx2.size;have hvw:wa.ownsRow w.heap.size 3 1 va ((j:Int)::p).length ((((j:Int)::p)).map (Value.int .i64)):=q27 hva hsz;have HVW:=hdq hvw;clear hva hga hoa hvw;go_wp2_with fail;go_ret2;have hou:outP (.mk k n ks)=(j:Int)::p:=by unfold outP;rw[HO2.out];rfl
       exact⟨_,by rw[HO2.out];rfl,by rw[hou];exact HVW.out,hEa⟩
      |none=>
       simp only at hst;have HE2:=hdq (HE.out.trans hst);clear hst HC hq hol2;go_wp2_with fail
       go_roundw
       case rel=> exact⟨j+1,by omega,by go_num,HE2,hx2⟩
       case measure=> simp[intOf];omega
    · have HO2:=hdq ((HO.out.trans HE.out).trans (show j47 j (ks.drop j)=none by rw[List.drop_of_length_le (by omega),j47]))
      clear HE HO;go_wp2_with fail;go_ret2;have hou:outP (.mk k n ks)= []:=by unfold outP;rw[HO2.out];rfl
      exact⟨_,by rw[HO2.out];rfl,by rw[hou];exact World.ownsRow_nil _ _ _ _,hx⟩
 · rw[if_neg h0] at ho
   have hb0:(r !=0)=true:=bne_iff_ne.2 h0;have HO:=hdq ho;clear ho;go_enter Tryz.func131,Tryz.ntmps131;go_wp2_with fail;refine(HR2.out _ hx0).mono ?_;rintro e w1 ⟨rfl,h1⟩;go_wp2_with fail;go_ret2;have hou:outP (.mk k n ks)= []:=by unfold outP;rw[HO.out];rfl
   exact⟨_,by rw[HO.out];rfl,by rw[hou];exact World.ownsRow_nil _ _ _ _,hx0.trans h1⟩
end Go.Proofs.YtdkamgafpphdjaaGreat
