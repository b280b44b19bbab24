/- All pairs of a stack: there is an end, whatever the limit is. No condition. -/
import Derived.Test.YtdngjamjccjlmaaPNc
set_option linter.unusedSimpArgs false
set_option linter.unusedVariables false
namespace Go.Proofs.Ytdngjamjccjlmaa
open Go Go.Ab
structure EndL (res:Int×Int×Int×Sto):Prop where
 e:res.2.2.1=7
 l:res.1=0
 r:res.2.1=0
 good:GoodS res.2.2.2
 len:res.2.2.2.L.length<=700003
 rd:res.2.2.2.rd<=80000000004
theorem zgX{lim R C:Int}{D K:Nat}(hD:D<=700000)(hR:R<=80000000000)(hC:C<=800000)(hK:K<=1000000000000):∀(M Z:Nat) (σ:Sto) (stk:List (Nat×Nat)),GoodS σ->StV σ.L.st->Lt2 σ.L.length stk->
 5*wL σ.L.st stk+σ.L.st.free<=M->zL σ.L.st stk<=Z->σ.L.length+3*wL σ.L.st stk<=D->0<=σ.cnt->σ.cnt+3*wL σ.L.st stk<=C->σ.rd+4*M<=R->qL σ.L.st stk+(D+2)*M<=K->
 ∃m res,RunB lim m stk σ res/\(EndS σ M (wL σ.L.st stk) res\/EndL res):=by
 intro M
 induction M using Nat.strongRecOn with
 |_ M ihM=>
 intro Z
 induction Z using Nat.strongRecOn with
 |_ Z ihZ=>
 intro σ stk hg hs hlt hM hZ hlen hc0 hc hr hq
 have hw:=hg.si.wf
 cases stk with
 |nil=>exact⟨0,(0,0,0,σ),rfl,.inl<|EndS.here hg hw rfl hs rfl (by omega) (by omega) (.inl rfl)⟩
 |cons p stk=>
  have hp:=hlt p YAU
  have hp':p.1<σ.L.st.length/\p.2<σ.L.st.length:=by rw[Mem.zXR];exact hp
  have hlt':Lt2 σ.L.length stk:=fun q hq=>hlt q (YAT _ hq)
  have hlt'':Lt2 σ.L.st.length stk:=by rw[Mem.zXR];exact hlt'
  have hql:=zTE σ.L.st (p::stk)
  have hok:okB σ (stk.length+1):=by
   have h0:=YAX ((D+2)*M)
   rw[List.length_cons]at hql
   exact⟨by omega,by omega,hc0,by omega,by omega⟩
  have hkeep:=zXm (lim:=lim) hg hp hlt'
  have hcase:=zXl (lim:=lim) hg hp stk
  have np:∀σ' stk',zXk lim p stk σ= .go stk' σ'->NonP σ σ' p stk stk'->∃m res,RunB lim m (p::stk) σ res/\(EndS σ M (wL σ.L.st (p::stk)) res\/EndL res):=by
   intro σ' stk' hst hn
   rw[hst]at hkeep
   obtain⟨hgr,hlt2⟩:=hkeep
   have hg':=hgr.good
   have hm:=hn.m
   have hM1:1<=M:=by omega
   have hmul:(D+2)*(M-1)+(D+2)=(D+2)*M:=by
    conv=>rhs;rw[show M=(M-1)+1 by omega]
    rw[Nat.mul_succ]
   have hq':qL σ'.L.st stk'<=stk'.length+D:=by
    refine zTD fun q hq=>Nat.le_trans (hg'.si.wf.zFb (by rw[Mem.zXR];exact hlt2) q hq) ?_
    rw[Mem.zXR]
    have:=hn.l;omega
   have hl2:=hn.len
   rw[List.length_cons]at hql
   have hrd:=hgr.rd2
   have hnl:=hn.l
   have hnc:=hn.c
   have hnc1:=hn.c1
   obtain⟨m,res,h1,h2⟩:=ihM (M-1) (by omega) (zL σ'.L.st stk') σ' stk' hg' hn.stv hlt2 (by omega) (YAV _) (by omega) (by omega) (by omega) (by omega) (by omega)
   refine⟨m+1,res,⟨hok,?_⟩,h2.imp (fun h2=>h2.trans (by omega) hn.ext hn.l hn.c1 hn.c (by omega) hn.lvok hn.low) id⟩
   rw[hst];exact h1
  have pl:∀stk',zXk lim p stk σ= .go stk' σ->zL σ.L.st stk'<zL σ.L.st (p::stk)->wL σ.L.st stk'<=wL σ.L.st (p::stk)->qL σ.L.st stk'<=qL σ.L.st (p::stk)->∃m res,RunB lim m (p::stk) σ res/\(EndS σ M (wL σ.L.st (p::stk)) res\/EndL res):=by
   intro stk' hst hz hw' hq'
   rw[hst]at hkeep
   obtain⟨m,res,h1,h2⟩:=ihZ (zL σ.L.st stk') (by omega) σ stk' hg hs hkeep.2 (by omega) (YAV _) (by omega) hc0 (by omega) hr (by omega)
   refine⟨m+1,res,⟨hok,?_⟩,h2.imp (fun h2=>h2.mono hw') id⟩
   rw[hst];exact h1
  generalize hst:zXk lim p stk σ=st at*
  cases hcase with
  |eq e=>
   refine pl stk rfl ?_ ?_ ?_
   ·have:=zbu σ.L.st p;simp only[zL];omega
   ·simp only[wL];omega
   ·simp only[qL];omega
  |dyn z σ' hz hg' hlow hcn=>
   have hsv:=hs.lv hlow.lv
   have hx:=Ext.lv hg'.si.wf hlow.lv
   have hwl:=zam hw hx hsv hlt''
   have hlen':σ'.L.length=σ.L.length:=by have:=hlow.lv.len;rwa[Mem.zXR,Mem.zXR]at this
   have hzl:z<σ.L.st.length:=by
    rcases hz with ⟨_,rfl⟩|⟨_,rfl⟩
    ·exact hw.root_lt _ hp'.2
    ·exact hw.root_lt _ hp'.1
   have hp4:1<=wP σ.L.st p:=by
    have d4:σ.L.st.tT 4= .dyn:=by
     have h5:=hw.five
     have e:=hw.leaf 4 (by omega)
     have er:σ.L.st.root 4=4:=zUO (by rw[St.link,e])
     rw[hw.zX8 (by omega),er,St.zQS,St.kids,St.kind,e];rfl
    unfold wP
    rcases hz with ⟨e,_⟩|⟨e,_⟩
    ·have:=zYF hw hp'.1
     rw[<-this,e,d4];simp[T.wD]
    ·have:=zYF hw hp'.2
     rw[<-this,e,d4];simp[T.wD]
   have hfr:=hlow.lv.free
   refine np σ' stk rfl ⟨hsv,hx,by omega,?_,?_,?_,by omega,?_,fun h=>hlow.ok hw hzl h,fun i _=>hlow.le i⟩
   ·rw[wL];omega
   ·rw[wL];omega
   ·rw[wL];omega
   ·rw[wL];push_cast;omega
  |link u w σ' huw c hst' hl hcn=>
   have hsv:=hl.stv hw c hs hst'
   have hx:=hl.ext hw c
   have hwl:=zam hw hx hsv hlt''
   have hlen':σ'.L.length=σ.L.length:=by have:=hl.len;rwa[Mem.zXR,Mem.zXR]at this
   have hfr:=hl.free c
   refine np σ' stk rfl ⟨hsv,hx,by omega,?_,?_,?_,by omega,?_,fun h=>hl.lvok hw c h,fun i _=>hl.zNy c i⟩
   ·rw[wL];omega
   ·rw[wL];omega
   ·rw[wL];omega
   ·rw[wL];push_cast;omega
  |copyl S1 m fr σ' h6 k6 hns hh cp hl hcn=>
   exact np σ' _ rfl (zFU hw hs (hw.root_lt _ hp'.2) (hw.zUQ _) hns cp hl hcn hlt'' (by unfold wP;rw[zYF hw hp'.2];omega) (.inl rfl))
  |copyr S1 m fr σ' h6 k6 hns hh cp hl hcn=>
   exact np σ' _ rfl (zFU hw hs (hw.root_lt _ hp'.1) (hw.zUQ _) hns cp hl hcn hlt'' (by unfold wP;rw[zYF hw hp'.1];omega) (.inr rfl))
  |kids hne hk h6 h41 h42=>
   have hx1:=hw.root_lt _ hp'.1
   have hx2:=hw.root_lt _ hp'.2
   obtain⟨klen,klo,khi⟩:=hw.zMh hx1 hx2 hne hk h6
   have t1:=zYF hw hp'.1
   have t2:=zYF hw hp'.2
   rcases zYu klen klo khi with ⟨a,c,e1,e2⟩|⟨a,b,c,d,e1,e2⟩
   ·have n1:=hw.zQQ hx1 (hw.zUQ _) e1
    have n2:=hw.zQQ hx2 (hw.zUQ _) e2
    rw[t1]at n1
    rw[t2]at n2
    have z1:zP σ.L.st (a,c)<zP σ.L.st p:=by unfold zP;rw[n1,n2];simp only[T.size];omega
    have w1:wP σ.L.st (a,c)<=wP σ.L.st p:=by unfold wP;rw[n1,n2];simp only[T.wD];split<;>split<;>omega
    have d1:dP σ.L.st (a,c)<=dP σ.L.st p:=by unfold dP;rw[n1,n2];simp only[T.deep];omega
    refine pl _ rfl ?_ ?_ ?_<;>rw[e1,e2]
    ·simp only[List.zip_cons_cons,List.zip_nil_right,List.cons_append,List.nil_append,zL];omega
    ·simp only[List.zip_cons_cons,List.zip_nil_right,List.cons_append,List.nil_append,wL];omega
    ·simp only[List.zip_cons_cons,List.zip_nil_right,List.cons_append,List.nil_append,qL];omega
   ·have n1:=hw.zQR hx1 (hw.zUQ _) e1
    have n2:=hw.zQR hx2 (hw.zUQ _) e2
    rw[t1]at n1
    rw[t2]at n2
    have z1:zP σ.L.st (a,c)+zP σ.L.st (b,d)<zP σ.L.st p:=by unfold zP;rw[n1,n2];simp only[zPR];omega
    have w1:wP σ.L.st (a,c)+wP σ.L.st (b,d)<=wP σ.L.st p:=by unfold wP;rw[n1,n2];simp only[zPT];split<;>split<;>omega
    have d1:max (dP σ.L.st (a,c)) (dP σ.L.st (b,d))+1<=dP σ.L.st p:=by unfold dP;rw[n1,n2];simp only[zPP];omega
    refine pl _ rfl ?_ ?_ ?_<;>rw[e1,e2]
    ·simp only[List.zip_cons_cons,List.zip_nil_right,List.cons_append,List.nil_append,zL];omega
    ·simp only[List.zip_cons_cons,List.zip_nil_right,List.cons_append,List.nil_append,wL];omega
    ·simp only[List.zip_cons_cons,List.zip_nil_right,List.cons_append,List.nil_append,qL,List.length_cons];omega
  |clash hk h61 h62 h41 h42=>
   refine⟨1,_,⟨hok,by rw[hst]⟩,.inl<|EndS.here hg hw rfl hs rfl (by omega) (by omega) (.inr (.inl ⟨rfl,hw.zMk (hw.root_lt _ hp'.1),hw.zMk (hw.root_lt _ hp'.2),hk⟩))⟩
  |loop u w σ' huw hne h6 hh hg' hst' hcn=>
   have hf:σ.L.st.free<=M:=by omega
   have hu:u<σ.L.st.length:=by
    rcases huw with ⟨rfl,_⟩|⟨rfl,_⟩
    ·exact hw.root_lt _ hp'.1
    ·exact hw.root_lt _ hp'.2
   have er:σ.L.st.root u=u:=by
    rcases huw with ⟨rfl,_⟩|⟨rfl,_⟩<;>exact hw.zUQ _
   have hpos:1<=σ.L.st.free:=by
    refine List.countP_pos_iff.2 ⟨u,List.mem_range.2 hu,?_⟩
    have:=hw.zUK u
    rw[er]at this
    simp[St.zME,h6,this]
   have hgr:GrowS σ σ' 3 4 3:=hkeep
   refine⟨1,_,⟨hok,by rw[hst]⟩,.inl<|EndS.here hg' hw hst' hs hcn (by have:=hgr.rd2;omega) hf (.inr (.inr rfl))⟩
  |limit σ' hns hl=>
   have hgr:GrowS σ σ' 3 4 3:=hkeep
   have h1:=hgr.len2
   have h2:=hgr.rd2
   have h3:=hok.1
   have h4:=hok.2.1
   exact⟨1,_,⟨hok,by rw[hst]⟩,.inr ⟨rfl,rfl,rfl,hgr.good,by simp only;omega,by simp only;omega⟩⟩
end Go.Proofs.Ytdngjamjccjlmaa
