/-
  What KindPlaced says of the plain functions. No condition.
  KindPlaced. Conditions: what is read.
  KindPlaced: for every input the law answers true,and the input reads as it did. No condition.
-/
import Derived.Test.YtaohbfnepjjdgaaGreatM20
import Derived.Test.YtaohbfnepjjdgaaGreatM15
import Derived.Test.YtaohbfnepjjdgaaGreatM19
import Derived.Test.YtaohbfnepjjdgaaGreatRows
import Derived.Test.YtaohbfnepjjdgaaGreatM5
import Derived.Test.YtaohbfnepjjdgaaGreatM10
import Derived.SizedLaws
set_option linter.unusedVariables false
set_option linter.unusedSimpArgs false
namespace Go.Hr
open Go Go.RowKit Go.Ck Go.Proofs Go.Proofs.YtaohbfnepjjdgaaGreat
section
variable {l:KS} {s t:Kt} {n:Nm} {x:KC} {A:List Kt}
theorem placed (g : Given l x.name [s, t]) (hx : x ∈ l) (hlen : A.length = x.formals.length) (hn : (A = [] ∧ n = x.name) ∨ Given l n [.mk 3 x.name A false false]) (hsd : s.depth ≤ 16) (htd : t.depth ≤ 16) (hAd : ∀ a ∈ A, a.depth ≤ 16) :
  SeenK l (.mk 3 x.name A false false) x.name s=(s.subst x.formals A,0)∧SeenK l (.mk 3 x.name A false false) x.name t=(t.subst x.formals A,0)∧askedE l n [s.subst x.formals A]=0∧askedE l n [t.subst x.formals A]=0∧(goesB l x.name s t=true→goesB l n (s.subst x.formals A) (t.subst x.formals A)=true)∧(s.subst x.formals A).depth≤32∧(t.subst x.formals A).depth≤32:=by
 obtain ⟨x',all,hK,_,hxc,hr0⟩:=g.at (t0:=s) (by simp)
 have hxn:=kfind_mem hK.right hx
 have he:x'=x:=by rw [hxn] at hxc; exact (Option.some.inj hxc).symm
 subst he
 have hs:=hr0 s (by simp)
 have ht:=hr0 t (by simp)
 obtain ⟨y, hyc, hyl, hfit⟩ : ∃ y, kfind l n = some y ∧ y ∈ l ∧ Fits l y.formals x'.formals A := by
  rcases hn with ⟨rfl,rfl⟩ | g2
  ·refine ⟨x',hxn,hx,hlen,fun i a f ha=>by simp at ha⟩
  ·obtain ⟨y,all2,hK2,hyl,hyc,hr2⟩:=g2.at (List.mem_singleton.2 rfl)
   refine ⟨y,hyc,hyl,?_⟩
   rcases inner_class (inner_zero (hr2 _ (List.mem_singleton.2 rfl))) with ⟨h1,_⟩ | ⟨x2,h1,h2,h3⟩
   ·rw [hxn] at h1; cases h1
   ·rw [hxn] at h1
    obtain rfl:=Option.some.inj h1
    exact ⟨h2,h3⟩
 have hs2:=inner_subst hfit _ s (Nat.le_refl _) (inner_zero hs)
 have ht2:=inner_subst hfit _ t (Nat.le_refl _) (inner_zero ht)
 have ds:=depth_subst (F:=x'.formals) hAd _ s hsd
 have dt:=depth_subst (F:=x'.formals) hAd _ t htd
 have rs:rightK l y.formals (s.subst x'.formals A)=0:=by unfold rightK; rw [if_neg (by omega)]; exact hs2
 have rt:rightK l y.formals (t.subst x'.formals A)=0:=by unfold rightK; rw [if_neg (by omega)]; exact ht2
 have hne:x'.name≠root:=fun h=>by rw [h,hK.no_root] at hxn; cases hxn
 have hb:badT l (.mk 3 x'.name A false false)=false:=by
  unfold badT
  show ((((3:Int) != 3) || (!(kfind l x'.name).isSome && (x'.name != root))) || ((A.length:Int) != ((fmsOf l x'.name).length:Nat)))=false
  rw [hxn,fmsOf_some hxn,hlen]
  simp
 have hanc:anc all x'.name x'.name=true:=by rw [hK.anc_has hxn]; exact has_refl _ _
 have hri:rinst l all (.mk 3 x'.name A false false) x'.name=(A,true):=by
  rw [rinst_anc hK hne]
  show (if anc all x'.name x'.name=true then instA l all x'.name x'.name A else [],anc all x'.name x'.name)=(A,true)
  rw [hanc,if_pos rfl]
  unfold instA
  rw [hK.ins_own hxn,fmsOf_some hxn,own_subst (hK.fm_nodup hx) hlen]
 have hI:InstK l (.mk 3 x'.name A false false) x'.name=(A,0):=by
  rw [inst_good hK hb (by rw [hri]),hri]
 have hsn:∀ u,rightK l x'.formals u=0→SeenK l (.mk 3 x'.name A false false) x'.name u=(u.subst x'.formals A,0):=fun u hu=>by
  unfold SeenK
  rw [hI,if_neg (by simp),hxn]
  simp only []
  rw [if_neg (by rw [hu]; simp)]
 refine ⟨hsn s hs,hsn t ht,askedE_zero.2 ⟨y,all,hK,hyc,fun u hu=>?_⟩,askedE_zero.2 ⟨y,all,hK,hyc,fun u hu=>?_⟩,fun hg=>?_,by omega,by omega⟩
 ·rw [List.mem_singleton.1 hu]; exact rs
 ·rw [List.mem_singleton.1 hu]; exact rt
 ·exact (goesB_iff hK hyc rs rt).2 (hK.goes_subst hx hyl hfit (inner_zero hs) (inner_zero ht) ((goesB_iff hK hxn hs ht).1 hg))
end
end Go.Hr
namespace Go.Hr
open Go Go.RowKit Go.Ck Go.Proofs Go.Proofs.YtaohbfnepjjdgaaGreat Fx
attribute [local irreducible] Go.Ck.Sub St Cd Xt Nx DrL LsW
section
variable {S T N R:Res} {v:Value} {l:KS} {s t:Kt} {ts:List Kt} {all:List (Nm×Own)} {x:KC}
theorem v_convK {P:Program} {e:Env} {h:SH} {ty:TypeId} {src dst:TypeId} {x:Operand} {q q' k:IntKind} {n m:Int} (hx:e.ev? x=some (.int q n)) (hs:P.underlying src=some (.int q')) (hd:P.underlying dst=some (.int k)) (hw:k.wrap n=m):Vop P e h (.convert src dst x) ty (.int k m):=
 ⟨by simp,by simp,fun ρ w d pos after g hρ _=>by
  simp [execOp,hρ x _ hx,Go.convert,Sem.run_bind,run_underlying hs,run_underlying hd,Result.andThen_ok,Conv.intToInt,hw]⟩
set_option maxHeartbeats 16000000 in
set_option maxRecDepth 100000 in
theorem kindPlaced_ct (hv : ksysR S v l) {m : Nat} (hm : m ≤ 255) {us ws : List Value} (hs : Ty S us s) (ht : Ty S ws t) (n : Nm) {A : List Kt} {av : Value} (hA : Tys S av A) : Ct Tryz.prog 6 #[v, .int .u8 (m : Int), .agg us.toArray, .agg ws.toArray, sv n, av] [S] fun u h' => u = .bool true ∧ h' = [S] := by
 have hml:maxLen=9223372036854775807:=rfl
 have hfw:=Few_ct hv
 have hl1:=Light_ct hs (deep:=45) (by omega) (by omega)
 have hl2:=Light_ct ht (deep:=45) (by omega) (by omega)
 have hgo:=fun htn c hds hdt=>goes_ct hv htn c hs ht hds hdt
 have hv0:=hv
 have hs0:=hs
 have ht0:=ht
 obtain ⟨va,vc,rfl,hlc,hcm,_⟩:=id hv
 obtain ⟨aa,ac,rfl,hla,hca,_⟩:=id hA.form
 obtain ⟨x0,rfl,hx0⟩:=hs.out
 obtain ⟨xa,xc,rfl,_⟩:=id hx0.form
 obtain ⟨y0,rfl,hy0⟩:=ht.out
 obtain ⟨ya,yc,rfl,_⟩:=id hy0.form
 unfold tyC at hl1 hl2 hgo ⊢
 refine ct_of (n:=191) Tryz.func6 Z Z (len Z) fun hr w0=>?_
 refine cQ (st_bx Z Z fun b8=>?_)
 refine st_bx Z Z fun b9=>?_
 refine sA Z (sK [0,1,4,5,8,9,12] Z (cQ (st_clr Z Z en10 Z (head_ct) ?_)))
 refine sA Z (sK [0,1,4,5,8,9,12,13] Z (cS (cQ (sM Z (st_cl Z Z en11 Z (hfw) ?_)))))
 rintro u h' ⟨ok,rfl,rfl,hok⟩
 simp only [lC,lN]
 refine sV (v_not Z) (sM Z ?_)
 cases ok with
 | false =>
  iterate 3 refine st_sk rfl rfl rfl ?_
  refine sV (vQ Z Z) (sM Z (st_sk Z Z Z ?_))
  iterate 2 refine st_sk rfl rfl rfl ?_
  refine sV (vQ Z Z) (sK [0,1,4,5,8,9,12,13,36] Z (cd_true Z ?_))
  refine cQ (sM Z (sA Z (sK [12] Z (cT (xR (xt_law Z ?_))))))
  refine Sub.sel slq ?_
  repeat apply Sub.cons
  exact Sub.refl _
 | true =>
  obtain ⟨htn,hl40⟩:=hok rfl
  refine sG Z Z (vM Z) (sG Z Z (v_len Z Tryz.underlying22) (sG Z Z (v_eql Z Z) (sV (vP Z Z) (sM Z (st_cut (k:=13) (d:=36) (v:=.bool (((l.length:Int) == 0) || decide (5<(A.length:Int)))) (fun hcut=>bool_want (b:=((l.length:Int) == 0)) false (fun hg=>?_) (fun hg=>?_)) ?_)))))
  ·refine st_sk Z Z hg ?_
   iterate 2 refine st_sk rfl rfl hg ?_
   refine sV (vQ (bO Z hg) Z) ?_
   exact hcut _ uG
  ·refine sG Z (bG Z hg) (vM Z) (sG Z (bG Z hg) (v_len Z Tryz.underlying23) (sG Z (bG Z hg) (v_gtr Z Z) (sV (vP (bO Z hg) Z) ?_)))
   exact hcut _ uG
  refine sK [0,1,4,5,8,9,12,13,36] Z (cC Z (fun hq=>?_) (fun hq=>?_))
  ·refine cQ (sM Z (sA Z (sK [12] Z (cT (xR (xt_law Z ?_))))))
   refine Sub.sel slq ?_
   repeat apply Sub.cons
   exact Sub.refl _
  ·have hq:(((l.length:Int) == 0) || decide (5<(A.length:Int)))=false:=hq
   simp only [Bool.or_eq_false_iff,decide_eq_false_iff_not,beq_eq_false_iff_ne,ne_eq] at hq
   refine cK (xT (cQ (sM Z (sM Z ?_))))
   have h0:0<l.length:=by omega
   have hlt:=Nat.mod_lt m h0
   obtain ⟨b,o,cap2,us,e1,_,hrd,d,f,pv,c2,ffa,ffc,i2,rfl,hone,hrow,hrowp⟩:=Row.at hv (List.getElem?_eq_getElem hlt)
   cases e1
   have hxm:l[m % l.length]∈l:=List.getElem_mem hlt
   generalize l[m % l.length]=x at hrd hone hrow hrowp hxm
   obtain ⟨fa,fc,rfl,hflc,hfcm,_⟩:=id hrow
   refine sV (v_convK Z Tryz.underlying5 Tryz.underlying3 (I64.wrap (by unfold I64; omega))) ?_
   refine sM Z (sV (v_len Z Tryz.underlying22) (sV (v_rem Z Z (by omega) (by rw [show (m:Int).tmod l.length=((m % l.length:Nat):Int) from (Int.ofNat_tmod m l.length).symm]; exact I64.wrap (by unfold I64; omega))) ?_))
   refine sV (vI (k:=m % l.length) Z Z sl22 (show (m:Int).tmod l.length=((m % l.length:Nat):Int) from (Int.ofNat_tmod m l.length).symm) hlt Z) (sV (v_ldn Z ld54 Z hrd) ?_)
   refine st_alc al54 fun b14=>?_
   refine st_stoW Z Z sz54 Z hone ?_
   refine sK [0,4,5,8,9,12,13,14] Z (cS (cQ (sV (v_ldn Z ld25 Z rds_pt) ?_)))
   refine st_cl Z Z en12 Z (hl1) ?_
   rintro u h' ⟨ok,rfl,rfl,hok⟩
   simp only [lC,lN]
   refine sV (v_not Z) (sM Z ?_)
   cases ok with
   | false =>
    iterate 3 refine st_sk rfl rfl rfl ?_
    refine sV (vQ Z Z) (sM Z (st_sk Z Z Z ?_))
    iterate 7 refine st_sk rfl rfl rfl ?_
    refine sV (vQ Z Z) (sM Z (st_sk Z Z Z ?_))
    iterate 5 refine st_sk rfl rfl rfl ?_
    refine sV (vQ Z Z) (sK [0,4,5,8,9,12,13,14,71] Z (cd_true Z ?_))
    refine cQ (sM Z (sA Z (sK [12] Z (cT (xR (xt_law Z ?_))))))
    refine Sub.sel slq ?_
    repeat apply Sub.cons
    exact Sub.refl _
   | true =>
    obtain ⟨_,hds⟩:=hok rfl
    refine sG Z Z (v_ldn Z ld25 Z rds_pt) ?_
    refine st_grd Z Z (st_cl Z Z en12 Z (hl2) ?_)
    rintro u h' ⟨ok,rfl,rfl,hok⟩
    simp only [lC,lN]
    refine sG Z Z (v_not Z) (sV (vP Z Z) (sM Z ?_))
    cases ok with
    | false =>
     iterate 8 refine st_sk rfl rfl rfl ?_
     refine sV (vQ Z Z) (sM Z (st_sk Z Z Z ?_))
     iterate 5 refine st_sk rfl rfl rfl ?_
     refine sV (vQ Z Z) (sK [0,4,5,8,9,12,13,14,71] Z (cd_true Z ?_))
     refine cQ (sM Z (sA Z (sK [12] Z (cT (xR (xt_law Z ?_))))))
     refine Sub.sel slq ?_
     repeat apply Sub.cons
     exact Sub.refl _
    | true =>
     obtain ⟨_,hdt⟩:=hok rfl
     refine sG Z Z (vM Z) (sG Z Z (vF Z fa54_0 Z) (sG Z Z (vY Z ld9) ?_))
     have hds:s.depth≤16:=by omega
     have hdt:t.depth≤16:=by omega
     refine sG Z Z (v_ldn Z ld25 Z rds_pt) ?_
     refine sG Z Z (v_ldn Z ld25 Z rds_pt) ?_
     refine st_grd Z Z (st_buildSlice (cells:=tyC s (.slice xa s.args.length xc)++tyC t (.slice ya t.args.length yc)) Z Tryz.underlying23 inf25 Z Z (by kernel_rfl) (ltn Z) fun b60=>?_)
     refine st_pv (pv_of (b:=b60) (n:=2) (sz:=5) (E:=25) [tyC s (.slice xa s.args.length xc),tyC t (.slice ya t.args.length yc)] Z (by simp [tyC]) Z (by decide)) ?_
     simp only [lC,lN]
     refine st_ok (r:=VR (.slice (some ⟨b60,0,none⟩) 2 2) 25 5 [tyC s (.slice xa s.args.length xc),tyC t (.slice ya t.args.length yc)]) slq fun hok=>?_
     have hlr:=ok_star (lRight_ct (hv0.mono (rd_in (.there .here))) x.name (tys_two (b:=b60) hs0 ht0 hok))
     refine st_grd Z Z (st_cl Z Z en26 Z (hlr) ?_)
     rintro u h' ⟨ok,rfl,rfl,hok⟩
     simp only [lC,lN]
     refine sG Z Z (v_not Z) (sV (vP Z Z) (sM Z ?_))
     cases ok with
     | false =>
      iterate 6 refine st_sk rfl rfl rfl ?_
      refine sV (vQ Z Z) (sK [0,4,5,8,9,12,13,14,71] Z (cd_true Z ?_))
      refine cQ (sM Z (sA Z (sK [12] Z (cT (xR (xt_law Z ?_))))))
      refine Sub.sel slq ?_
      repeat apply Sub.cons
      exact Sub.refl _
     | true =>
      obtain g:=hok rfl
      refine sG Z Z (vM Z) (sG Z Z (v_len Z Tryz.underlying23) (sG Z Z (vF Z fa54_2 Z) (sG Z Z (vY Z ld48) ?_)))
      refine sG Z Z (v_len Z Tryz.underlying48) (sG Z Z (v_neq Z Z) (sV (vP Z Z) (sK [0,4,5,8,9,12,13,14,71] Z ?_)))
      clear hlr hok
      refine cC Z (fun hq2=>?_) (fun hq2=>?_)
      ·refine cQ (sM Z (sA Z (sK [12] Z (cT (xR (xt_law Z ?_))))))
       refine Sub.sel slq ?_
       repeat apply Sub.cons
       exact Sub.refl _
      ·have hlen:A.length=x.formals.length:=by
        have hq2:((A.length:Int) != (x.formals.length:Int))=false:=hq2
        have:=bne_eq_false_iff_eq.1 hq2
        omega
       clear hq2
       refine cK (xT (cS (cQ (sA Z (sK [0,4,5,8,9,12,13,14,15] Z (cB (cd_lq (σ := Nat) (fun i=>[(0,.slice (some ⟨b,o,none⟩) l.length vc),(4,sv n),(5,.slice aa A.length ac),(8,.pointer (some ⟨b8,0,none⟩)),(9,.pointer (some ⟨b9,0,none⟩)),(13,.bool true),(14,.pointer (some ⟨b14,0,none⟩)),(15,.int .i64 (i:Nat))]) (fun _=>pt b8 (cl [.int .i64 s.kind,sv s.name,.slice xa s.args.length xc,.bool s.void,.bool s.sep] 25)::pt b9 (cl [.int .i64 t.kind,sv t.name,.slice ya t.args.length yc,.bool t.void,.bool t.sep] 25)::pt b14 (cl [sv x.name,d,.slice fa x.formals.length fc,pv,c2,.slice ffa x.feats ffc,i2] 54)::S::hr) (fun i=>i≤A.length∧∀ a∈A.take i,a.depth≤16) (fun i=>A.length - i) 0 ⟨Nat.zero_le _,fun a ha=>by simp at ha⟩ ?_)))))))
       rintro i ⟨hi,hal⟩
       refine cS (cQ (sM Z (sM Z (sV (v_len Z Tryz.underlying23) (sV (v_lss Z Z) (sK [0,4,5,8,9,13,14,15,76] Z (cC Z (fun hd=>?_) (fun hd=>?_))))))))
       ·have hlt2:i<A.length:=by simpa using hd
        obtain ⟨ba,oa,capa,us,e3,hus,hrda,hta⟩:=hA.at (List.getElem?_eq_getElem hlt2)
        cases e3
        have htk:A.take (i+1)=A.take i++[A[i]]:=by rw [List.take_add_one,List.getElem?_eq_getElem hlt2]; rfl
        have hli:=Light_ct hta (deep:=45) (by omega) (by omega)
        generalize A[i]=a at hta hli htk
        obtain ⟨z,rfl,hz⟩:=hta.out
        obtain ⟨za,zc,rfl,_⟩:=id hz.form
        unfold tyC at hrda hli
        refine cK (xT (cS (cB (cQ (sM Z (sM Z (sV (vI (k:=i) Z Z sl23 Z hlt2 Z) (sV (v_ldn Z ld25 Z hrda) ?_))))))))
        refine st_cl Z Z en12 Z (hli) ?_
        rintro u h' ⟨ok,rfl,rfl,hok⟩
        simp only [lC,lN]
        refine sV (v_not Z) (sK [0,4,5,8,9,13,14,15,84] Z ?_)
        cases ok with
        | false =>
         refine cd_true Z ?_
         refine cQ (sM Z (sA Z (sK [12] Z (cT (xW (xR (xR (xW (xR (xt_law Z ?_))))))))))
         refine Sub.sel slq ?_
         repeat apply Sub.cons
         exact Sub.refl _
        | true =>
         obtain ⟨_,g2⟩:=hok rfl
         refine cd_false Z ?_
         refine cK (xB (xT (cR (sM Z (sV (v_add Z Z (by unfold I64 at *; omega)) (sA Z (sN (nK [0,4,5,8,9,13,14,15] Z (nx_xt ?_)))))))))
         refine xt_aq (i+1) ⟨hlt2,fun a' ha'=>by
          rw [htk] at ha'
          rcases List.mem_append.1 ha' with h | h
          ·exact hal a' h
          ·simp at h; subst h; omega⟩ (Nat.sub_lt_sub_left hlt2 (Nat.lt_succ_self i))
       ·have hil:i=A.length:=by
         have:¬ i<A.length:=by simpa using hd
         omega
        rw [hil,List.take_length] at hal
        refine cd_exit (xE (xE (xY (xT (cQ (sV (vF Z fa54_0 Z) (sV (vY Z ld9) ?_)))))))
        refine sM Z (st_clr Z Z en28 Z (lClass_ct) ?_)
        refine st_alc al25 fun b16=>?_
        refine st_stoW Z Z sz25 Z Z ?_
        refine sK [0,4,5,8,9,13,14,16] Z (cS (cQ (sM Z (sV (v_len Z Tryz.underlying23) (sV (v_gtr Z Z) (sM Z ?_))))))
        have hg:Ty S [.int .i64 3,sv x.name,.slice aa A.length ac,.bool false,.bool false] (.mk 3 x.name A false false):=Ty.of (t:=.mk 3 x.name A false false) rfl hA
        by_cases hA0:0<A.length
        ·rw [show decide (0<(A.length:Int))=true from decide_eq_true (by omega)]
         refine sG Z Z (vM Z) (sG Z Z (vM Z) (sG Z Z (v_ldn Z ld25 Z rds_pt) ?_))
         refine st_grd Z Z (st_buildSlice (cells:=[.int .i64 3,sv x.name,.slice aa A.length ac,.bool false,.bool false]) Z Tryz.underlying23 inf25 Z Z (by kernel_rfl) (ltn Z) fun b97=>?_)
         refine st_pv (pv_of (b:=b97) (n:=1) (sz:=5) (E:=25) [[.int .i64 3,sv x.name,.slice aa A.length ac,.bool false,.bool false]] Z (by simp) Z (by decide)) ?_
         simp only [lC,lN]
         refine st_ok (r:=VR (.slice (some ⟨b97,0,none⟩) 1 1) 25 5 [[.int .i64 3,sv x.name,.slice aa A.length ac,.bool false,.bool false]]) slq fun hok=>?_
         have hlr:=ok_star (lRight_ct (hv0.mono (rd_in (.there .here))) n (tys_one (b:=b97) hg hok))
         refine st_grd Z Z (st_cl Z Z en26 Z (hlr) ?_)
         rintro u h' ⟨ok,rfl,rfl,hok⟩
         simp only [lC,lN]
         refine sG Z Z (v_not Z) (sV (vQ Z Z) (sK [0,4,5,8,9,13,14,16,100] Z ?_))
         cases ok with
         | false =>
          refine cd_true Z ?_
          refine cQ (sM Z (sA Z (sK [12] Z (cT (xR (xt_law Z ?_))))))
          refine Sub.sel slq ?_
          repeat apply Sub.cons
          exact Sub.refl _
         | true =>
          obtain g2:=hok rfl
          refine cd_false Z ?_
          refine cK (xT (cS (cQ (sM Z (sV (v_len Z Tryz.underlying23) (sV (v_eql Z Z) (sK [0,4,5,8,9,13,14,16,104] Z ?_)))))))
          clear hlr hok
          rw [show ((A.length:Int) == 0)=false from beq_eq_false_iff_ne.2 (by omega)]
          refine cd_false Z ?_
          refine cK (xT (cQ (sV (vF Z fa54_2 Z) (sV (vY Z ld48) ?_))))
          refine sM Z ?_
          obtain ⟨k1,k2,k3,k4,k5,k6,k7⟩:=placed g hxm hlen (.inr g2) hds hdt hal
          have h29s:=subst_ct hrow hA hs0
          have h29t:=subst_ct hrow hA ht0
          have h21s:=Seen_ct hv0 htn hg x.name hs0 (by omega)
          have h21t:=Seen_ct hv0 htn hg x.name ht0 (by omega)
          rw [k1] at h21s
          rw [k2] at h21t
          have hgo1:=hgo htn x.name (by omega) (by omega)
          have hgo2:=fun (M:Res) (hM:∀ p u,Rd S p u→Rd M p u) us' ws' (h1:Ty M us' (s.subst x.formals A)) (h2:Ty M ws' (t.subst x.formals A))=>goes_ct (hv0.mono hM) htn n h1 h2 (by omega) (by omega)
          generalize goesB l x.name s t=B1 at hgo1 k5
          generalize s.subst x.formals A=s1 at *
          generalize t.subst x.formals A=t1 at *
          unfold tyC at h29s h29t h21s h21t
          refine sV (v_ldn Z ld25 Z rds_pt) ?_
          refine st_cl Z Z en29 Z (h29s) ?_
          rintro u h' ⟨T1,rfl,us1,rfl,hq1⟩
          obtain ⟨x1,rfl,hx1⟩:=hq1.out
          obtain ⟨x1a,x1c,rfl,_⟩:=id hx1.form
          unfold tyC
          simp only [lC,lN]
          refine st_alc al25 fun b17=>?_
          refine st_stoW Z Z sz25 Z Z ?_
          refine sK [0,4,5,8,9,13,14,16,17] Z (cQ (sV (vF Z fa54_2 Z) (sV (vY Z ld48) ?_)))
          refine sM Z (sV (v_ldn Z ld25 Z rds_pt) ?_)
          refine st_cl Z Z en29 Z (h29t) ?_
          rintro u h' ⟨T2,rfl,us2,rfl,hq2⟩
          obtain ⟨x2,rfl,hx2⟩:=hq2.out
          obtain ⟨x2a,x2c,rfl,_⟩:=id hx2.form
          unfold tyC
          simp only [lC,lN]
          refine st_alc al25 fun b18=>?_
          refine st_stoW Z Z sz25 Z Z ?_
          refine sK [0,4,8,9,13,14,16,17,18] Z (cQ (sM Z (sV (v_ldn Z ld25 Z rds_pt) ?_)))
          refine sV (vF Z fa54_0 Z) (sV (vY Z ld9) ?_)
          refine sV (v_ldn Z ld25 Z rds_pt) ?_
          refine st_cl Z Z en21 Z (h21s) ?_
          rintro u h' ⟨T3,rfl,us3,rfl,hq3⟩
          obtain ⟨x3,rfl,hx3⟩:=hq3.out
          obtain ⟨x3a,x3c,rfl,_⟩:=id hx3.form
          unfold tyC
          simp only [lC,lN]
          refine sM Z (sV (v_extract Z Z) (sV (v_extract Z Z) (st_alc al25 fun b19=>?_)))
          refine st_stoW Z Z sz25 Z Z ?_
          refine sA Z (sK [0,4,8,9,13,14,16,17,18,19,20] Z (cQ (sM Z (sV (v_ldn Z ld25 Z rds_pt) ?_))))
          refine sV (vF Z fa54_0 Z) (sV (vY Z ld9) ?_)
          refine sV (v_ldn Z ld25 Z rds_pt) ?_
          refine st_cl Z Z en21 Z (h21t) ?_
          rintro u h' ⟨T4,rfl,us4,rfl,hq4⟩
          obtain ⟨x4,rfl,hx4⟩:=hq4.out
          obtain ⟨x4a,x4c,rfl,_⟩:=id hx4.form
          unfold tyC
          simp only [lC,lN]
          refine sM Z (sV (v_extract Z Z) (sV (v_extract Z Z) (st_alc al25 fun b21=>?_)))
          refine st_stoW Z Z sz25 Z Z ?_
          refine sA Z (sK [0,4,8,9,13,14,17,18,19,20,21,22] Z (cS (cQ (sM Z (sV (v_neq Z Z) (sM Z ?_))))))
          rw [show ((0:Int) != 0)=false from rfl]
          refine sG Z Z (vM Z) (sG Z Z (v_neq Z Z) (sV (vP Z Z) (sM Z ?_)))
          rw [show ((0:Int) != 0)=false from rfl]
          have c:=reads_star (same_ct (S:=Res.star [T4,T3,T2,T1,S]) (hq3.mono (rd_sub (sbq))) (hq1.mono (rd_sub (sbq))))
          rw [(same_iff _ _).2 rfl] at c
          unfold tyC at c
          refine sG Z Z (v_ldn Z ld25 Z rds_pt) ?_
          refine sG Z Z (v_ldn Z ld25 Z rds_pt) ?_
          refine st_clrg Z Z Z Z en15 Z (c) ?_
          clear c
          refine sG Z Z (v_not Z) (sV (vP Z Z) (sM Z ?_))
          have c:=reads_star (same_ct (S:=Res.star [T4,T3,T2,T1,S]) (hq4.mono (rd_sub (sbq))) (hq2.mono (rd_sub (sbq))))
          rw [(same_iff _ _).2 rfl] at c
          unfold tyC at c
          refine sG Z Z (v_ldn Z ld25 Z rds_pt) ?_
          refine sG Z Z (v_ldn Z ld25 Z rds_pt) ?_
          refine st_clrg Z Z Z Z en15 Z (c) ?_
          clear c
          refine sG Z Z (v_not Z) (sV (vP Z Z) (sK [0,4,8,9,13,14,17,18,152] Z (cd_false Z ?_)))
          refine cK (xT (cS (cQ ?_)))
          have l1:=ok_star (Light_ct (S:=Res.star [T1,S]) hq1 (deep:=0) (by omega) (by omega))
          have l2:=ok_star (Light_ct (S:=Res.star [T2,S]) hq2 (deep:=0) (by omega) (by omega))
          unfold tyC at l1 l2
          refine sV (v_ldn Z ld25 Z rds_pt) ?_
          refine st_cl Z Z en12 Z (l1) ?_
          rintro u h' ⟨ok,rfl,rfl,hok⟩
          simp only [lC,lN]
          refine sV (v_not Z) (sM Z ?_)
          cases ok with
          | false =>
           iterate 3 refine st_sk rfl rfl rfl ?_
           refine sV (vQ Z Z) (sK [0,4,8,9,13,14,17,18,160] Z (cd_true Z ?_))
           refine cQ (sM Z (sA Z (sK [12] Z (cT (xR (xt_law Z ?_))))))
           refine Sub.sel slq ?_
           repeat apply Sub.cons
           exact Sub.refl _
          | true =>
           obtain _:=hok rfl
           refine sG Z Z (v_ldn Z ld25 Z rds_pt) ?_
           refine st_grd Z Z (st_cl Z Z en12 Z (l2) ?_)
           rintro u h' ⟨ok,rfl,rfl,hok⟩
           simp only [lC,lN]
           refine sG Z Z (v_not Z) (sV (vP Z Z) (sK [0,4,8,9,13,14,17,18,160] Z ?_))
           cases ok with
           | false =>
            refine cd_true Z ?_
            refine cQ (sM Z (sA Z (sK [12] Z (cT (xR (xt_law Z ?_))))))
            refine Sub.sel slq ?_
            repeat apply Sub.cons
            exact Sub.refl _
           | true =>
            obtain _:=hok rfl
            refine cd_false Z ?_
            refine cK (xT (cS (cQ (sM Z (sM Z ?_)))))
            have r1:=reads_star (v:=.int .i64 0) (k:=17) (L:=[T1,S]) (by have h:=KRight_ct (hv0.mono (rd_in (.there .here))) htn n hq1 (by omega); rw [k3] at h; exact h)
            have r2:=reads_star (v:=.int .i64 0) (k:=17) (L:=[T2,S]) (by have h:=KRight_ct (hv0.mono (rd_in (.there .here))) htn n hq2 (by omega); rw [k4] at h; exact h)
            unfold tyC at r1 r2
            refine sV (v_ldn Z ld25 Z rds_pt) ?_
            refine st_clr Z Z en17 Z (r1) ?_
            refine sV (v_neq Z Z) (sM Z ?_)
            rw [show ((0:Int) != 0)=false from rfl]
            refine sG Z Z (vM Z) (sG Z Z (vM Z) (sG Z Z (v_ldn Z ld25 Z rds_pt) ?_))
            refine st_clrg Z Z Z Z en17 Z (r2) ?_
            refine sG Z Z (v_neq Z Z) (sV (vP Z Z) (sK [0,4,8,9,13,14,17,18,173] Z ?_))
            rw [show ((0:Int) != 0)=false from rfl]
            refine cd_false Z ?_
            refine cK (xT (cQ (sM Z (sM Z (sG Z Z (vM Z) (sG Z Z (vF Z fa54_0 Z) (sG Z Z (vY Z ld9) ?_)))))))
            refine sG Z Z (v_ldn Z ld25 Z rds_pt) ?_
            refine sG Z Z (v_ldn Z ld25 Z rds_pt) ?_
            refine st_clrg Z Z Z Z en27 Z (hgo1) ?_
            refine sG Z Z (v_not Z) (sG Z Z (vM Z) ?_)
            cases B1 with
            | false =>
             iterate 5 refine st_sk rfl rfl rfl ?_
             refine sG Z Z (vQ Z Z) (sV (vQ Z Z) (sA Z (sK [12] Z (cT (xt_law Z ?_)))))
             refine Sub.sel slq ?_
             repeat apply Sub.cons
             exact Sub.refl _
            | true =>
             have c:=reads_star (hgo2 (Res.star [T2,T1,S]) (rd_in (.there (.there .here))) _ _ (hq1.mono (rd_sub (sbq))) (hq2.mono (rd_sub (sbq))))
             rw [k5 rfl] at c
             unfold tyC at c
             refine sG Z Z (vM Z) (sG Z Z (vM Z) (sG Z Z (v_ldn Z ld25 Z rds_pt) ?_))
             refine sG Z Z (v_ldn Z ld25 Z rds_pt) ?_
             refine st_clrg Z Z Z Z en27 Z (c) ?_
             refine sG Z Z (vP Z Z) (sV (vQ Z Z) (sA Z (sK [12] Z (cT (xt_law Z ?_)))))
             refine Sub.sel slq ?_
             repeat apply Sub.cons
             exact Sub.refl _
        ·rw [show decide (0<(A.length:Int))=false from decide_eq_false (by omega)]
         iterate 6 refine st_sk rfl rfl rfl ?_
         refine sV (vP Z Z) (sK [0,4,5,8,9,13,14,16,100] Z (cd_false Z ?_))
         refine cK (xT (cS (cQ (sM Z (sV (v_len Z Tryz.underlying23) (sV (v_eql Z Z) (sK [0,4,5,8,9,13,14,16,104] Z ?_)))))))
         rw [show ((A.length:Int) == 0)=true from beq_iff_eq.2 (by omega)]
         refine cd_true Z ?_
         refine cR (sV (vF Z fa54_0 Z) (sV (vY Z ld9) ?_))
         refine sA Z (sK [0,4,5,8,9,13,14,16] Z (cQ (sV (vF Z fa54_2 Z) (sV (vY Z ld48) ?_))))
         refine sM Z ?_
         obtain ⟨k1,k2,k3,k4,k5,k6,k7⟩:=placed g hxm hlen (.inl ⟨List.eq_nil_of_length_eq_zero (by omega),rfl⟩) hds hdt hal
         have h29s:=subst_ct hrow hA hs0
         have h29t:=subst_ct hrow hA ht0
         have h21s:=Seen_ct hv0 htn hg x.name hs0 (by omega)
         have h21t:=Seen_ct hv0 htn hg x.name ht0 (by omega)
         rw [k1] at h21s
         rw [k2] at h21t
         have hgo1:=hgo htn x.name (by omega) (by omega)
         have hgo2:=fun (M:Res) (hM:∀ p u,Rd S p u→Rd M p u) us' ws' (h1:Ty M us' (s.subst x.formals A)) (h2:Ty M ws' (t.subst x.formals A))=>goes_ct (hv0.mono hM) htn x.name h1 h2 (by omega) (by omega)
         generalize goesB l x.name s t=B1 at hgo1 k5
         generalize s.subst x.formals A=s1 at *
         generalize t.subst x.formals A=t1 at *
         unfold tyC at h29s h29t h21s h21t
         refine sV (v_ldn Z ld25 Z rds_pt) ?_
         refine st_cl Z Z en29 Z (h29s) ?_
         rintro u h' ⟨T1,rfl,us1,rfl,hq1⟩
         obtain ⟨x1,rfl,hx1⟩:=hq1.out
         obtain ⟨x1a,x1c,rfl,_⟩:=id hx1.form
         unfold tyC
         simp only [lC,lN]
         refine st_alc al25 fun b17=>?_
         refine st_stoW Z Z sz25 Z Z ?_
         refine sK [0,4,5,8,9,13,14,16,17] Z (cQ (sV (vF Z fa54_2 Z) (sV (vY Z ld48) ?_)))
         refine sM Z (sV (v_ldn Z ld25 Z rds_pt) ?_)
         refine st_cl Z Z en29 Z (h29t) ?_
         rintro u h' ⟨T2,rfl,us2,rfl,hq2⟩
         obtain ⟨x2,rfl,hx2⟩:=hq2.out
         obtain ⟨x2a,x2c,rfl,_⟩:=id hx2.form
         unfold tyC
         simp only [lC,lN]
         refine st_alc al25 fun b18=>?_
         refine st_stoW Z Z sz25 Z Z ?_
         refine sK [0,4,8,9,13,14,16,17,18] Z (cQ (sM Z (sV (v_ldn Z ld25 Z rds_pt) ?_)))
         refine sV (vF Z fa54_0 Z) (sV (vY Z ld9) ?_)
         refine sV (v_ldn Z ld25 Z rds_pt) ?_
         refine st_cl Z Z en21 Z (h21s) ?_
         rintro u h' ⟨T3,rfl,us3,rfl,hq3⟩
         obtain ⟨x3,rfl,hx3⟩:=hq3.out
         obtain ⟨x3a,x3c,rfl,_⟩:=id hx3.form
         unfold tyC
         simp only [lC,lN]
         refine sM Z (sV (v_extract Z Z) (sV (v_extract Z Z) (st_alc al25 fun b19=>?_)))
         refine st_stoW Z Z sz25 Z Z ?_
         refine sA Z (sK [0,4,8,9,13,14,16,17,18,19,20] Z (cQ (sM Z (sV (v_ldn Z ld25 Z rds_pt) ?_))))
         refine sV (vF Z fa54_0 Z) (sV (vY Z ld9) ?_)
         refine sV (v_ldn Z ld25 Z rds_pt) ?_
         refine st_cl Z Z en21 Z (h21t) ?_
         rintro u h' ⟨T4,rfl,us4,rfl,hq4⟩
         obtain ⟨x4,rfl,hx4⟩:=hq4.out
         obtain ⟨x4a,x4c,rfl,_⟩:=id hx4.form
         unfold tyC
         simp only [lC,lN]
         refine sM Z (sV (v_extract Z Z) (sV (v_extract Z Z) (st_alc al25 fun b21=>?_)))
         refine st_stoW Z Z sz25 Z Z ?_
         refine sA Z (sK [0,4,8,9,13,14,17,18,19,20,21,22] Z (cS (cQ (sM Z (sV (v_neq Z Z) (sM Z ?_))))))
         rw [show ((0:Int) != 0)=false from rfl]
         refine sG Z Z (vM Z) (sG Z Z (v_neq Z Z) (sV (vP Z Z) (sM Z ?_)))
         rw [show ((0:Int) != 0)=false from rfl]
         have c:=reads_star (same_ct (S:=Res.star [T4,T3,T2,T1,S]) (hq3.mono (rd_sub (sbq))) (hq1.mono (rd_sub (sbq))))
         rw [(same_iff _ _).2 rfl] at c
         unfold tyC at c
         refine sG Z Z (v_ldn Z ld25 Z rds_pt) ?_
         refine sG Z Z (v_ldn Z ld25 Z rds_pt) ?_
         refine st_clrg Z Z Z Z en15 Z (c) ?_
         clear c
         refine sG Z Z (v_not Z) (sV (vP Z Z) (sM Z ?_))
         have c:=reads_star (same_ct (S:=Res.star [T4,T3,T2,T1,S]) (hq4.mono (rd_sub (sbq))) (hq2.mono (rd_sub (sbq))))
         rw [(same_iff _ _).2 rfl] at c
         unfold tyC at c
         refine sG Z Z (v_ldn Z ld25 Z rds_pt) ?_
         refine sG Z Z (v_ldn Z ld25 Z rds_pt) ?_
         refine st_clrg Z Z Z Z en15 Z (c) ?_
         clear c
         refine sG Z Z (v_not Z) (sV (vP Z Z) (sK [0,4,8,9,13,14,17,18,152] Z (cd_false Z ?_)))
         refine cK (xT (cS (cQ ?_)))
         have l1:=ok_star (Light_ct (S:=Res.star [T1,S]) hq1 (deep:=0) (by omega) (by omega))
         have l2:=ok_star (Light_ct (S:=Res.star [T2,S]) hq2 (deep:=0) (by omega) (by omega))
         unfold tyC at l1 l2
         refine sV (v_ldn Z ld25 Z rds_pt) ?_
         refine st_cl Z Z en12 Z (l1) ?_
         rintro u h' ⟨ok,rfl,rfl,hok⟩
         simp only [lC,lN]
         refine sV (v_not Z) (sM Z ?_)
         cases ok with
         | false =>
          iterate 3 refine st_sk rfl rfl rfl ?_
          refine sV (vQ Z Z) (sK [0,4,8,9,13,14,17,18,160] Z (cd_true Z ?_))
          refine cQ (sM Z (sA Z (sK [12] Z (cT (xR (xt_law Z ?_))))))
          refine Sub.sel slq ?_
          repeat apply Sub.cons
          exact Sub.refl _
         | true =>
          obtain _:=hok rfl
          refine sG Z Z (v_ldn Z ld25 Z rds_pt) ?_
          refine st_grd Z Z (st_cl Z Z en12 Z (l2) ?_)
          rintro u h' ⟨ok,rfl,rfl,hok⟩
          simp only [lC,lN]
          refine sG Z Z (v_not Z) (sV (vP Z Z) (sK [0,4,8,9,13,14,17,18,160] Z ?_))
          cases ok with
          | false =>
           refine cd_true Z ?_
           refine cQ (sM Z (sA Z (sK [12] Z (cT (xR (xt_law Z ?_))))))
           refine Sub.sel slq ?_
           repeat apply Sub.cons
           exact Sub.refl _
          | true =>
           obtain _:=hok rfl
           refine cd_false Z ?_
           refine cK (xT (cS (cQ (sM Z (sM Z ?_)))))
           have r1:=reads_star (v:=.int .i64 0) (k:=17) (L:=[T1,S]) (by have h:=KRight_ct (hv0.mono (rd_in (.there .here))) htn x.name hq1 (by omega); rw [k3] at h; exact h)
           have r2:=reads_star (v:=.int .i64 0) (k:=17) (L:=[T2,S]) (by have h:=KRight_ct (hv0.mono (rd_in (.there .here))) htn x.name hq2 (by omega); rw [k4] at h; exact h)
           unfold tyC at r1 r2
           refine sV (v_ldn Z ld25 Z rds_pt) ?_
           refine st_clr Z Z en17 Z (r1) ?_
           refine sV (v_neq Z Z) (sM Z ?_)
           rw [show ((0:Int) != 0)=false from rfl]
           refine sG Z Z (vM Z) (sG Z Z (vM Z) (sG Z Z (v_ldn Z ld25 Z rds_pt) ?_))
           refine st_clrg Z Z Z Z en17 Z (r2) ?_
           refine sG Z Z (v_neq Z Z) (sV (vP Z Z) (sK [0,4,8,9,13,14,17,18,173] Z ?_))
           rw [show ((0:Int) != 0)=false from rfl]
           refine cd_false Z ?_
           refine cK (xT (cQ (sM Z (sM Z (sG Z Z (vM Z) (sG Z Z (vF Z fa54_0 Z) (sG Z Z (vY Z ld9) ?_)))))))
           refine sG Z Z (v_ldn Z ld25 Z rds_pt) ?_
           refine sG Z Z (v_ldn Z ld25 Z rds_pt) ?_
           refine st_clrg Z Z Z Z en27 Z (hgo1) ?_
           refine sG Z Z (v_not Z) (sG Z Z (vM Z) ?_)
           cases B1 with
           | false =>
            iterate 5 refine st_sk rfl rfl rfl ?_
            refine sG Z Z (vQ Z Z) (sV (vQ Z Z) (sA Z (sK [12] Z (cT (xt_law Z ?_)))))
            refine Sub.sel slq ?_
            repeat apply Sub.cons
            exact Sub.refl _
           | true =>
            have c:=reads_star (hgo2 (Res.star [T2,T1,S]) (rd_in (.there (.there .here))) _ _ (hq1.mono (rd_sub (sbq))) (hq2.mono (rd_sub (sbq))))
            rw [k5 rfl] at c
            unfold tyC at c
            refine sG Z Z (vM Z) (sG Z Z (vM Z) (sG Z Z (v_ldn Z ld25 Z rds_pt) ?_))
            refine sG Z Z (v_ldn Z ld25 Z rds_pt) ?_
            refine st_clrg Z Z Z Z en27 Z (c) ?_
            refine sG Z Z (vP Z Z) (sV (vQ Z Z) (sA Z (sK [12] Z (cT (xt_law Z ?_)))))
            refine Sub.sel slq ?_
            repeat apply Sub.cons
            exact Sub.refl _
end
end Go.Hr
namespace Go.Proofs.YtaohbfnepjjdgaaGreat
open Go Go.RowKit Go.ChangeShapes Go.WideShapes Go.Ck Go.Hr
set_option maxRecDepth 100000 in
theorem kindPlaced_lifted (os:Os) (started:os.Started) (H:Type) (enc:TypeId×Value→H) :
  ReturnsInHanded {} Tryz.checked os 6 .any (Rows.kindPlacedSpec.pre6 enc Tryz.prog Tryz.f6 Rows.kindPlacedRow.domain false) (Rows.kindPlacedSpec.post enc Tryz.prog Tryz.f6 false true false false):=by
 refine returnsInHanded_of_change_sized (C:=Tryz.checked) (show ownKnob Tryz.prog.godebug=none by kernel_rfl) started (by kernel_rfl) Tryz.func6
  (ChangeSpec.witness6 (enc:=enc) (C:=Tryz.checked) false ⟨#[],#[.slice none 0 0,.int .u8 0,.agg #[.int .i64 0,.string ⟨#[]⟩,.slice none 0 0,.bool false,.bool false],.agg #[.int .i64 0,.string ⟨#[]⟩,.slice none 0 0,.bool false,.bool false],.string ⟨#[]⟩,.slice none 0 0],[]⟩ 8 (by kernel_rfl) (by kernel_rfl) (by kernel_rfl) (by kernel_rfl)) ?_
 intro W base args ds gs before hval0 hW hcnd hsz _
 have hval:∀ (j:Nat) t v,Tryz.f6.params[j]? = some t→args[j]? = some v→Value.okWide Tryz.prog W .any base t v:=hval0
 have hW':=hW
 obtain ⟨p,q,hA0,hV,rfl,hfz,hnd⟩:=hW
 have hA:DataW.TrodAll enc Tryz.prog W 0 (fun _=>true) true Tryz.f6.params.toList args.toList ds p:=hA0
 rw [Tryz.params6] at hA hval
 obtain ⟨v0,vs0,d0,ds0,p0,q0,hargs,rfl,rfl,h0,r0⟩:=trodAll_cons hA
 obtain ⟨v1,vs1,d1,ds1,p1,q1,rfl,rfl,rfl,h1,r1⟩:=trodAll_cons r0
 obtain ⟨v2,vs2,d2,ds2,p2,q2,rfl,rfl,rfl,h2,r2⟩:=trodAll_cons r1
 obtain ⟨v3,vs3,d3,ds3,p3,q3,rfl,rfl,rfl,h3,r3⟩:=trodAll_cons r2
 obtain ⟨v4,vs4,d4,ds4,p4,q4,rfl,rfl,rfl,h4,r4⟩:=trodAll_cons r3
 obtain ⟨v5,vs5,d5,ds5,p5,q5,rfl,rfl,rfl,h5,r5⟩:=trodAll_cons r4
 obtain ⟨rfl,rfl,rfl⟩:=trodAll_nil r5
 obtain rfl:args = #[v0,v1,v2,v3,v4,v5]:=by cases args; simp_all
 obtain ⟨rfl,rfl⟩:=trodVars_none hV
 have hz0:∀ n∈d0.weights Tryz.prog 22,n≤reachBytes:=fun n hn=>by
  have:=List.all_eq_true.1 hsz n (DataW.weights_mem_each (j:=0) (t:=22) (by rw [Tryz.params6]; rfl) rfl n hn)
  exact of_decide_eq_true this
 obtain ⟨n0,m0⟩:=gd_of h0 (cells_one (okWide_one (by kernel_rfl) (hval 0 22 v0 rfl rfl))) hz0
 obtain ⟨y1,e1⟩:=arg_one (ty:=.int .u8) (by kernel_rfl) (by kernel_rfl) (hval 1 5 v1 rfl rfl) h1
 have hz2:∀ n∈d2.weights Tryz.prog 25,n≤reachBytes:=fun n hn=>by
  have:=List.all_eq_true.1 hsz n (DataW.weights_mem_each (j:=2) (t:=25) (by rw [Tryz.params6]; rfl) rfl n hn)
  exact of_decide_eq_true this
 have g2:=okWide_agg (Tryz.underlying25) (hval 2 25 v2 rfl rfl)
 obtain ⟨n2,m2⟩:=gd_of h2 rfl hz2
 have hz3:∀ n∈d3.weights Tryz.prog 25,n≤reachBytes:=fun n hn=>by
  have:=List.all_eq_true.1 hsz n (DataW.weights_mem_each (j:=3) (t:=25) (by rw [Tryz.params6]; rfl) rfl n hn)
  exact of_decide_eq_true this
 have g3:=okWide_agg (Tryz.underlying25) (hval 3 25 v3 rfl rfl)
 obtain ⟨n3,m3⟩:=gd_of h3 rfl hz3
 have hz4:∀ n∈d4.weights Tryz.prog 9,n≤reachBytes:=fun n hn=>by
  have:=List.all_eq_true.1 hsz n (DataW.weights_mem_each (j:=4) (t:=9) (by rw [Tryz.params6]; rfl) rfl n hn)
  exact of_decide_eq_true this
 obtain ⟨n4,m4⟩:=gd_of h4 (cells_one (okWide_one (by kernel_rfl) (hval 4 9 v4 rfl rfl))) hz4
 have hz5:∀ n∈d5.weights Tryz.prog 23,n≤reachBytes:=fun n hn=>by
  have:=List.all_eq_true.1 hsz n (DataW.weights_mem_each (j:=5) (t:=23) (by rw [Tryz.params6]; rfl) rfl n hn)
  exact of_decide_eq_true this
 obtain ⟨n5,m5⟩:=gd_of h5 (cells_one (okWide_one (by kernel_rfl) (hval 5 23 v5 rfl rfl))) hz5
 clear hval
 obtain ⟨l0,s0⟩:=ksys_of_gd m0
 obtain ⟨rfl,w1⟩:=rep_kind e1
 obtain ⟨m1,rfl⟩:=Int.eq_ofNat_of_zero_le (wf_u8 w1).1
 have b1:m1≤255:=by have:=(wf_u8 w1).2; omega
 obtain ⟨t2,s2⟩:=ty_of_gd _ _ m2
 have c2:v2 = .agg (v2.cells.toList).toArray:=by rw [Array.toArray_toList]; exact g2
 clear g2 m2
 generalize v2.cells.toList=us2 at s2 c2
 subst c2
 obtain ⟨t3,s3⟩:=ty_of_gd _ _ m3
 have c3:v3 = .agg (v3.cells.toList).toArray:=by rw [Array.toArray_toList]; exact g3
 clear g3 m3
 generalize v3.cells.toList=us3 at s3 c3
 subst c3
 obtain ⟨y4,e4⟩:=gd_str m4 Tryz.underlying9
 obtain rfl:=(List.cons.inj e4).1
 obtain ⟨l5,s5⟩:=tys_of_gd m5
 refine (ct_calls (kindPlaced_ct s0 b1 s2 s3 y4 s5) fun v h' h=>⟨h.1,by rw [h.2]; exact .refl _⟩).mono fun e W' ⟨he,hk⟩=>⟨_,he,?_⟩
 exact law_post (tys:=[.slice (.any 7 partK),.int .u8,.any 5 partK,.any 5 partK,.str,.slice (.any 5 partK)]) hW' Z (by kernel_rfl) Tryz.underlying4 (by rw [Tryz.params6]; kernel_rfl) Z hk
theorem kindPlaced_holds:Rows.KindPlacedSaid :=
 OpenClaim.holds_of_wide 6 Tryz.f6 rfl rfl rfl rfl rfl rfl rfl ⟨rfl,rfl,rfl,rfl,rfl⟩ rfl rfl rfl rfl rfl (by kernel_rfl) Tryz.func6 (by kernel_rfl)
  (of_decide_eq_true (by kernel_rfl)) (by unfold Func.isWrapper; first | (rw [if_pos (by decide +kernel)]; kernel_rfl) | (rw [if_neg (by decide +kernel)]; exact ⟨rfl,rfl⟩))
  (fun os started H enc _=>kindPlaced_lifted os started H enc)
end Go.Proofs.YtaohbfnepjjdgaaGreat
