/-
  Package heir: twice. Conditions: what is read.
-/
import Derived.Test.YtknmacdbffgjgaaGreatDoorM6
import Derived.Test.YtknmacdbffgjgaaGreatDoorM1
import Derived.Test.YtknmacdbffgjgaaGreatDoorM4
set_option linter.unusedVariables false
set_option linter.unusedSimpArgs false
set_option maxRecDepth 100000
set_option maxHeartbeats 16000000
namespace Go.Hr
open Go Go.Ck Go.Proofs Go.Proofs.Tryz Go.Proofs.YtknmacdbffgjgaaGreatDoor Fx
attribute [local irreducible] Go.Ck.Sub St Cd Xt Nx DrL LsW
section
variable {α : Type} (g : α -> Value)
def mvG (F:List (Nm × α)):List (Bs×Value):=F.map λp=>(p.1,g p.2)
theorem lu (F:List (Nm × α)) (k:Nm):bL (mvG g F) k=(dY F k).map g:=by
 induction F with
 | nil=>rfl
 | cons p t ih =>
  rw [dM]
  unfold mvG bL at ih ⊢
  rw [List.map_cons,List.find?_cons]
  by_cases h:p.1=k
  ·simp [h]
  ·have:(p.1 == k)=false:=by simp [h]
   simp only [this,if_neg h]
   exact ih
theorem oI (F:List (Nm × α)) (k:Nm) (x : α):eG (mvG g F) k (g x)=mvG g (fV F k x):=by
 induction F with
 | nil=>rfl
 | cons p t ih =>
  unfold mvG at ih ⊢
  rw [List.map_cons]
  unfold eG fV
  by_cases h:p.1=k
  ·simp [h]
  ·rw [if_neg h,if_neg h,ih]; rfl
end
def nV (n:Nat):Value:=.int .i64 ((n:Int)+1)
section
variable {S:Res} {v:Value} {l:Sys}
theorem far_ct {mb:Nat} (hv:mD S v l) (hF:Fine l) (to:Nm):Ct prog 271 #[.agg #[v,.map (some mb)],sv to] [S,mps mb (bF l)] λu h'=>∃ mf F,u = .map (some mf)/\h'=[mps mf (mvG nV F),S,mps mb (bF l)]/\∀ x,dY F x=gV l to x:=by
 obtain ⟨a,cap,rfl,_⟩:=id hv
 have hFl:=hF.len
 refine qQ (n:=62) func271 Z Z (len Z) λhr w0=>?_
 refine cQ (aP Z Z λb2=>?_)
 refine sA Z<|sK [1,2,4] Z<|cQ (eO (ltn Z) λb14=>?_)
 refine sM Z<|Ih Z Z Z gQ slq ?_
 refine sM Z (ak al162 λb5=>?_)
 refine bg Z Z sz162 ?_
 refine sK [2,4,5] Z<|cS<|cQ (ak al4 λb6=>?_)
 refine bg Z Z sz4 ?_
 refine sN<|nT<|cB ?_
 rw [show eG [] to (Value.int .i64 1)=mvG nV [(to,0)] from rfl]
 refine nU<|nS (σ := List (Nm×Nat)×Bool×Nat×List Nat) (λq=>q.2.2.2.map mk) (λq=>[(2,.pointer (some ⟨b2,0,none⟩)),(5,.pointer (some ⟨b5,0,none⟩)),(6,.pointer (some ⟨q.2.2.1,0,none⟩))]) (λq=>Res.star (marks q.2.2.2)::pt q.2.2.1 (cl [.bool q.2.1] 4)::pt b5 (cl [.map (some b14)] 162)::mps b14 (mvG nV q.1)::pt b2 (cl [.slice a l.length cap,.map (some mb)] 164)::S::mps mb (bF l)::hr) (λq=>FarI l to q.1/\(q.2.1=false->∀ c p,p∈par l c->Rel q.1 c p)) (λq=>if q.2.1 then pot l q.1+1 else 0) ([(to,0)],true,b6,[]) ⟨FarI.init l to,λh=>by cases h⟩ rfl ⟨rfl,rfl,rfl,trivial⟩ sbq ?_
 rintro ⟨F0,fl0,b60,bs⟩ ⟨hI0,hdone⟩
 simp only at hI0 hdone
 dsimp only
 refine cS<|cQ<|sV (vY Z ld4) ?_
 refine sN<|nT<|cC Z (λhf=>?_)<|λhf=>?_
 ·refine cK<|xT<|cS<|cB<|cQ<|bg Z Z sz4 ?_
  refine sK [2,5,6] Z<|cQ<|sV (vF Z DW Z)<|sV (vY Z ld22) ?_
  refine sV (aF rfl underlying22)<|sM rfl<|sK [2,5,6,19,20,21] rfl<|cB<|nS (σ := Nat×List (Nm×Nat)×Bool×List Nat) (λq=>q.2.2.2.map mk) (λq=>[(2,.pointer (some ⟨b2,0,none⟩)),(5,.pointer (some ⟨b5,0,none⟩)),(6,.pointer (some ⟨b60,0,none⟩)),(19,.slice a l.length cap),(20,.int .i64 l.length),(21,.int .i64 (q.1:Nat))]) (λq=>Res.star (marks q.2.2.2)::pt b60 (cl [.bool q.2.2.1] 4)::pt b5 (cl [.map (some b14)] 162)::mps b14 (mvG nV q.2.1)::pt b2 (cl [.slice a l.length cap,.map (some mb)] 164)::S::mps mb (bF l)::hr) (λq=>q.1≤l.length/\FarI l to q.2.1/\(q.2.2.1=true->pot l q.2.1<pot l F0)/\(q.2.2.1=false->q.2.1=F0/\∀ (j:Nat) (y:Cls),j<q.1->l[j]? = some y->∀ p∈par l y.name,Rel F0 y.name p)) (λq=>l.length - q.1) (0,F0,false,bs) ⟨Nat.zero_le _,hI0,λh=>(by cases h),λ_=>⟨rfl,λj y hj=>by omega⟩⟩ rfl ⟨rfl,rfl,rfl,rfl,rfl,rfl,trivial⟩ sbq ?_
  rintro ⟨i,F,fl,bs2⟩ ⟨hi,hI,hpot,hsame⟩
  simp only at hi hI hpot hsame
  dsimp only
  refine cQ<|sV (aN Z Z)<|sN<|nT<|cS<|cC Z (λhd=>?_)<|λhd=>?_
  ·have hlt:i<l.length:=Zx
   obtain ⟨b,o,cap2,d,f,pa,pc,c2,fa,fc,j2,hv2,hrd,hP,hone⟩:=tX hv<|Zy hlt
   have hname:(l[i]).name=(l[i]).name:=rfl
   generalize hcn:(l[i]).name=cn at *
   refine cK<|xT<|cS<|cB<|cQ<|sV (vI (k:=i) (congrArg some hv2) Z vz Z hlt Z)<|sV (af Z gL Z hrd) ?_
   refine ak oz λb8=>?_
   refine ai Z Z mq Z hone ?_
   refine sK [2,5,6,8,19,20,21] Z<|cQ<|sV (af Z kJ Z ag) ?_
   refine sV (vF Z dN Z)<|sV (vY Z ld9) ?_
   refine aJ Z Z Fz Z (kg Z) ?_
   rintro u h' ⟨n1,n2,rfl,rfl⟩
   refine sK [2,5,6,8,19,20,21,28] Z<|cB ?_
   simp only [lC,lN]
   unfold seqv
   refine jg Z FE λyl db rec hst hpe hps hasg hbo hkn2=>?_
   refine ⟨_,Ct.perm (FM (σ := List (Nm×Nat)×Bool) (b1:=n1) (b2:=n2) (mb:=mb) (yl:=yl) (c:=cn) (λq=>pt yl (.loop rec)::pt db (.deferred<|some [])::pt b8 (cl [sv cn,d,f,.slice pa l[i].parents.length pc,c2,.slice fa l[i].feats fc,j2] 44)::Res.star (marks bs2)::pt b60 (cl [.bool q.2] 4)::pt b5 (cl [.map (some b14)] 162)::mps b14 (mvG nV q.1)::pt b2 (cl [.slice a l.length cap,.map (some mb)] 164)::hr)
    (λk q=>FarI l to q.1/\(q.2=true->pot l q.1<pot l F0)/\(q.2=false->q.1=F0/\(∀ (j:Nat) (y:Cls),j<i->l[j]? = some y->∀ p∈par l y.name,Rel F0 y.name p)/\∀ p∈(par l cn).take k,Rel F0 cn p)) (λ_ _=>False) (F,fl) ⟨hI,hpot,λh=>⟨(hsame h).1,(hsame h).2,λp hp=>by simp at hp⟩⟩ hv hF.few ?_) ?_,?_⟩
   ·rintro k ⟨F2, fl2⟩ p hk ⟨hI2, hpot2, hsame2⟩
    simp only at hI2 hpot2 hsame2
    have hpm:=List.mem_of_getElem? hk
    have htk:∀ q,q∈(par l cn).take (k+1)->q∈(par l cn).take k∨q=p:=λq hq=>by
     obtain ⟨hkl,hke⟩:=List.getElem?_eq_some_iff.1 hk
     rw [List.take_succ_eq_append_getElem hkl,hke] at hq
     simpa using hq
    refine Yc.perm (qO (n:=62) (rec:=rec) (args:=[sv p]) (hf:=pt db (.deferred<|some [])::pt b8 (cl [sv cn,d,f,.slice pa l[i].parents.length pc,c2,.slice fa l[i].feats fc,j2] 44)::Res.star (marks bs2)::pt b60 (cl [.bool fl2] 4)::pt b5 (cl [.map (some b14)] 162)::mps b14 (mvG nV F2)::pt b2 (cl [.slice a l.length cap,.map (some mb)] 164)::S::mps mb (bF l)::hr) (by rw [hps]; rfl) hkn2 (by rw [hps]; decide) ?_) (by exact (by repeat (first | exact Pm.refl | refine Pm.cons slq ?_):Pm _ _).perm)
    intro hr2 w1
    rw [hasg,hps,hbo]
    simp only [lC,lN]
    refine cR<|sA Z<|sN<|nK [5,6,8,9] Z<|ax<|lG Z slq (by first | rfl | assumption) ?_
    refine cB<|cQ<|sV (vY Z kI) ?_
    refine sM Z ?_
    cases hp1:dY F2 p
    ·refine sV (gG (show Value.tuple #[(bL (mvG nV F2) p).getD (.int .i64 0),.bool (bL (mvG nV F2) p).isSome] = .tuple #[.int .i64 0,.bool false] by rw [lu,hp1]; rfl)<|dU Z Z gQ om slq) ?_
     refine sM Z<|sV (ah Z Z)<|sV (ah Z Z)<|sA Z<|sA Z<|sK [5,6,8,10,11] Z<|cQ<|sV (vY Z kI) ?_
     refine sV (vF Z dN Z)<|sV (vY Z ld9) ?_
     refine sV (dU Z Z gQ om slq) ?_
     refine sM Z<|sV (ah Z Z)<|sV (ah Z Z)<|sA Z<|sA Z<|sK [5,6,8,10,11,12,13] Z<|cQ<|sM Z<|sM Z<|aB Z Z Z ?_
     iterate 2 refine aB rfl rfl rfl ?_
     refine bY Z Z ?_
     refine bY Z Z ?_
     refine bY Z Z ?_
     refine bY Z Z ?_
     refine aB Z Z Z ?_
     refine sV (vP Z Z)<|sK [5,6,8,10,53] Z<|aH Z ?_
     refine cK<|xB<|dA slq (.inl ⟨Z,(F2,fl2),⟨hI2,hpot2,λh=>⟨(hsame2 h).1,(hsame2 h).2.1,λq hq=>?_⟩⟩,Z⟩) ?_
     ·obtain ⟨he,_,h3⟩:=hsame2 h
      rcases htk q hq with hq | rfl
      ·exact h3 q hq
      ·intro n hn
       rw [<- he,hp1] at hn; cases hn
     ·rw [dB hst hpe]
      exact sbq
    ·rename_i n
     have hn1:=hI2.walk p n hp1
     have hn2:=hI2.len
     refine sV (gG (show Value.tuple #[(bL (mvG nV F2) p).getD (.int .i64 0),.bool (bL (mvG nV F2) p).isSome] = .tuple #[.int .i64 ((n:Int)+1),.bool true] by rw [lu,hp1]; rfl)<|dU Z Z gQ om slq) ?_
     refine sM Z<|sV (ah Z Z)<|sV (ah Z Z)<|sA Z<|sA Z<|sK [5,6,8,10,11] Z<|cQ<|sV (vY Z kI) ?_
     refine sV (vF Z dN Z)<|sV (vY Z ld9) ?_
     cases hc1:dY F2 cn
     ·refine sV (gG (show Value.tuple #[(bL (mvG nV F2) cn).getD (.int .i64 0),.bool (bL (mvG nV F2) cn).isSome] = .tuple #[.int .i64 0,.bool false] by rw [lu,hc1]; rfl)<|dU Z Z gQ om slq) ?_
      refine sM Z<|sV (ah Z Z)<|sV (ah Z Z)<|sA Z<|sA Z<|sK [5,6,8,10,11,12,13] Z<|cQ<|sM Z<|sM Z<|sG Z Z (vM Z)<|sG Z Z (aZ Z)<|sG Z Z (vM Z)<|aB Z Z Z ?_
      iterate 3 refine aB rfl rfl rfl ?_
      refine sG Z Z (vQ Z Z)<|sV (vQ Z Z)<|sK [5,6,8,10,53] Z<|aQ Z ?_
      refine cR<|sV (vY Z kI) ?_
      refine sV (vF Z dN Z)<|sV (vY Z ld9) ?_
      refine sM Z<|sV (aI Z Z Z0)<|cO Z Z Z gQ slq ?_
      refine bg Z Z sz4 ?_
      refine sN<|nK [] Z<|ax<|xB ?_
      rw [show eG (mvG nV F2) cn (.int .i64 ((n:Int)+1+1))=mvG nV (fV F2 cn (n+1)) from oI nV F2 cn (n+1)]
      obtain ⟨hI3,hpot3⟩:=hI2.better hpm hp1<|λn' h=>by rw [hc1] at h; cases h
      refine dA slq (.inl ⟨rfl,(fV F2 cn (n+1),true),⟨hI3,λ_=>?_,λh=>by cases h⟩,rfl⟩) ?_
      ·show pot l (fV F2 cn (n+1))<pot l F0
       cases hfl:fl2 with
       | true=>have:=hpot2 hfl; omega
       | false=>exact Nat.lt_of_lt_of_eq hpot3 (congrArg (pot l) (hsame2 hfl).1)
      ·rw [dB hst hpe]
       exact sbq
     ·rename_i n'
      have hn3:=hI2.walk cn n' hc1
      refine sV (gG (show Value.tuple #[(bL (mvG nV F2) cn).getD (.int .i64 0),.bool (bL (mvG nV F2) cn).isSome] = .tuple #[.int .i64 ((n':Int)+1),.bool true] by rw [lu,hc1]; rfl)<|dU Z Z gQ om slq) ?_
      refine sM Z<|sV (ah Z Z)<|sV (ah Z Z)<|sA Z<|sA Z<|sK [5,6,8,10,11,12,13] Z<|cQ<|sM Z<|sM Z<|sG Z Z (vM Z)<|sG Z Z (aZ Z)<|sG Z Z (vM Z)<|sG Z Z (vM Z) ?_
      refine sG Z Z (vM Z)<|sG Z Z (aI Z Z Z0)<|sG Z Z (bW Z Z)<|sG Z Z (vP Z Z)<|sV (vQ Z Z)<|sK [5,6,8,10,53] Z<|cC Z (λhb=>?_)<|λhb=>?_
      ·have hb:n+1<n':=by
        have:(n:Int)+1+1<(n':Int)+1:=Zf
        omega
       refine cR<|sV (vY Z kI) ?_
       refine sV (vF Z dN Z)<|sV (vY Z ld9) ?_
       refine sM Z<|sV (aI Z Z Z0)<|cO Z Z Z gQ slq ?_
       refine bg Z Z sz4 ?_
       refine sN<|nK [] Z<|ax<|xB ?_
       rw [show eG (mvG nV F2) cn (.int .i64 ((n:Int)+1+1))=mvG nV (fV F2 cn (n+1)) from oI nV F2 cn (n+1)]
       obtain ⟨hI3,hpot3⟩:=hI2.better hpm hp1<|λm h=>by rw [hc1] at h; cases h; exact hb
       refine dA slq (.inl ⟨rfl,(fV F2 cn (n+1),true),⟨hI3,λ_=>?_,λh=>by cases h⟩,rfl⟩) ?_
       ·show pot l (fV F2 cn (n+1))<pot l F0
        cases hfl:fl2 with
        | true=>have:=hpot2 hfl; omega
        | false=>exact Nat.lt_of_lt_of_eq hpot3 (congrArg (pot l) (hsame2 hfl).1)
       ·rw [dB hst hpe]
        exact sbq
      ·have hb:n'≤n+1:=by
        have:¬ (n:Int)+1+1<(n':Int)+1:=Zf
        omega
       refine cK<|xB<|dA slq (.inl ⟨Z,(F2,fl2),⟨hI2,hpot2,λh=>⟨(hsame2 h).1,(hsame2 h).2.1,λq hq=>?_⟩⟩,Z⟩) ?_
       ·obtain ⟨he,_,h3⟩:=hsame2 h
        rcases htk q hq with hq | rfl
        ·exact h3 q hq
        ·intro m hm
         rw [<- he,hp1] at hm
         cases hm
         exact ⟨n',by rw [<- he]; exact hc1,hb⟩
       ·rw [dB hst hpe]
        exact sbq
   ·exact (by repeat (first | exact Pm.refl | refine Pm.cons slq ?_):Pm _ _).perm
   ·rintro u h' ⟨rfl, (⟨⟨F2, fl2⟩, ⟨hI2, hpot2, hsame2⟩, rfl⟩ | ⟨_, _, hfalse, _⟩)⟩
    ·simp only at hI2 hpot2 hsame2
     rw [List.take_length] at hsame2
     refine ⟨rec,_,slq,(by rw [hst]; simp),?_⟩
     rw [hpe]
     dsimp only
     refine xB<|xB<|xT<|cR<|sV (aI Z Z Z0)<|sM Z<|sN<|nK [2,5,6,19,20,21] Z<|ax<|jv slq slq ?_
     refine ll (i+1,F2,fl2,db::bs2) ⟨hlt,hI2,hpot2,λh=>⟨(hsame2 h).1,λj y hj hy=>?_⟩⟩ (by show _ - _<_ - _; omega) Z ⟨Z,Z,Z,Z,Z,Z,trivial⟩ sbq
     obtain ⟨_,h2,h3⟩:=hsame2 h
     by_cases hji:j=i
     ·subst hji
      rw [Zy hlt] at hy; cases hy
      rw [hcn]; exact h3
     ·exact h2 j y (by omega) hy
    ·exact hfalse.elim
  ·have hil:i=l.length:=by
    have:¬ i<l.length:=Zx
    omega
   subst hil
   refine aC<|xE<|xE<|xY<|xB<|xT<|cQ<|sV (vY Z ld4) ?_
   refine sK [2,5,6,60] Z<|cR (ak al4 λb6=>?_)
   refine bg Z Z sz4 ?_
   refine sN<|nK [2,5,6] Z<|ax ?_
   refine ll (F,fl,b6,bs2) ⟨hI,λh c p hp=>?_⟩ (by
    show (if fl=true then pot l F+1 else 0)<(if fl0=true then pot l F0+1 else 0)
    rw [if_pos hf]
    split
    ·rename_i h; have:=hpot h; omega
    ·omega) rfl ⟨rfl,rfl,rfl,trivial⟩ sbq
   obtain ⟨rfl,h2⟩:=hsame h
   have hc:=tC hp
   obtain ⟨j,hj⟩:∃ j,idx l c=some j:=by
    cases hh:idx l c with
    | some j=>exact ⟨j,rfl⟩
    | none=>unfold isC at hc; rw [oG.2 hh] at hc; cases hc
   obtain ⟨x,hx,hfx⟩:=oG.1 j hj
   have hn:=(rQ hfx).1
   have:=h2 j x (List.getElem?_eq_some_iff.1 hx).1 hx p (by rw [hn]; exact hp)
   rwa [hn] at this
 ·have hf2:fl0=false:=by simpa using hf
  refine aC<|xE<|xE<|xY<|xT<|cQ<|sV (vY Z kI) ?_
  refine sA Z<|sK [4] Z<|cT<|DD (bs:=bs) Z Z ⟨b14,F0,Z,Z,hI0.done<|hdone hf2⟩ sbq
end
def cmpI (a b:Int):Int:=if a<b then -1 else if b<a then 1 else 0
def rf (a b:Nm):Int:=if lt a b=true then -1 else if lt b a=true then 1 else 0
def cmpL:List Nm->List Nm->Int
 | [],[]=>0
 | [],_::_ => -1
 | _::_,[]=>1
 | a::x,b::y=>if rf a b≠0 then rf a b else cmpL x y
theorem Kj : ∀ a b : List Nm, decide (cmpL a b < 0) = BS a b
 | [],[]=>rfl
 | [],_::_=>rfl
 | _::_,[]=>rfl
 | a :: x, b :: y => by
  unfold cmpL BS
  have ih:=Kj x y
  unfold rf
  rcases dX a b with h | h | h
  ·simp [h]
  ·subst h; rw [lt_irrefl]; simp [ih]
  ·have h2:=iP h
   rw [h2,h]
   have:(a == b)=false:=by
    cases hab:a == b with
    | false=>rfl
    | true=>rw [show a=b by simpa using hab,lt_irrefl] at h; cases h
   simp [this]
section
variable {S S':Res} {v v':Value}
theorem Kk (a:Int):Reads prog 272 #[.int .i64 a] [] (.bool false):=by
 refine aL (n:=6) func272 Z Z (len Z) λhr w0=>?_
 refine cQ<|sA Z<|sN<|nT<|cQ<|sM Z<|sM Z<|sV (bK Z Z)<|sA Z<|sK [2] Z<|cT ?_
 rw [show (a != a)=false by simp]
 exact aj Z ⟨Z,Z⟩ sbq
theorem Kl (a:Nm):Reads prog 203 #[sv a] [] (.bool false):=by
 refine aL (n:=6) func203 Z Z (len Z) λhr w0=>?_
 refine cQ<|sA Z<|sN<|nT<|cQ<|sM Z<|sM Z<|sV (oV Z Z)<|sA Z<|sK [2] Z<|cT ?_
 rw [show (!(a == a))=false by simp]
 exact aj Z ⟨Z,Z⟩ sbq
theorem cmpI_ct (a b:Int):Reads prog 228 #[.int .i64 a,.int .i64 b] [] (.int .i64 (cmpI a b)):=by
 unfold cmpI
 refine aL (n:=20) func228 Z Z (len Z) λhr w0=>?_
 refine cQ<|sA Z<|sN<|nT<|cQ<|sM Z<|aX Z Z en272 Z (Kk a) ?_
 refine sA Z<|sK [0,1,4,5] Z<|cQ<|sM Z<|aX Z Z en272 Z (Kk b) ?_
 refine sA Z<|sK [0,1,4,5,6] Z<|cS<|cQ<|sM Z<|sK [0,1,4,6,11] Z<|aH Z ?_
 refine cK<|xT<|cS<|cQ<|sM Z<|sK [0,1,4,13] Z<|aH Z ?_
 refine cK<|xT<|cS<|cQ<|sM Z<|sM Z<|sV (aN Z Z)<|sK [0,1,4,16] Z<|cC Z (λh1=>?_)<|λh1=>?_
 ·refine cQ<|sA Z<|sK [4] Z<|cT<|xR ?_
  rw [if_pos Ze]
  exact aj Z ⟨Z,Z⟩ sbq
 ·rw [if_neg Ze]
  refine cK<|xT<|cS<|cQ<|sM Z<|sM Z<|sV (bW Z Z)<|sK [4,19] Z<|cC Z (λh2=>?_)<|λh2=>?_
  ·refine cQ<|sA Z<|sK [4] Z<|cT<|xR ?_
   rw [if_pos Zm]
   exact aj Z ⟨Z,Z⟩ sbq
  ·refine cK<|xT<|cQ<|sA Z<|sK [4] Z<|cT ?_
   rw [if_neg Zm]
   exact aj Z ⟨Z,Z⟩ sbq
theorem yS (a b:Nm):Reads prog 126 #[sv a,sv b] [] (.int .i64 (rf a b)):=by
 unfold rf
 refine aL (n:=20) func126 Z Z (len Z) λhr w0=>?_
 refine cQ<|sA Z<|sN<|nT<|cQ<|sM Z<|aX Z Z en203 Z (Kl a) ?_
 refine sA Z<|sK [0,1,4,5] Z<|cQ<|sM Z<|aX Z Z en203 Z (Kl b) ?_
 refine sA Z<|sK [0,1,4,5,6] Z<|cS<|cQ<|sM Z<|sK [0,1,4,6,11] Z<|aH Z ?_
 refine cK<|xT<|cS<|cQ<|sM Z<|sK [0,1,4,13] Z<|aH Z ?_
 refine cK<|xT<|cS<|cQ<|sM Z<|sM Z<|sV (v_slss Z Z)<|sK [0,1,4,16] Z<|cC Z (λh1=>?_)<|λh1=>?_
 ·refine cQ<|sA Z<|sK [4] Z<|cT<|xR ?_
  rw [if_pos h1]
  exact aj Z ⟨Z,Z⟩ sbq
 ·rw [if_neg (show ¬ lt a b=true by rw [show lt a b=false from h1]; decide)]
  refine cK<|xT<|cS<|cQ<|sM Z<|sM Z<|sV (v_sgtr Z Z)<|sK [4,19] Z<|cC Z (λh2=>?_)<|λh2=>?_
  ·refine cQ<|sA Z<|sK [4] Z<|cT<|xR ?_
   rw [if_pos (by
    rw [Bool.not_eq_true',Bool.or_eq_false_iff] at h2
    rcases dX a b with h | h | h
    ·exact absurd h (by rw [show lt a b=false from h2.1]; decide)
    ·rw [h] at h2; simp at h2
    ·exact h)]
   exact aj Z ⟨Z,Z⟩ sbq
  ·refine cK<|xT<|cQ<|sA Z<|sK [4] Z<|cT ?_
   rw [if_neg (by
    rw [Bool.not_eq_false',Bool.or_eq_true] at h2
    rcases h2 with h2 | h2
    ·rw [iP h2]; decide
    ·rw [show a=b by simpa using h2,lt_irrefl]; decide)]
   exact aj Z ⟨Z,Z⟩ sbq
theorem cmpL_ct {xs ys:List Nm} (hv:wP S v xs) (hv':wP S' v' ys) (hl:xs.length≤1099511627776) (hl':ys.length≤1099511627776):Reads prog 229 #[v,v'] [S,S'] (.int .i64 (cmpL xs ys)):=by
 obtain ⟨a,cap,rfl,_⟩:=id hv
 obtain ⟨a',cap',rfl,_⟩:=id hv'
 refine aL (n:=36) func229 Z Z (len Z) λhr w0=>?_
 refine cQ<|sA Z<|sN<|nT<|cS<|cQ<|sM Z<|sV (aF Z underlying40)<|sM Z<|sN<|nT<|cB<|aW (σ := Nat) (λi=>[(0,.slice a xs.length cap),(1,.slice a' ys.length cap'),(9,.slice a xs.length cap),(10,.int .i64 xs.length),(11,.int .i64 (i:Nat))]) (λ_=>S::S'::hr) (λi=>i≤xs.length/\i≤ys.length/\cmpL xs ys=cmpL (xs.drop i) (ys.drop i)) (λi=>xs.length - i) 0 ⟨Nat.zero_le _,Nat.zero_le _,Z⟩ ?_
 rintro i ⟨hi,hi',hc⟩
 refine cQ<|sV (aN Z Z)<|sN<|nT<|cS<|cC Z (λhd=>?_)<|λhd=>?_
 ·have hlt:i<xs.length:=Zx
  obtain ⟨b,o,cap2,hv2,hrd⟩:=tY hv<|Zy hlt
  have hx:xs.drop i=xs[i]::xs.drop (i+1):=(List.getElem_cons_drop hlt).symm
  refine cK<|xT<|cS<|cB<|cQ<|sM Z<|sV (vI (k:=i) (congrArg some hv2) Z iZ Z hlt Z)<|sV (vY Z ld9) ?_
  refine sA Z<|sA Z<|sK [0,1,5,6,9,10,11] Z<|cS<|cQ<|sM Z<|sM Z<|sV (aF Z underlying40)<|sV (qh Z Z)<|sK [0,1,5,6,9,10,11,19] Z<|cC Z (λhe=>?_)<|λhe=>?_
  ·have he:ys.length≤i:=by
    have:(ys.length:Int)≤i:=Zj
    omega
   have hy:ys.drop i=[]:=List.drop_eq_nil_of_le he
   refine cQ<|sA Z<|sK [4] Z<|cT<|xR<|xW<|xR<|xR<|xW<|xR ?_
   rw [hc,hx,hy]
   exact aj Z ⟨Z,Z⟩ sbq
  ·have he:i<ys.length:=by
    have:¬ (ys.length:Int)≤i:=Zj
    omega
   obtain ⟨b',o',cap2',hv2',hrd'⟩:=tY hv'<|Zy he
   have hy:ys.drop i=ys[i]::ys.drop (i+1):=(List.getElem_cons_drop he).symm
   refine cK<|xT<|cQ<|sM Z<|sM Z<|sV (vI (k:=i) (congrArg some hv2') Z iZ Z he Z)<|sV (vY Z ld9) ?_
   refine sA Z<|sK [0,1,6,7,9,10,11] Z<|cQ<|sM Z<|sM Z<|aX Z Z Kc Z (yS xs[i] ys[i]) ?_
   refine sA Z<|sK [0,1,8,9,10,11] Z<|cQ<|sM Z<|sV (bK Z Z)<|sK [0,1,8,9,10,11,28] Z<|cC Z (λhn=>?_)<|λhn=>?_
   ·have hn:rf xs[i] ys[i]≠0:=Zk
    refine cQ<|sM Z<|sA Z<|sK [4] Z<|cT<|xW<|xR<|xR<|xW<|xR ?_
    rw [hc,hx,hy,cmpL,if_pos hn]
    exact aj Z ⟨Z,Z⟩ sbq
   ·have hn:rf xs[i] ys[i]=0:=Zk
    refine cK<|xB<|xT<|cR<|sV (aI Z Z Z0)<|sM Z<|sN<|nK [0,1,9,10,11] Z<|ax ?_
    refine aM (i+1) ⟨hlt,he,by rw [hc,hx,hy,cmpL,if_neg (by rw [hn]; decide)]⟩ (by show _ - _<_ - _; omega)
 ·have hil:i=xs.length:=by
   have:¬ i<xs.length:=Zx
   omega
  have hx:xs.drop i=[]:=List.drop_eq_nil_of_le<|by omega
  refine aC<|xE<|xE<|xY<|xT<|cS<|cQ<|sM Z<|sV (aF Z underlying40)<|sM Z<|sV (aF Z underlying40)<|sV (aN Z Z)<|sK [35] Z ?_
  refine cC Z (λhe=>?_)<|λhe=>?_
  ·have he:xs.length<ys.length:=by
    have:(xs.length:Int)<ys.length:=Zj
    omega
   refine cQ<|sA Z<|sK [4] Z<|cT<|xR ?_
   rw [hc,hx,<- List.getElem_cons_drop (show i<ys.length by omega)]
   exact aj Z ⟨Z,Z⟩ sbq
  ·have he:¬ xs.length<ys.length:=by
    have:¬ (xs.length:Int)<ys.length:=Zj
    omega
   refine cK<|xT<|cQ<|sA Z<|sK [4] Z<|cT ?_
   rw [hc,hx,List.drop_eq_nil_of_le (by omega)]
   exact aj Z ⟨Z,Z⟩ sbq
theorem Ny {xs:List Nm} (hv:wP S v xs) (hl:xs.length≤1099511627776) (hne:xs≠[]):Reads prog 188 #[v] [S] (sv (jq xs)):=by
 obtain ⟨a,cap,rfl,_⟩:=id hv
 have h0:0<xs.length:=List.length_pos_iff.2 hne
 obtain ⟨b0,o0,cap0,hv0,hrd0⟩:=tY hv<|Zy h0
 refine aL (n:=25) func188 Z Z (len Z) λhr w0=>?_
 refine cQ<|sA Z<|sN<|nT<|cS<|cQ<|sM Z<|sV (aF Z underlying40)<|sV (aN Z Z)<|sK [0,2,7] Z<|cC Z (λhz=>?_)<|λhz=>?_
 ·have:(xs.length:Int)<1:=Zn
  omega
 ·refine cK<|xT<|cQ<|sM Z<|sV (vI (k:=0) (congrArg some hv0) Z iZ Z h0 Z)<|sV (vY Z ld9) ?_
  refine sA Z<|sK [0,2,3] Z<|cS<|cQ<|sA Z<|sN<|nT<|cB<|aW (σ := Nm×Nat) (λq=>[(0,.slice a xs.length cap),(3,sv q.1),(4,.int .i64 (q.2:Nat))]) (λ_=>S::hr) (λq=>q.2≤xs.length/\q.1∈xs.take q.2/\∀ y∈xs.take q.2,lt y q.1=false) (λq=>xs.length - q.2) (xs[0],1) ⟨h0,by rw [List.take_succ_eq_append_getElem h0]; simp,λy hy=>by rw [List.take_succ_eq_append_getElem h0] at hy; simp at hy; rw [hy]; exact lt_irrefl _⟩ ?_
  rintro ⟨m,i⟩ ⟨hi,hm,hle⟩
  simp only at hi hm hle
  dsimp only
  refine cS<|cQ<|sM Z<|sM Z<|sV (aF Z underlying40)<|sV (aN Z Z)<|sK [0,3,4,15] Z<|cC Z (λhd=>?_)<|λhd=>?_
  ·have hlt:i<xs.length:=Zx
   obtain ⟨b,o,cap2,hv2,hrd⟩:=tY hv<|Zy hlt
   have ht:=List.take_succ_eq_append_getElem hlt
   refine cK<|xT<|cS<|cB<|cR<|sM Z<|sM Z<|sM Z<|sV (vI (k:=i) (congrArg some hv2) Z iZ Z hlt Z)<|sV (vY Z ld9) ?_
   refine sV (v_smin Z Z)<|sA Z<|sN<|nK [0,3,4] Z<|ax<|xB<|xT<|cR<|sM Z<|sV (aI Z Z Z0)<|sA Z<|sN<|nK [0,3,4] Z<|ax<|aM (_,i+1) ⟨hlt,?_,?_⟩ (by show _ - _<_ - _; omega)
   ·show (if _ then _ else _)∈xs.take (i+1)
    rw [ht,List.mem_append]
    split
    ·exact .inl hm
    ·exact .inr<|List.mem_singleton.2 Z
   ·intro y hy
    show lt y (if _ then _ else _)=false
    rw [ht,List.mem_append,List.mem_singleton] at hy
    split
    ·rename_i hq
     rcases hy with hy | rfl
     ·exact hle y hy
     ·rw [Bool.or_eq_true] at hq
      rcases hq with hq | hq
      ·exact iP hq
      ·rw [show m=xs[i] by simpa using hq]; exact lt_irrefl _
    ·rename_i hq
     rw [Bool.not_eq_true,Bool.or_eq_false_iff] at hq
     rcases hy with hy | rfl
     ·cases hc : lt y xs[i] with
      | false=>rfl
      | true =>
       have hxm:lt xs[i] m=true:=by
        rcases dX m xs[i] with h | h | h
        ·exact absurd h (by rw [show lt m xs[i]=false from hq.1]; decide)
        ·rw [h] at hq; simp at hq
        ·exact h
       have:=hle y hy
       rw [lt_trans hc hxm] at this; cases this
     ·exact lt_irrefl _
  ·have hil:i=xs.length:=by
    have:¬ i<xs.length:=Zx
    omega
   subst hil
   rw [List.take_length] at hm hle
   rw [KR hm hle]
   refine aC<|xE<|xE<|xY<|xT<|cQ<|sM Z<|sA Z<|sK [2] Z<|cT ?_
   exact aj Z ⟨Z,Z⟩ sbq
end
def nE (l:Sys) (to c:Nm):List Nm:=match gV l to c with | none=>[] | some k=>short l to k c
theorem rq {l:Sys} {to:Nm} {F:List (Nm×Nat)} (hF:∀ x,dY F x=gV l to x) (x:Nm):(bL (mvG nV F) x).getD (.int .i64 0)=match gV l to x with | none=>.int .i64 0 | some k=>.int .i64 ((k:Int)+1):=by
 rw [lu,hF]
 cases gV l to x <;> rfl
theorem rY {l:Sys} {to c:Nm} {k:Nat} (h:gV l to c=some k):k≤l.length:=by
 unfold gV at h
 have:=List.mem_of_find?_eq_some h
 rw [List.mem_range] at this
 omega
theorem Cv {l:Sys} {to c:Nm}:gV l to c=some 0↔c=to:=by
 rw [iE]
 simp [W]
theorem zU (l:Sys) (to:Nm):∀ k c,short l to k c=c::(short l to k c).drop 1
 | 0,c=>rfl
 | k+1,c=>rfl
theorem Km {l:Sys} (hF:Fine l) (c:Nm):(par l c).length≤1099511627776:=by
 refine Nat.le_trans (List.length_filter_le _ _) ?_
 unfold pars
 cases hf:find l c with
 | none=>simp
 | some x=>exact hF.few x (rQ hf).2
section
variable {S:Res} {v:Value} {l:Sys}
theorem FO {mb:Nat} (hv:mD S v l) (hF:Fine l) (from_ to:Nm):CtN prog 226 #[.agg #[v,.map (some mb)],sv from_,sv to] [S,mps mb (bF l)] λu T=>∃ a cp,u = .slice a (nE l to from_).length cp/\a.isNone=(gV l to from_).isNone/\T=NR u (nE l to from_):=by
 obtain ⟨a,cap,rfl,_⟩:=id hv
 have hFl:=hF.len
 refine qQ (n:=52) func226 Z Z (len Z) λhr w0=>?_
 refine cQ (aP Z Z λb3=>?_)
 refine aP Z Z λb4=>?_
 refine sA Z<|sK [2,3,4,6] Z<|cQ<|sV (af Z kJ Z ag) ?_
 refine sM Z<|aJ Z Z en271 Z (far_ct hv hF to) ?_
 rintro u h' ⟨mf,F,rfl,rfl,hFF⟩
 simp only [lC,lN]
 refine ak al162 λb7=>?_
 refine bg Z Z sz162 ?_
 refine sK [2,3,4,6,7] Z<|cS<|cQ<|sV (vY Z kI) ?_
 refine sV (vY Z ld9) ?_
 cases hd0:gV l to from_
 ·have hsr:nE l to from_=[]:=by unfold nE; rw [hd0]
  refine sV (gG (show (bL (mvG nV F) from_).getD (.int .i64 0) = .int .i64 0 by rw [rq hFF,hd0])<|bI Z Z gQ om slq) ?_
  refine sV (dE Z Z)<|sK [2,3,4,6,7,18] Z<|aQ Z ?_
  refine cQ<|sA Z<|sK [6] Z<|cT<|xR ?_
  rw [hsr]
  refine jG (cZ 9 1)<|jU (bs:=[]) Z Z ⟨NR (.slice none 0 0) [],Z,none,0,Z,Z,Z⟩ sbq
 ·rename_i k0
  have hsr:nE l to from_=short l to k0 from_:=by unfold nE; rw [hd0]
  have hk0:=rY hd0
  refine sV (gG (show (bL (mvG nV F) from_).getD (.int .i64 0) = .int .i64 ((k0:Int)+1) by rw [rq hFF,hd0])<|bI Z Z gQ om slq) ?_
  refine sV (dE Z Z)<|sK [2,3,4,6,7,18] Z ?_
  rw [show (((k0:Int)+1) == 0)=false by simp; omega]
  refine aH Z ?_
  refine cK<|xT<|cQ<|sV (vY Z ld9) ?_
  refine au (cells:=[sv from_]) Z underlying40 fP Z Z Zz (ltn Z) λb20=>?_
  refine sA Z<|sK [2,3,4,6,7,8] Z<|cS<|cB<|cd_pv (zS (b:=b20) (n:=1) (sz:=1) (E:=9) [nC from_] Z (by simp [nC]) Z<|by decide) ?_
  refine nU ?_
  simp only [lC,lN]
  refine nS (σ := (Nat×Nm)×(Value×List Nm)×List Nat) (λq=>q.2.2.map mk) (λq=>[(2,sv to),(3,.pointer (some ⟨b3,0,none⟩)),(4,.pointer (some ⟨b4,0,none⟩)),(7,.pointer (some ⟨b7,0,none⟩)),(8,q.2.1.1)]) (λq=>Res.star (marks q.2.2)::pt b4 (cl [sv q.1.2] 9)::NR q.2.1.1 q.2.1.2::pt b7 (cl [.map (some mf)] 162)::mps mf (mvG nV F)::pt b3 (cl [.slice a l.length cap,.map (some mb)] 164)::S::mps mb (bF l)::hr) (λq=>gV l to q.1.2=some q.1.1/\q.2.1.1.oneCell'=true/\q.2.1.2++(short l to q.1.1 q.1.2).drop 1=short l to k0 from_) (λq=>q.1.1) ((k0,from_),(.slice (some ⟨b20,0,none⟩) 1 1,[from_]),[]) ⟨hd0,Z,(zU l to k0 from_).symm⟩ Z ⟨Z,Z,Z,Z,Z,trivial⟩ sbq ?_
  rintro ⟨⟨j,c⟩,⟨w0v,out⟩,bs⟩ ⟨hdj,hw0,hout⟩
  simp only at hdj hw0 hout
  dsimp only
  have holen:out.length≤k0+1:=by
   have:=congrArg List.length hout
   rw [List.length_append,fM] at this
   omega
  refine cS<|cQ<|sV (vY Z ld9) ?_
  refine sM Z<|sV (oV Z Z)<|sK [2,3,4,7,8,23] Z<|cC Z (λhct=>?_)<|λhct=>?_
  ·have hct:c≠to:=Zd
   obtain ⟨j',rfl⟩:∃ j',j=j'+1:=by
    cases j with
    | zero=>exact absurd (Cv.1 hdj) hct
    | succ j'=>exact ⟨j',rfl⟩
   have hnx:=EU hdj
   have hdn:=BQ hdj
   have hjl:=rY hdj
   refine cK<|xT<|cB<|cQ (ak al40 λb9=>?_)
   refine sK [2,3,4,7,8,9] Z<|cS<|cQ<|sV (af Z kJ Z ag) ?_
   refine sV (vY Z ld9) ?_
   refine aJ Z Z Fz Z (kg Z) ?_
   rintro u h' ⟨n1,n2,rfl,rfl⟩
   refine sK [2,3,4,7,8,9,26] Z<|cB<|dK (cZ 9 1) ?_
   simp only [lC,lN]
   unfold seqv
   refine jg Z FE λyl db rec hst hpe hps hasg hbo hkn2=>?_
   refine ⟨_,Ct.perm (FM (σ := Value×List Nm) (b1:=n1) (b2:=n2) (mb:=mb) (yl:=yl) (c:=c) (λq=>pt yl (.loop rec)::pt db (.deferred<|some [])::pt b9 (cl [q.1] 40)::NR q.1 q.2::Res.star (marks bs)::pt b4 (cl [sv c] 9)::NR w0v out::pt b7 (cl [.map (some mf)] 162)::mps mf (mvG nV F)::pt b3 (cl [.slice a l.length cap,.map (some mb)] 164)::hr)
    (λk q=>q.1.oneCell'=true/\q.2=((par l c).take k).filter λp=>gV l to p == some j') (λ_ _=>False) (.slice none 0 0,[]) ⟨rfl,rfl⟩ hv hF.few ?_) ?_,?_⟩
   ·rintro k ⟨w, ns⟩ p hk ⟨hw, hns⟩
    simp only at hw hns
    obtain ⟨hkl,hke⟩:=List.getElem?_eq_some_iff.1 hk
    have hpl:=Km hF c
    have hnl:ns.length≤k:=by rw [hns]; exact Nat.le_trans (List.length_filter_le _ _) (by simp; omega)
    have htk:((par l c).take (k+1)).filter (λp=>gV l to p == some j')=ns++(if gV l to p == some j' then [p] else []):=by
     rw [List.take_succ_eq_append_getElem hkl,hke,List.filter_append,<- hns]
     congr 1
     by_cases hq:(gV l to p == some j')=true
     ·rw [if_pos hq,List.filter_cons_of_pos (by exact hq)]; rfl
     ·rw [if_neg hq,List.filter_cons_of_neg (by exact hq)]; rfl
    refine Yc.perm (qO (n:=52) (rec:=rec) (args:=[sv p]) (hf:=pt db (.deferred<|some [])::pt b9 (cl [w] 40)::NR w ns::Res.star (marks bs)::pt b4 (cl [sv c] 9)::NR w0v out::pt b7 (cl [.map (some mf)] 162)::mps mf (mvG nV F)::pt b3 (cl [.slice a l.length cap,.map (some mb)] 164)::S::mps mb (bF l)::hr) (by rw [hps]; rfl) hkn2 (by rw [hps]; decide) ?_) (by exact (by repeat (first | exact Pm.refl | refine Pm.cons slq ?_):Pm _ _).perm)
    intro hr2 w1
    rw [hasg,hps,hbo]
    simp only [lC,lN]
    refine cR<|sA Z<|sN<|nK [4,7,9,10] Z<|ax<|lG Z slq (by first | rfl | assumption) ?_
    refine cB<|cQ<|sV (vY Z kI) ?_
    refine sM Z ?_
    cases hdp:gV l to p
    ·refine sV (gG (show (bL (mvG nV F) p).getD (.int .i64 0) = .int .i64 0 by rw [rq hFF,hdp])<|bI Z Z gQ om slq) ?_
     refine sA Z<|sK [4,7,9,10,11] Z<|cQ<|sM Z<|sV (bW Z Z)<|sM Z<|aB Z Z Z ?_
     iterate 5 refine aB rfl rfl rfl ?_
     refine sV (vP Z Z)<|sK [9,10,40] Z<|aH Z ?_
     refine cK<|xB<|dA slq (.inl ⟨Z,(w,ns),⟨hw,?_⟩,Z⟩) ?_
     ·show ns=_
      rw [htk,hdp]; simp
     ·rw [dB hst hpe]
      exact sbq
    ·rename_i m
     have hml:=rY hdp
     refine sV (gG (show (bL (mvG nV F) p).getD (.int .i64 0) = .int .i64 ((m:Int)+1) by rw [rq hFF,hdp])<|bI Z Z gQ om slq) ?_
     refine sA Z<|sK [4,7,9,10,11] Z<|cQ<|sM Z<|sV (bW Z Z)<|sM Z ?_
     rw [show decide ((0:Int)<(m:Int)+1)=true from decide_eq_true (by omega)]
     refine sG Z Z (vM Z)<|sG Z Z (vY Z kI) ?_
     refine sG Z Z (vY Z ld9) ?_
     refine sG Z Z (gG (show (bL (mvG nV F) c).getD (.int .i64 0) = .int .i64 (((j'+1:Nat):Int)+1) by rw [rq hFF,hdj])<|bI Z Z gQ om slq) ?_
     refine sG Z Z (zn Z Z Z0)<|sG Z Z (dE Z Z)<|sV (vQ Z Z)<|sK [9,10,40] Z<|cC Z (λhb=>?_)<|λhb=>?_
     ·have hb:m=j':=by
       have:(m:Int)+1=((j'+1:Nat):Int)+1 - 1:=Zf
       omega
      refine cR<|sV (vY Z fq) ?_
      refine sM Z (au (cells:=[sv p]) Z underlying40 fP Z Z Zz (ltn Z) λb43=>?_)
      refine d9 [nC p] Z Z underlying40 fP Z (by decide) (show Sel _ (NR w ns) _ from slq) (by simp [nC]) Z (λj u2 hu2=>bS<|bU<|by simpa [nC] using hu2) (by simp [nC,Value.oneCell']) (by simp; omega) (by simp; omega) (ltn Z) λw3 hw3 _=>?_
      rw [show ns.map nC++[nC p]=(ns++[p]).map nC by simp]
      refine bg Z Z yn ?_
      refine sN<|nK [] Z<|ax<|xB<|dA slq (.inl ⟨Z,(w3,ns++[p]),⟨hw3,?_⟩,Z⟩) ?_
      ·show ns++[p]=_
       rw [htk,hdp,hb]; simp
      ·rw [dB hst hpe]
       exact sbq
     ·have hb:m≠j':=λe=>by
       have:¬ (m:Int)+1=((j'+1:Nat):Int)+1 - 1:=Zf
       omega
      refine cK<|xB<|dA slq (.inl ⟨Z,(w,ns),⟨hw,?_⟩,Z⟩) ?_
      ·show ns=_
       rw [htk,hdp]; simp [hb]
      ·rw [dB hst hpe]
       exact sbq
   ·exact (by repeat (first | exact Pm.refl | refine Pm.cons slq ?_):Pm _ _).perm
   ·rintro u h' ⟨rfl,(⟨⟨w,ns⟩,⟨hw,hns⟩,rfl⟩ | ⟨_,_,hfalse,_⟩)⟩
    ·simp only at hw hns
     rw [List.take_length] at hns
     refine ⟨rec,_,slq,(by rw [hst]; simp),?_⟩
     rw [hpe]
     dsimp only
     have hnx2:ns=nexts l to j' c:=hns
     have hnl:ns.length≤1099511627776:=by rw [hns]; exact Nat.le_trans (List.length_filter_le _ _) (Km hF c)
     rw [<- hnx2] at hnx hdn
     have hsh:short l to (j'+1) c=c::short l to j' (jq ns):=by rw [short,<- hnx2]
     rw [hsh] at hout
     refine xB<|xT<|cQ<|sV (vY Z fq) ?_
     refine oF (r:=NR w ns) slq λhok=>?_
     refine aX Z Z en188 Z (Ny (iY hok) hnl hnx) ?_
     refine bg Z Z sz9 ?_
     refine sK [2,3,4,7,8] Z<|cR<|sM Z<|sV (vY Z ld9) ?_
     refine au (cells:=[sv (jq ns)]) Z underlying40 fP Z Z Zz (ltn Z) λb49=>?_
     refine d9 [nC (jq ns)] Z Z underlying40 fP Z (by decide) (show Sel _ (NR w0v out) _ from slq) (by simp [nC]) Z (λj u2 hu2=>bS<|bU<|by simpa [nC] using hu2) (by simp [nC,Value.oneCell']) (by simp; omega) (by simp; omega) (ltn Z) λw3 hw3 _=>?_
     rw [show out.map nC++[nC (jq ns)]=(out++[jq ns]).map nC by simp]
     refine sA Z<|sN<|nK [2,3,4,7,8] Z<|ax<|xB<|jv slq slq ?_
     refine ll ((j',jq ns),(w3,out++[jq ns]),db::bs) ⟨hdn.2,hw3,?_⟩ (Nat.lt_succ_self _) Z ⟨Z,Z,Z,Z,Z,trivial⟩ sbq
     show out++[jq ns]++(short l to j'<|jq ns).drop 1=short l to k0 from_
     rw [<- hout,List.append_assoc]
     congr 1
     exact (zU l to j'<|jq ns).symm
    ·exact hfalse.elim
  ·have hct:c=to:=Zd
   have hj0:j=0:=by
    have:=(Cv (l:=l)).2 hct
    rw [hdj] at this; cases this; rfl
   subst hj0
   have hout2:out=short l to k0 from_:=by rw [<- hout]; simp [short]
   have hne:out≠[]:=λe=>by
    have:=fM l to k0 from_
    rw [<- hout2,e] at this; cases this
   rw [hsr,<- hout2]
   refine aC<|xE<|xE<|xY<|xT<|cQ<|sM Z<|sA Z<|sK [6] Z<|cT (dZ (r:=NR w0v out) slq λ⟨fh,hok⟩=>?_)
   rcases VR.form hok with ⟨_,he⟩ | ⟨vb,vo,vc,he,_,_⟩
   ·exact absurd (List.map_eq_nil_iff.1 he) hne
   ·rw [List.length_map] at he
    subst he
    refine DD (bs:=bs) Z Z ⟨NR (.slice (some ⟨vb,vo,none⟩) out.length vc) out,Z,some ⟨vb,vo,none⟩,vc,Z,Z,Z⟩ sbq
end
def okB (u:UInt8):Bool:=upper u || digit u || u.toNat == 95
def D9 (r:Int):Bool:=((decide (r<65) || decide (90<r)) && (decide (r<48) || decide (57<r))) && (r != 95)
theorem Nz {u:UInt8} (h:u.toNat<128):D9 u.toNat = !okB u:=by
 unfold D9 okB upper digit
 rw [Bool.eq_iff_iff]
 simp only [Bool.and_eq_true,Bool.or_eq_true,decide_eq_true_eq,bne_iff_ne,ne_eq,Bool.not_eq_true',Bool.or_eq_false_iff,Bool.and_eq_false_iff,decide_eq_false_iff_not,beq_eq_false_iff_ne]
 omega
theorem odd_big {r:Int} (h:128≤r):D9 r=true:=by
 unfold D9
 simp only [Bool.and_eq_true,Bool.or_eq_true,decide_eq_true_eq,bne_iff_ne,ne_eq]
 omega
theorem FP {u:UInt8} (h:okB u=true):u.toNat<128:=by
 unfold okB upper digit at h
 simp only [Bool.or_eq_true,Bool.and_eq_true,decide_eq_true_eq,beq_iff_eq] at h
 omega
def ixO (s:Nm):Int:=match s.findIdx? (λu => !okB u) with | some i=>i | none => -1
theorem ixO_any (s:Nm):decide (0≤ixO s)=s.any λu => !okB u:=by
 unfold ixO
 cases h:s.findIdx? (λu => !okB u) with
 | none =>
  rw [List.findIdx?_eq_none_iff] at h
  symm
  show _=false
  rw [List.any_eq_false]
  intro x hx; rw [h x hx]; decide
 | some i =>
  show decide (0≤(i:Int))=_
  obtain ⟨hi,h1,_⟩:=List.findIdx?_eq_some_iff_getElem.1 h
  rw [List.any_eq_true.2 ⟨s[i],List.getElem_mem hi,h1⟩]
  exact decide_eq_true<|by omega
section
theorem NA (r:Int):Reads prog 224 #[.int .i32 r] [] (.bool (D9 r)):=by
 unfold D9
 refine aL (n:=21) func224 Z Z (len Z) λhr w0=>?_
 refine cQ<|sA Z<|sN<|nT<|cQ<|sM Z<|sV (aN Z Z)<|sM Z<|bf (k:=6) (d:=8) (v:=.bool (decide (r<65) || decide (90<r))) (λhcut=>aG (b:=decide (r<65)) false (λhg=>?_)<|λhg=>?_) ?_
 ·refine aB Z Z hg ?_
  refine aB Z Z hg ?_
  refine sV (vQ (bO Z hg) Z) ?_
  exact hcut _ uG
 ·refine sG Z (bG Z hg) (vM Z)<|sG Z (bG Z hg) (bW Z Z)<|sV (vP (bO Z hg) Z) ?_
  exact hcut _ uG
 refine sM Z<|bf (k:=14) (d:=16) (v:=.bool ((decide (r<65) || decide (90<r)) && (decide (r<48) || decide (57<r)))) (λhcut=>aG (b:=(decide (r<65) || decide (90<r))) true (λhg=>?_)<|λhg=>?_) ?_
 ·refine aB Z Z hg ?_
  iterate 2 refine aB rfl rfl hg ?_
  refine bY Z Z ?_
  refine bY Z Z ?_
  refine aB Z Z hg ?_
  refine sV (vP (bO Z hg) Z) ?_
  exact hcut _ uG
 ·refine sG Z (bG Z hg) (vM Z)<|sG Z (bG Z hg) (aN Z Z)<|sG Z (bG Z hg) (vM Z)<|bf (k:=13) (d:=15) (v:=.bool (decide (r<48) || decide (57<r))) (λhcut=>aG (b:=decide (r<48)) false (λhg1=>?_)<|λhg1=>?_) ?_
  ·refine aB Z Z hg1 ?_
   refine aB Z Z hg1 ?_
   refine sG Z (bG Z hg) (vQ (bO Z hg1) Z) ?_
   exact hcut _<|uH (by first | rfl | (rw [hg1]; rfl) | simp_all)<|uS Z<|uS Z<|uR
  ·refine sG Z (bG Z hg1) (vM Z)<|sG Z (bG Z hg1) (bW Z Z)<|sG Z (bG Z hg) (vP (bO Z hg1) Z) ?_
   exact hcut _<|uH (by first | rfl | (rw [hg1]; rfl) | simp_all)<|uS Z<|uS Z<|uR
  refine sV (vQ (bO Z hg) Z) ?_
  exact hcut _<|uH (by first | rfl | (rw [hg]; rfl) | simp_all) (by repeat (first | exact uR | refine uS Z ?_))
 refine sM Z<|bf (k:=18) (d:=20) (v:=.bool (((decide (r<65) || decide (90<r)) && (decide (r<48) || decide (57<r))) && (r != 95))) (λhcut=>aG (b:=((decide (r<65) || decide (90<r)) && (decide (r<48) || decide (57<r)))) true (λhg=>?_)<|λhg=>?_) ?_
 ·refine aB Z Z hg ?_
  refine aB Z Z hg ?_
  refine sV (vP (bO Z hg) Z) ?_
  exact hcut _ uG
 ·refine sG Z (bG Z hg) (vM Z)<|sG Z (bG Z hg) (bK Z Z)<|sV (vQ (bO Z hg) Z) ?_
  exact hcut _ uG
 refine sA Z<|sK [2] Z<|cT ?_
 exact aj Z ⟨Z,Z⟩ sbq
theorem Ea (s:Nm) (hl:s.length≤1099511627776):Reads prog 297 #[sv s,.func (.func 224) #[] #[],.bool true] [] (.int .i64 (ixO s)):=by
 refine aL (n:=21) func297 Z Z (len Z) λhr w0=>?_
 refine cQ<|sA Z<|sN<|nT<|cS<|cQ<|sM Z (KZ Z underlying9 (ltn Z) λb10=>?_)
 refine sK [1,2,6,10] Z<|cB<|aW (σ := Nat) (λi=>[(1,.func (.func 224) #[] #[]),(2,.bool true),(10,.pointer (some ⟨b10,0,none⟩))]) (λi=>pt b10 (.stringIter ⟨⟨s⟩⟩ i)::hr) (λi=>i≤s.length/\∀ (j:Nat) (y:UInt8),j<i->s[j]? = some y->okB y=true) (λi=>s.length - i) 0 ⟨Nat.zero_le _,λj y hj=>by omega⟩ ?_
 rintro i ⟨hi,hok⟩
 by_cases hlt:i<s.length
 ·have hu:=Zy hlt
  refine cQ<|Nj Z slq hlt (ltn Z) ?_
  refine sV (ah Z Z)<|sN<|nT<|cS<|aQ Z ?_
  refine cK<|xT<|cB<|cQ<|sV (ah Z Z)<|sV (ah Z Z)<|sA Z<|sA Z<|sK [1,2,7,8,10] Z<|cQ<|sM Z<|sM Z ?_
  by_cases hq:okB s[i]=true
  ·have hd:=Cg hu<|FP hq
   have hod:D9 (s[i]).toNat=false:=by rw [Nz (FP hq),hq]; rfl
   rw [hd]
   refine aX Z Z en224 Z (NA (((s[i]).toNat:Nat):Int)) ?_
   rw [hod]
   refine sM Z<|sV (lH underlying4 Z Z)<|sK [1,2,7,10,19] Z<|aH Z ?_
   refine cK<|xB<|aM (i+1) ⟨hlt,λj y hj hy=>?_⟩ (by show _ - _<_ - _; omega)
   by_cases hji:j=i
   ·subst hji; rw [hu] at hy; cases hy; exact hq
   ·exact hok j y (by omega) hy
  ·have hq : okB s[i] = false := Zu
   have hod:D9 ((Utf8.decode ⟨⟨s⟩⟩ i).1:Nat)=true:=by
    rcases Nat.lt_or_ge (s[i]).toNat 128 with h | h
    ·rw [Cg hu h]
     show D9 ((s[i]).toNat:Nat)=true
     rw [Nz h,hq]; rfl
    ·exact odd_big (by have:=K4 hu h; omega)
   refine aX Z Z en224 Z (NA (((Utf8.decode ⟨⟨s⟩⟩ i).1:Nat):Int)) ?_
   rw [hod]
   refine sM Z<|sV (lH underlying4 Z Z)<|sK [1,2,7,10,19] Z<|aQ Z ?_
   refine cQ<|sM Z<|sA Z<|sK [6] Z<|cT<|xW<|xR<|xW<|xR ?_
   rw [show ixO s=(i:Int) by
    unfold ixO
    rw [show s.findIdx? (λu => !okB u)=some i from List.findIdx?_eq_some_iff_getElem.2 ⟨hlt,by rw [hq]; rfl,λj hj=>by
     rw [hok j _ hj (Zy (Nat.lt_trans hj hlt))]; decide⟩]]
   exact aj Z ⟨Z,Z⟩ sbq
 ·refine cQ<|K3 Z slq (by omega) (ltn Z) ?_
  refine sV (ah Z Z)<|sN<|nT<|cS<|aH Z ?_
  refine aC<|xE<|xE<|xY<|xT<|cQ<|sA Z<|sK [6] Z<|cT ?_
  rw [show ixO s = -1 by
   unfold ixO
   rw [show s.findIdx? (λu => !okB u)=none from List.findIdx?_eq_none_iff.2 λx hx=>by
    obtain ⟨j,hj,rfl⟩:=List.getElem_of_mem hx
    rw [hok j _ (by omega) (Zy hj)]; rfl]]
  exact aj Z ⟨Z,Z⟩ sbq
theorem Eb (s:Nm) (hl:s.length≤1099511627776):Reads prog 270 #[sv s,.func (.func 224) #[] #[]] [] (.int .i64 (ixO s)):=by
 refine aL (n:=8) func270 Z Z (len Z) λhr w0=>?_
 refine cQ<|sA Z<|sN<|nT<|cQ<|sM Z<|sM Z<|aX Z Z en297 Z (Ea s hl) ?_
 refine sA Z<|sK [4] Z<|cT ?_
 exact aj Z ⟨Z,Z⟩ sbq
theorem yw (s:Nm) (hl:s.length≤1099511627776):Reads prog 225 #[sv s,.func (.func 224) #[] #[]] [] (.bool (s.any λu => !okB u)):=by
 refine aL (n:=9) func225 Z Z (len Z) λhr w0=>?_
 refine cQ<|sA Z<|sN<|nT<|cQ<|sM Z<|sM Z<|aX Z Z en270 Z (Eb s hl) ?_
 refine sV (qh Z Z)<|sA Z<|sK [4] Z<|cT ?_
 rw [ixO_any]
 exact aj Z ⟨Z,Z⟩ sbq
theorem Ec:reserved=[[73,78,84,69,71,69,82],[66,79,79,76,69,65,78],[65,78,89],[78,79,78,69]]:=by decide +kernel
theorem Ik (u:UInt8) (t:Nm):named (u::t)=(!((((decide (((u::t).length:Int)<1) || decide (20<((u::t).length:Int))) || ((u::t).any λu => !okB u)) || decide ((u.toNat:Int)<65)) || decide (90<(u.toNat:Int))) && !reserved.contains (u::t)):=by
 have h1:((u::t).any λu => !okB u) = !((u::t).all λb=>upper b || digit b || b.toNat == 95):=by
  rw [List.any_eq_not_all_not]
  congr 2
  funext x
  simp [okB]
 rw [h1]
 unfold named upper
 rw [Bool.eq_iff_iff]
 simp only [Bool.and_eq_true,Bool.or_eq_true,decide_eq_true_eq,Bool.not_eq_true',Bool.or_eq_false_iff,decide_eq_false_iff_not,Bool.not_eq_false',List.length_cons]
 constructor
 ·rintro ⟨⟨⟨a1,a2⟩,a3⟩,a4⟩
  exact ⟨⟨⟨⟨⟨by omega,by omega⟩,a3⟩,by omega⟩,by omega⟩,a4⟩
 ·rintro ⟨⟨⟨⟨⟨_,a1⟩,a3⟩,a5⟩,a6⟩,a4⟩
  exact ⟨⟨⟨by omega,by omega,by omega⟩,a3⟩,a4⟩
theorem lU (s:Nm):Reads prog 139 #[sv s] [] (.bool (named s)):=by
 cases s with
 | nil =>
  refine aL (n:=31) func139 Z Z (len Z) λhr w0=>?_
  refine cQ<|sA Z<|sN<|nT<|cQ<|sA Z<|sN<|nT<|cS<|cQ<|sM Z<|sV (DJ Z underlying9)<|sV (aN Z Z) ?_
  refine sM Z<|aB Z Z Z ?_
  iterate 2 refine aB rfl rfl rfl ?_
  refine sV (vQ Z Z)<|sM Z<|aB Z Z Z ?_
  iterate 2 refine aB rfl rfl rfl ?_
  refine sV (vQ Z Z)<|sM Z<|aB Z Z Z ?_
  iterate 2 refine aB rfl rfl rfl ?_
  refine sV (vQ Z Z)<|sM Z<|aB Z Z Z ?_
  iterate 2 refine aB rfl rfl rfl ?_
  refine sV (vQ Z Z)<|sK [0,2,26] Z<|aQ Z ?_
  refine cQ<|sA Z<|sK [2] Z<|cT<|xR ?_
  exact aj Z ⟨Z,Z⟩ sbq
 | cons u t =>
  rw [Ik]
  refine aL (n:=31) func139 Z Z (len Z) λhr w0=>?_
  refine cQ<|sA Z<|sN<|nT<|cQ<|sA Z<|sN<|nT<|cS<|cQ<|sM Z<|sV (DJ Z underlying9)<|sV (aN Z Z) ?_
  refine sM Z<|bf (k:=8) (d:=11) (v:=.bool (decide (((u::t).length:Int)<1) || decide (20<((u::t).length:Int)))) (λhcut=>aG (b:=decide (((u::t).length:Int)<1)) false (λhg=>?_)<|λhg=>?_) ?_
  ·refine aB Z Z hg ?_
   iterate 2 refine aB rfl rfl hg ?_
   refine sV (vQ (bO Z hg) Z) ?_
   exact hcut _ uG
  ·refine sG Z (bG Z hg) (vM Z)<|sG Z (bG Z hg) (DJ Z underlying9)<|sG Z (bG Z hg) (bW Z Z)<|sV (vP (bO Z hg) Z) ?_
   exact hcut _ uG
  refine sM Z<|bf (k:=13) (d:=16) (v:=.bool ((decide (((u::t).length:Int)<1) || decide (20<((u::t).length:Int))) || ((u::t).any λu => !okB u))) (λhcut=>aG (b:=decide (((u::t).length:Int)<1) || decide (20<((u::t).length:Int))) false (λhg=>?_)<|λhg=>?_) ?_
  ·refine aB Z Z hg ?_
   iterate 2 refine aB rfl rfl hg ?_
   refine sV (vQ (bO Z hg) Z) ?_
   exact hcut _ uG
  ·refine sG Z (bG Z hg) (vM Z)<|sG Z (bG Z hg) (vM Z)<|bJ Z (bG Z hg) Z Z en225 Z (yw (u::t) (by simp only [Bool.or_eq_false_iff,decide_eq_false_iff_not] at hg; omega)) ?_
   refine sV (vP (bO Z hg) Z) ?_
   exact hcut _ uG
  refine sM Z<|bf (k:=18) (d:=21) (v:=.bool (((decide (((u::t).length:Int)<1) || decide (20<((u::t).length:Int))) || ((u::t).any λu => !okB u)) || decide ((u.toNat:Int)<65))) (λhcut=>aG (b:=(decide (((u::t).length:Int)<1) || decide (20<((u::t).length:Int))) || ((u::t).any λu => !okB u)) false (λhg=>?_)<|λhg=>?_) ?_
  ·refine aB Z Z hg ?_
   iterate 2 refine aB rfl rfl hg ?_
   refine sV (vQ (bO Z hg) Z) ?_
   exact hcut _ uG
  ·refine sG Z (bG Z hg) (vM Z)<|sG Z (bG Z hg) (ve (k:=0) Z Z underlying9 Z Z)<|sG Z (bG Z hg) (aN Z Z)<|sV (vP (bO Z hg) Z) ?_
   exact hcut _ uG
  refine sM Z<|bf (k:=23) (d:=26) (v:=.bool ((((decide (((u::t).length:Int)<1) || decide (20<((u::t).length:Int))) || ((u::t).any λu => !okB u)) || decide ((u.toNat:Int)<65)) || decide (90<(u.toNat:Int)))) (λhcut=>aG (b:=((decide (((u::t).length:Int)<1) || decide (20<((u::t).length:Int))) || ((u::t).any λu => !okB u)) || decide ((u.toNat:Int)<65)) false (λhg=>?_)<|λhg=>?_) ?_
  ·refine aB Z Z hg ?_
   iterate 2 refine aB rfl rfl hg ?_
   refine sV (vQ (bO Z hg) Z) ?_
   exact hcut _ uG
  ·refine sG Z (bG Z hg) (vM Z)<|sG Z (bG Z hg) (ve (k:=0) Z Z underlying9 Z Z)<|sG Z (bG Z hg) (bW Z Z)<|sV (vP (bO Z hg) Z) ?_
   exact hcut _ uG
  refine sK [0,2,26] Z<|cC Z (λhx=>?_)<|λhx=>?_
  ·refine cQ<|sA Z<|sK [2] Z<|cT<|xR ?_
   rw [hx]
   exact aj Z ⟨Z,Z⟩ sbq
  ·refine cK<|xT<|cQ ?_
   rw [hx,Ec]
   refine au (cells:=[sv [73,78,84,69,71,69,82],sv [66,79,79,76,69,65,78],sv [65,78,89],sv [78,79,78,69]]) Z underlying40 fP Z Z Zz (ltn Z) λb27=>?_
   refine zR (zS (b:=b27) (n:=4) (sz:=1) (E:=9) (([[73,78,84,69,71,69,82],[66,79,79,76,69,65,78],[65,78,89],[78,79,78,69]]:List Nm).map nC) Z (by simp [nC]) Z<|by decide) ?_
   simp only [lC,lN]
   refine oF (r:=NR (.slice (some ⟨b27,0,none⟩) 4 4) [[73,78,84,69,71,69,82],[66,79,79,76,69,65,78],[65,78,89],[78,79,78,69]]) slq λhok=>?_
   refine sM Z<|aX Z Z D5 Z (fF (iY hok) (u::t)<|by decide) ?_
   refine sV (aZ Z)<|sA Z<|sK [2] Z<|cT ?_
   exact aj Z ⟨Z,Z⟩ sbq
end
theorem Ed : ∀ (xs o : List Nm), o.Nodup -> (dd o xs).length ≤ o.length + xs.length /\ ((dd o xs).length < o.length + xs.length ↔ ¬ (o ++ xs).Nodup)
 | [],o,ho=>by simp [dd,ho]
 | x::t,o,ho=>by
  show (dd (step o x) t).length≤_/\((dd (step o x) t).length<_↔_)
  by_cases hx:x∈o
  ·rw [lF hx]
   have:=(Ed t o ho).1
   rw [List.length_cons]
   refine ⟨by omega,λ_ hn=>?_,λ_=>by omega⟩
   exact (List.nodup_append.1 hn).2.2 x hx x (by simp) Z
  ·rw [nO hx]
   have hn:(o++[x]).Nodup:=List.nodup_append.2 ⟨ho,by simp,λa ha b hb e=>by simp at hb; exact hx (hb ▸ e ▸ ha)⟩
   have:=Ed t (o++[x]) hn
   rw [List.length_append,List.length_singleton,List.append_assoc] at this
   rw [List.length_cons]
   simp only [lC,lN] at this
   rw [show o.length+(t.length+1)=o.length+1+t.length by omega]
   exact this
def twM (xs:List Nm):List (Nm×Unit):=xs.foldl (λF x=>fV F x ()) []
theorem tw_keys (xs:List Nm):(twM xs).map (·.1)=dd [] xs:=by
 have key:∀ (xs:List Nm) (F:List (Nm×Unit)),(xs.foldl (λF x=>fV F x ()) F).map (·.1)=dd (F.map (·.1)) xs:=by
  intro xs
  induction xs with
  | nil=>intro F; rfl
  | cons x t ih =>
   intro F
   rw [List.foldl_cons,ih]
   show dd _ t=dd (step _ x) t
   congr 1
   cases h:dY F x with
   | none=>rw [E5 h,nO (zg.1 h),List.map_append]; rfl
   | some u=>rw [BZ h,lF (KW h)]
 exact key xs []
theorem tw_less (xs:List Nm):decide (((twM xs).length:Int)<xs.length) = !decide xs.Nodup:=by
 have h1:(twM xs).length=(dd [] xs).length:=by rw [<- tw_keys,List.length_map]
 have h2:=Ed xs [] List.nodup_nil
 rw [h1]
 simp only [List.length_nil,Nat.zero_add,List.nil_append] at h2
 rw [Bool.eq_iff_iff,decide_eq_true_eq,Bool.not_eq_true',decide_eq_false_iff_not,<- h2.2]
 omega
theorem tw_take {xs:List Nm} {i:Nat} (h:i<xs.length):twM (xs.take (i+1))=fV (twM (xs.take i)) xs[i] ():=by
 unfold twM
 rw [List.take_succ_eq_append_getElem h,List.foldl_append]; rfl
def tV (_:Unit):Value:=.bool true
theorem mvG_len {α : Type} (g : α -> Value) (F:List (Nm × α)):(mvG g F).length=F.length:=by simp [mvG]
section
variable {S:Res} {v:Value}
theorem NB (p:Nm) (a b c d e:Value) (h1:[sv p,a,b,c,d,e].all Value.oneCell'=true):Reads prog 141 #[.agg #[sv p,a,b,c,d,e]] [] (sv p):=by
 refine aL (n:=5) func141 Z Z (len Z) λhr w0=>?_
 refine cQ (aP Z Z λb1=>?_)
 refine sA Z<|sK [1,2] Z<|cQ<|sV (vF Z gN Z)<|sV (vY Z ld9) ?_
 refine sA Z<|sK [2] Z<|cT ?_
 exact aj Z ⟨Z,Z⟩ sbq
theorem K7 {ps:List Nm} (hP:Row S 6 parC v ps) (hl:ps.length≤1099511627776):Reads prog 140 #[v,.func (.func 141) #[] #[]] [S] (.bool (!decide ps.Nodup)):=by
 obtain ⟨a,cap,rfl,_⟩:=id hP
 refine aL (n:=25) func140 Z Z (len Z) λhr w0=>?_
 refine cQ<|sA Z<|sN<|nT<|cQ (eO (ltn Z) λb8=>?_)
 refine sA Z<|sK [0,1,4,5] Z<|cS<|cQ<|sM Z<|sV (aF Z underlying39)<|sM Z<|sN<|nT<|cB ?_
 rw [show ([]:List (Bs×Value))=mvG tV (twM<|ps.take 0) from rfl]
 refine aW (σ := Nat) (λi=>[(0,.slice a ps.length cap),(1,.func (.func 141) #[] #[]),(5,.map (some b8)),(9,.slice a ps.length cap),(10,.int .i64 ps.length),(11,.int .i64 (i:Nat))]) (λi=>mps b8 (mvG tV<|twM<|ps.take i)::S::hr) (λi=>i≤ps.length) (λi=>ps.length - i) 0 (Nat.zero_le _) ?_
 intro i hi
 refine cQ<|sV (aN Z Z)<|sN<|nT<|cS<|cC Z (λhd=>?_)<|λhd=>?_
 ·have hlt:i<ps.length:=Zx
  obtain ⟨b,o,cap2,c1,c2,c3,c4,c5,hv2,hrd,hone⟩:=Ij hP<|Zy hlt
  refine cK<|xT<|cS<|cB<|cQ<|sV (vI (k:=i) (congrArg some hv2) Z oW Z hlt Z)<|sV (af Z qD Z hrd) ?_
  refine ak vG λb7=>?_
  refine ai Z Z sH Z hone ?_
  refine sK [0,1,5,7,9,10,11] Z<|cR<|sM Z<|sM Z<|sV (af Z qD Z ag) ?_
  refine aX Z Z en141 Z (NB ps[i] c1 c2 c3 c4 c5 hone) ?_
  refine cO Z Z Z xK slq ?_
  refine sN<|nK [0,1,5,9,10,11] Z<|ax<|xB<|xT<|cR<|sV (aI Z Z Z0)<|sM Z<|sN<|nK [0,1,5,9,10,11] Z<|ax ?_
  rw [show eG (mvG tV<|twM<|ps.take i) ps[i] (.bool true)=mvG tV (twM<|ps.take (i+1)) by rw [tw_take hlt]; exact oI tV _ _ ()]
  refine aM (i+1) hlt (by show _ - _<_ - _; omega)
 ·have hil:i=ps.length:=by
   have:¬ i<ps.length:=Zx
   omega
  subst hil
  rw [List.take_length]
  refine aC<|xE<|xE<|xY<|xT<|cQ<|sM Z<|sV (v_mlen Z underlying265 slq) ?_
  refine sM Z<|sV (aF Z underlying39)<|sV (aN Z Z)<|sA Z<|sK [4] Z<|cT ?_
  rw [mvG_len,tw_less]
  exact aj Z ⟨Z,Z⟩ sbq
end
end Go.Hr
