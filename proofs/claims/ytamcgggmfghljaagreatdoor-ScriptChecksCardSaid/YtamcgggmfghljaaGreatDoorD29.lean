/- Layers 7, 9: what the lexer and the parser can yield. No program in sight. -/
import Derived.Test.YtamcgggmfghljaaGreatDoorD23
set_option maxRecDepth 100000
set_option maxHeartbeats 8000000
open Go.Proofs.Tryz
namespace Go.Proofs.YtamcgggmfghljaaGreatDoor
open Go.RowKit
inductive TokOk:Tok→Prop where
 | num (v:Int) (i:Int) (h:0≤v):TokOk ⟨1,v,[],z4,i⟩
 | text (x:zaa) (i:Int) (h:txtE x=0):TokOk ⟨2,0,x,z4,i⟩
 | bool (v:Int) (i:Int) (h:v=0∨v=1):TokOk ⟨3,v,[],z4,i⟩
 | err (v:Int) (i:Int) (h1:1≤v) (h2:v≤5):TokOk ⟨4,v,[],z4,i⟩
 | ref (r:Rct) (i:Int) (h1:rctB r=true) (h2:zfb r=true):TokOk ⟨5,0,[],r,i⟩
 | range (r:Rct) (i:Int) (h1:rctB r=true) (h2:zfb r=false):TokOk ⟨6,0,[],r,i⟩
 | name (x:zaa) (i:Int):TokOk ⟨7,0,x,z4,i⟩
 | op (v:Int) (i:Int) (h1:1≤v) (h2:v≤13):TokOk ⟨8,v,[],z4,i⟩
 | sign (k:Int) (i:Int) (h:9≤k):TokOk ⟨k,0,[],z4,i⟩
inductive NodOk:Nod→Prop where
 | num (v:Int) (h:0≤v):NodOk { nod0 1 with vk:=1,vn:=v }
 | text (x:zaa) (h:txtE x=0):NodOk { nod0 1 with vk:=3,vt:=x }
 | bool (v:Int) (h:v=0∨v=1):NodOk { nod0 1 with vk:=2,vn:=v }
 | err (v:Int) (h1:1≤v) (h2:v≤5):NodOk { nod0 1 with vk:=4,vn:=v }
 | ref (r:Rct) (h1:rctB r=true) (h2:zfb r=true):NodOk { nod0 2 with rect:=r }
 | range (r:Rct) (h1:rctB r=true) (h2:zfb r=false):NodOk { nod0 3 with rect:=r }
 | neg:NodOk (nod0 4)
 | pct:NodOk (nod0 5)
 | binary (v:Int) (h1:1≤v) (h2:v≤12):NodOk { nod0 6 with op:=v }
 | call (fn n:Nat) (h1:1≤fn) (h2:fn≤50) (h3:(zam fn).1≤n) (h4:(n:Int)≤(zam fn).2.1):NodOk { nod0 7 with fn:=fn,n:=n }
theorem zpf {s:zaa} (h:negB s=false):0≤(zbc s).1:=by
 unfold zbc
 split
 ·simp
 split
 ·simp
 split
 ·simp
 rw [if_neg (by rw [h];simp)]
 simp
theorem znl (x:zaa) (h:pltB x=true):prB x=true:=by
 unfold pltB at h
 unfold prB
 simpa using h
theorem zja (p:UInt8→Bool):∀(n:Nat) (s o:zaa),s.length≤n→s.all p=true→unqL s=some o→o.all p=true
 | _,[],o,_,_,h=>by simp [unqL] at h;subst h;rfl
 | n+1,[c],o,hn,hs,h=>by
  unfold unqL at h
  split at h
  ·cases h
  cases h;exact hs
 | n+1,c::d::t,o,hn,hs,h=>by
  unfold unqL at h
  rw [List.all_cons,List.all_cons,Bool.and_eq_true,Bool.and_eq_true] at hs
  split at h
  ·split at h
   ·obtain ⟨o2,h2,rfl⟩:=Option.map_eq_some_iff.1 h
    have:=zja p n t o2 (by simp at hn;omega) hs.2.2 h2
    rw [List.all_cons,Bool.and_eq_true]
    rename_i hc _
    subst hc
    exact ⟨hs.1,this⟩
   cases h
  obtain ⟨o2,h2,rfl⟩:=Option.map_eq_some_iff.1 h
  have:=zja p n (d::t) o2 (by simp at hn ⊢;omega) (by rw [List.all_cons,Bool.and_eq_true];exact hs.2) h2
  rw [List.all_cons,Bool.and_eq_true]
  exact ⟨hs.1,this⟩
theorem zxm {s:zaa} (h:(unqB s).2=0):txtE (unqB s).1=0:=by
 unfold unqB at h ⊢
 split
 ·rename_i hc;rw [if_pos hc] at h;simp at h
 rename_i hc
 rw [if_neg hc] at h
 split
 ·rename_i hx;rw [hx] at h;simp at h
 rename_i o hx
 rw [hx] at h
 simp only at h ⊢
 split
 ·rename_i hl;rw [if_pos hl] at h;simp at h
 rename_i hl
 unfold txtE
 rw [if_neg hl,if_pos]
 refine znl _ (zja _ _ _ _ (Nat.le_refl _) ?_ hx)
 have hp:pltB s=true:=by
  rw [not_or,not_or,not_or] at hc
  simpa using hc.2.2.2
 unfold pltB at hp
 rw [List.all_eq_true] at hp ⊢
 intro c hcm
 exact hp c (List.mem_of_mem_drop (List.mem_of_mem_take hcm))
theorem zm2 {s:zaa} (h:(parA s).2=0):za1 (parA s).1.col (parA s).1.row=true:=by
 unfold parA at h ⊢
 split
 ·rename_i hc;rw [if_pos hc] at h;simp at h
 rename_i hc
 rw [if_neg hc] at h
 split
 ·assumption
 rename_i hv;rw [if_neg hv] at h;simp at h
theorem rct_of {c1 r1 c2 r2:Int} (h:1≤c1∧c1≤c2∧c2≤1024∧1≤r1∧r1≤r2∧r2≤1024):rctB ⟨c1,r1,c2,r2⟩=true:=by
 simp only [rctB,za1,Bool.and_eq_true,decide_eq_true_eq]
 omega
theorem zsh {a b:Ref} (ha:za1 a.col a.row=true) (hb:za1 b.col b.row=true):rctB (zlk a b)=true:=by
 simp only [za1,Bool.and_eq_true,decide_eq_true_eq] at ha hb
 exact rct_of (by omega)
theorem znx (a b:Ref):zfb (zlk a b)=decide (a=b):=by
 obtain ⟨a1,a2⟩:=a
 obtain ⟨b1,b2⟩:=b
 have e1:min a1 b1=max a1 b1↔a1=b1:=by omega
 have e2:min a2 b2=max a2 b2↔a2=b2:=by omega
 show (decide (min a1 b1=max a1 b1)&&decide (min a2 b2=max a2 b2))=_
 rw [show decide (min a1 b1=max a1 b1)=decide (a1=b1) from decide_eq_decide.2 e1,show decide (min a2 b2=max a2 b2)=decide (a2=b2) from decide_eq_decide.2 e2,Bool.eq_iff_iff]
 simp only [Bool.and_eq_true,decide_eq_true_eq,Ref.mk.injEq]
theorem zyv (s:zaa) (i n:Nat) (h:lenB digB s i≠0) (hn:0<n):negB ((s.drop i).take n)=false:=by
 unfold lenB at h
 unfold negB
 cases hd:s.drop i with
 | nil=>rw [hd] at h;simp at h
 | cons c t=>
  rw [hd] at h
  obtain ⟨n,rfl⟩:∃m,n=m+1:=⟨n-1,by omega⟩
  rw [List.take_succ_cons,List.head?_cons]
  have hc:digB c=true:=by
   cases hq:digB c with
   | true=>rfl
   | false=>rw [List.takeWhile_cons,hq] at h;simp at h
  have:c≠45:=by
   rintro rfl
   simp [digB] at hc
  simpa using this
theorem zxx (s:zaa) (i:Nat) (h:(zck s i).2≠0):TokOk (zck s i).1:=by
 unfold zck at h ⊢
 split
 ·rename_i hp
  clear h
  unfold zao at hp ⊢
  split
  ·rename_i hc;rw [if_pos hc] at hp;simp at hp
  rename_i hc
  rw [if_neg hc] at hp
  split
  ·rename_i hc2;rw [if_pos hc2] at hp;simp at hp
  rename_i hc2
  rw [if_neg hc2] at hp
  split
  ·rename_i hc3;rw [if_pos hc3] at hp;simp at hp
  rename_i hc3
  rw [if_neg hc3] at hp
  exact TokOk.num _ _ (zpf (zyv s i _ hc hp))
 rename_i hn
 rw [if_neg hn] at h
 split
 ·rename_i hp
  clear h
  unfold zc1 at hp ⊢
  split
  ·rename_i hc;rw [if_pos hc] at hp;simp at hp
  rename_i hc
  rw [if_neg hc] at hp
  split
  ·rename_i hx;rw [hx] at hp;simp at hp
  rename_i k hx
  rw [hx] at hp
  simp only at hp ⊢
  split
  ·rename_i hc2;rw [if_pos hc2] at hp;simp at hp
  rename_i hc2
  exact TokOk.text _ _ (zxm (by simpa using hc2))
 rename_i hn2
 rw [if_neg hn2] at h
 split
 ·rename_i hp
  clear h
  unfold zbj at hp ⊢
  split
  ·rename_i hc;rw [if_pos hc] at hp;simp at hp
  rename_i hc
  rw [if_neg hc] at hp
  split
  ·exact TokOk.name _ _
  split
  ·exact TokOk.bool _ _ (.inr rfl)
  split
  ·exact TokOk.bool _ _ (.inl rfl)
  split
  ·rename_i h1 h2 h3 h4;rw [if_neg h1,if_neg h2,if_neg h3,if_pos h4] at hp;simp at hp
  rename_i h4
  have hv:=zm2 (by simpa using h4)
  split
  ·rename_i h5
   unfold twoB at h5
   simp only [Bool.and_eq_true,decide_eq_true_eq] at h5
   have hv2:=zm2 h5.1.2
   split
   ·rename_i he
    exact TokOk.ref _ _ (zsh hv hv2) (by rw [znx];simpa using he)
   rename_i he
   exact TokOk.range _ _ (zsh hv hv2) (by rw [znx];simpa using he)
  refine TokOk.ref _ _ ?_ (by simp [zfb])
  simp [rctB,hv]
 rename_i hn3
 rw [if_neg hn3] at h
 split
 ·rename_i hp
  clear h
  unfold zc6 at hp ⊢
  have:∀(l:List zaa) (c:Int),1≤c→c+l.length≤6→0<(zdd s i c l).2→TokOk (zdd s i c l).1:=by
   intro l
   induction l with
   | nil=>intro c _ _ h;simp [zdd] at h
   | cons x l ih=>
    intro c hc hl h
    unfold zdd at h ⊢
    split
    ·exact TokOk.err _ _ hc (by simp at hl;omega)
    rename_i hx
    rw [if_neg hx] at h
    exact ih (c+1) (by omega) (by simp at hl;omega) h
  exact this _ 1 (by omega) (by decide) hp
 rename_i hn4
 rw [if_neg hn4] at h
 unfold zc3 at h ⊢
 split
 ·rename_i r hr
  have:∀(l:List (zaa × Int)),(∀q∈l,1≤q.2∧q.2≤13)→opsL s i l=some r→TokOk r.1:=by
   intro l
   induction l with
   | nil=>intro _ h;simp [opsL] at h
   | cons x l ih=>
    intro hb h
    obtain ⟨x,n⟩:=x
    unfold opsL at h
    split at h
    ·cases h
     have:=hb (x,n) (by simp)
     exact TokOk.op _ _ this.1 this.2
    exact ih (fun q hq=>hb q (by simp [hq])) h
  exact this opsW (by decide) hr
 rename_i hr
 rw [hr] at h
 simp only at h
 split
 ·exact TokOk.sign 9 _ (by omega)
 split
 ·exact TokOk.sign 10 _ (by omega)
 split
 ·exact TokOk.sign 11 _ (by omega)
 rename_i h1 h2 h3
 rw [if_neg h1,if_neg h2,if_neg h3] at h
 simp at h
theorem zjd (s:zaa):∀(f i:Nat) (l:List Tok),zd1 s f i=some l→∀t∈l,TokOk t
 | 0,i,l,h=>by simp [zd1] at h
 | f+1,i,l,h=>by
  unfold zd1 at h
  split at h
  ·cases h;intro t ht;simp at ht
  split at h
  ·exact zjd s f _ l h
  split at h
  ·cases h
  rename_i hr
  obtain ⟨l2,h2,rfl⟩:=Option.map_eq_some_iff.1 h
  intro t ht
  rcases List.mem_cons.1 ht with rfl | ht
  ·exact zxx s i hr
  exact zjd s f _ l2 h2 t ht
theorem zqn (s:zaa):∀t∈(zae s).1,TokOk t:=by
 unfold zae
 split
 ·intro t h;simp at h
 split
 ·intro t h;simp at h
 split
 ·intro t h;simp at h
 rename_i l hl
 exact zjd s _ _ l hl
structure POk (st:PSt):Prop where
 toks:∀t∈st.1,TokOk t
 nods:∀n∈st.2,NodOk n
theorem POk.skip {st:PSt} (h:POk st):POk (zan st):=⟨fun t ht=>h.toks t (List.mem_of_mem_tail ht),h.nods⟩
theorem POk.put {st:PSt} {n:Nod} (h:POk st) (hn:NodOk n):POk (putS n st):=⟨h.toks,fun m hm=>by
 unfold putS at hm
 rcases List.mem_append.1 hm with hm | hm
 ·exact h.nods m hm
 simp at hm;subst hm;exact hn⟩
theorem POk.head {e:Int} {st:PSt} (h:POk st) (hk:(zak e st).kind≠0):TokOk (zak e st):=by
 have hne:=zd3 hk
 unfold zak at hk ⊢
 cases hl:st.1 with
 | nil=>exact absurd hl hne
 | cons t l=>rw [List.head?_cons,Option.getD_some];exact h.toks t (by rw [hl];simp)
theorem zxr {t:Tok} (h:TokOk t) (hk:t.kind=1):0≤t.num:=by cases h <;> simp_all <;> omega
theorem ztv {t:Tok} (h:TokOk t) (hk:t.kind=2):txtE t.text=0:=by cases h <;> simp_all <;> omega
theorem ztw {t:Tok} (h:TokOk t) (hk:t.kind=3):t.num=0∨t.num=1:=by cases h <;> simp_all <;> omega
theorem zqq {t:Tok} (h:TokOk t) (hk:t.kind=4):1≤t.num∧t.num≤5:=by cases h <;> simp_all <;> omega
theorem zqp {t:Tok} (h:TokOk t) (hk:t.kind=5):rctB t.rect=true∧zfb t.rect=true:=by cases h <;> simp_all <;> omega
theorem zkp {t:Tok} (h:TokOk t) (hk:t.kind=6):rctB t.rect=true∧zfb t.rect=false:=by cases h <;> simp_all <;> omega
def stgOk:Stg→Prop
 | .level k=>k≤4
 | .loop k=>1≤k∧k≤4
 | .args _ fn _=>1≤fn∧fn≤50
 | _=>True
theorem zwq {op:Int} {k:Nat} (h:zbt op=k) (h1:1≤k) (h4:k≤4):1≤op∧op≤12:=by
 unfold zbt at h
 repeat' split at h
 all_goals omega
theorem zw8 (s:zaa) (h:fnOf s≠0):1≤fnOf s∧fnOf s≤50:=by
 unfold fnOf at h ⊢
 split
 ·rename_i hc
  have:=List.idxOf_lt_length_of_mem (l:=zbh) (a:=s) (by simpa using hc)
  have e:zbh.length=50:=rfl
  omega
 rename_i hc;rw [if_neg hc] at h;simp at h
theorem zob {e:Int} {name:Tok} {fn n:Nat} {st st':PSt} (h1:1≤fn) (h2:fn≤50) (hp:POk st) (h:zd5 e name fn n st=.ok st'):POk st':=by
 unfold zd5 at h
 split at h
 ·cases h
 split at h
 ·cases h
 rename_i ha
 split at h
 ·cases h
 cases h
 exact hp.skip.put (NodOk.call fn n h1 h2 (by omega) (by omega))
theorem zm1 {e k:Int} {st st':PSt} (hp:POk st) (h:zd6 e k st=.ok st'):POk st':=by
 unfold zd6 at h
 split at h
 ·cases h
 cases h;exact hp.skip
theorem zcz (e:Int):∀(f:Nat) (g:Stg) (st st':PSt),stgOk g→(∀k,g=.level k→1≤k)→POk st→parS e f g st=.ok st'→POk st'
 | 0,g,st,st',_,_,_,h=>by cases g <;> simp [parS] at h
 | f+1,.level k,st,st',hg,hk1,hp,h=>by
  unfold parS at h
  obtain ⟨s1,h1,h2⟩:=zat h
  have k1:=hk1 k rfl
  have hk4:k≤4:=hg
  refine zcz e f (.loop k) s1 st' ⟨k1,hk4⟩ (fun _ e=>by cases e) (zcz e f _ st s1 ?_ ?_ hp h1) h2
  ·split
   ·show k+1≤4;omega
   trivial
  intro k' e
  split at e
  ·cases e;omega
  cases e
 | f+1,.loop k,st,st',hg,_,hp,h=>by
  unfold parS at h
  split at h
  ·cases h;exact hp
  rename_i hc
  rw [not_or,Classical.not_not,Classical.not_not] at hc
  obtain ⟨s1,h1,h2⟩:=zat h
  have hb:=zwq hc.2 hg.1 hg.2
  refine zcz e f (.loop k) _ st' hg (fun _ e=>by cases e) ((zcz e f _ _ s1 ?_ ?_ hp.skip h1).put (NodOk.binary _ hb.1 hb.2)) h2
  ·split
   ·show k+1≤4;omega
   trivial
  intro k' e
  split at e
  ·cases e;omega
  cases e
 | f+1,.sign,st,st',_,_,hp,h=>by
  unfold parS at h
  split at h
  ·obtain ⟨s1,h1,h2⟩:=zat h
   cases h2
   exact (zcz e f .sign _ _ trivial (fun _ e=>by cases e) hp.skip h1).put NodOk.neg
  obtain ⟨s1,h1,h2⟩:=zat h
  have a:=zcz e f .pct _ _ trivial (fun _ e=>by cases e) hp h1
  split at h2
  ·obtain ⟨s2,h3,h4⟩:=zat h2
   cases h4
   exact (zcz e f .sign _ _ trivial (fun _ e=>by cases e) a.skip h3).put (NodOk.binary 5 (by omega) (by omega))
  cases h2;exact a
 | f+1,.pct,st,st',_,_,hp,h=>by
  unfold parS at h
  obtain ⟨s1,h1,h2⟩:=zat h
  exact zcz e f .pctl _ _ trivial (fun _ e=>by cases e) (zcz e f .prim _ _ trivial (fun _ e=>by cases e) hp h1) h2
 | f+1,.pctl,st,st',_,_,hp,h=>by
  unfold parS at h
  split at h
  ·exact zcz e f .pctl _ _ trivial (fun _ e=>by cases e) (hp.skip.put NodOk.pct) h
  cases h;exact hp
 | f+1,.prim,st,st',_,_,hp,h=>by
  unfold parS at h
  simp only at h
  split at h
  ·rename_i hk
   cases h;exact hp.skip.put (NodOk.num _ (zxr (hp.head (by omega)) hk))
  split at h
  ·rename_i hk
   cases h;exact hp.skip.put (NodOk.text _ (ztv (hp.head (by omega)) hk))
  split at h
  ·rename_i hk
   cases h;exact hp.skip.put (NodOk.bool _ (ztw (hp.head (by omega)) hk))
  split at h
  ·rename_i hk
   cases h;exact hp.skip.put (NodOk.err _ (zqq (hp.head (by omega)) hk).1 (zqq (hp.head (by omega)) hk).2)
  split at h
  ·rename_i hk
   cases h;exact hp.skip.put (NodOk.ref _ (zqp (hp.head (by omega)) hk).1 (zqp (hp.head (by omega)) hk).2)
  split at h
  ·obtain ⟨s1,h1,h2⟩:=zat h
   exact zm1 (zcz e f (.level 1) _ _ (show 1≤4 by omega) (fun k e=>by cases e;omega) hp.skip h1) h2
  split at h
  ·exact zcz e f (.call _) _ _ trivial (fun _ e=>by cases e) hp h
  cases h
 | f+1,.call name,st,st',_,_,hp,h=>by
  unfold parS at h
  split at h
  ·cases h
  rename_i hf
  have hr:=zw8 _ hf
  obtain ⟨s1,h1,h2⟩:=zat h
  have a:=zm1 hp.skip h1
  split at h2
  ·exact zob hr.1 hr.2 a h2
  exact zcz e f (.args _ _ _) _ _ hr (fun _ e=>by cases e) a h2
 | f+1,.args name fn n,st,st',hg,_,hp,h=>by
  unfold parS at h
  obtain ⟨s1,h1,h2⟩:=zat h
  have a:=zcz e f (.arg fn n) _ _ trivial (fun _ e=>by cases e) hp h1
  split at h2
  ·exact zcz e f (.args _ _ _) _ _ (show 1≤fn∧fn≤50 from hg) (fun _ e=>by cases e) a.skip h2
  exact zob hg.1 hg.2 a h2
 | f+1,.arg fn n,st,st',_,_,hp,h=>by
  unfold parS at h
  split at h
  ·exact zcz e f (.level 1) _ _ (show 1≤4 by omega) (fun k e=>by cases e;omega) hp h
  rename_i hk
  split at h
  ·cases h
  cases h
  have hk6:(zak e st).kind=6:=by omega
  exact hp.skip.put (NodOk.range _ (zkp (hp.head (by omega)) hk6).1 (zkp (hp.head (by omega)) hk6).2)
theorem zdr (x:Nod) (w:World):(binOp .neq 297 (.agg (cNod x).toArray) (.agg (cNod x).toArray)).run prog w=.ok (.bool false) w:=by
 simp [go_sem,cNod]
def zcd (n:Nod):Prop:=∀w:World,Calls prog 308 #[.agg (cNod n).toArray] w fun u w'=>u=.returned (.int .i64 0)∧Below w.heap.size w w'
theorem zp7 (v:Int) (h:0≤v):zcd { nod0 1 with vk:=1,vn:=v }:=by
 intro w
 have hne:∀W:World,(binOp .neq 297 (.agg #[.int .u8 1,.int .u8 1,.int .i64 v,str [],.int .i64 0,.int .i64 0,.int .i64 0,.int .i64 0,.int .i64 0,.int .u8 0,.int .i64 0]) (.agg #[.int .u8 1,.int .u8 1,.int .i64 v,str [],.int .i64 0,.int .i64 0,.int .i64 0,.int .i64 0,.int .i64 0,.int .u8 0,.int .i64 0])).run prog W=.ok (.bool false) W:=fun W=>zdr { nod0 1 with vk:=1,vn:=v } W
 rw [show (cNod { nod0 1 with vk:=1,vn:=v }).toArray=#[.int .u8 1,.int .u8 1,.int .i64 v,str [],.int .i64 0,.int .i64 0,.int .i64 0,.int .i64 0,.int .i64 0,.int .u8 0,.int .i64 0] from rfl]
 go_enter func308,ntmps308
 go_wp2_with fail
 refine (zxg v _ h).mono ?_
 rintro e w1 ⟨rfl,hb1⟩
 have hz1:=hb1.size
 try simp at hz1
 have hB1:Below w.heap.size w w1:=nxt hb1
 obtain ⟨hc1_0,hl1_0,hm1_0,hn1_0,ho1_0,hf1_0⟩:=oldB (g:=w.heap.size) hb1
 obtain ⟨hc1_1,hl1_1,hm1_1,hn1_1,ho1_1,hf1_1⟩:=oldB (g:=w.heap.size+1) hb1
 go_wp2
 go_ret
 exact ⟨rfl,by go_grown⟩
theorem zmq (x:zaa) (h:txtE x=0) (hl:x.length≤1000000):zcd { nod0 1 with vk:=3,vt:=x }:=by
 intro w
 have hne:∀W:World,(binOp .neq 297 (.agg #[.int .u8 1,.int .u8 3,.int .i64 0,str x,.int .i64 0,.int .i64 0,.int .i64 0,.int .i64 0,.int .i64 0,.int .u8 0,.int .i64 0]) (.agg #[.int .u8 1,.int .u8 3,.int .i64 0,str x,.int .i64 0,.int .i64 0,.int .i64 0,.int .i64 0,.int .i64 0,.int .u8 0,.int .i64 0])).run prog W=.ok (.bool false) W:=fun W=>zdr { nod0 1 with vk:=3,vt:=x } W
 rw [show (cNod { nod0 1 with vk:=3,vt:=x }).toArray=#[.int .u8 1,.int .u8 3,.int .i64 0,str x,.int .i64 0,.int .i64 0,.int .i64 0,.int .i64 0,.int .i64 0,.int .u8 0,.int .i64 0] from rfl]
 go_enter func308,ntmps308
 go_wp2_with fail
 refine (zkk x _ h hl).mono ?_
 rintro e w1 ⟨rfl,hb1⟩
 have hz1:=hb1.size
 try simp at hz1
 have hB1:Below w.heap.size w w1:=nxt hb1
 obtain ⟨hc1_0,hl1_0,hm1_0,hn1_0,ho1_0,hf1_0⟩:=oldB (g:=w.heap.size) hb1
 obtain ⟨hc1_1,hl1_1,hm1_1,hn1_1,ho1_1,hf1_1⟩:=oldB (g:=w.heap.size+1) hb1
 go_wp2
 go_ret
 exact ⟨rfl,by go_grown⟩
theorem zms (v:Int) (h:v=0∨v=1):zcd { nod0 1 with vk:=2,vn:=v }:=by
 intro w
 have hne:∀W:World,(binOp .neq 297 (.agg #[.int .u8 1,.int .u8 2,.int .i64 v,str [],.int .i64 0,.int .i64 0,.int .i64 0,.int .i64 0,.int .i64 0,.int .u8 0,.int .i64 0]) (.agg #[.int .u8 1,.int .u8 2,.int .i64 v,str [],.int .i64 0,.int .i64 0,.int .i64 0,.int .i64 0,.int .i64 0,.int .u8 0,.int .i64 0])).run prog W=.ok (.bool false) W:=fun W=>zdr { nod0 1 with vk:=2,vn:=v } W
 rw [show (cNod { nod0 1 with vk:=2,vn:=v }).toArray=#[.int .u8 1,.int .u8 2,.int .i64 v,str [],.int .i64 0,.int .i64 0,.int .i64 0,.int .i64 0,.int .i64 0,.int .u8 0,.int .i64 0] from rfl]
 have H:=Hd h
 clear h
 go_enter func308,ntmps308
 go_wp2_with fail
 refine (ztq v _ H.out).mono ?_
 rintro e w1 ⟨rfl,hb1⟩
 have hz1:=hb1.size
 try simp at hz1
 have hB1:Below w.heap.size w w1:=nxt hb1
 obtain ⟨hc1_0,hl1_0,hm1_0,hn1_0,ho1_0,hf1_0⟩:=oldB (g:=w.heap.size) hb1
 obtain ⟨hc1_1,hl1_1,hm1_1,hn1_1,ho1_1,hf1_1⟩:=oldB (g:=w.heap.size+1) hb1
 go_wp2
 go_ret
 exact ⟨rfl,by go_grown⟩
theorem zp9 (v:Int) (h1:1≤v) (h2:v≤5):zcd { nod0 1 with vk:=4,vn:=v }:=by
 intro w
 have hne:∀W:World,(binOp .neq 297 (.agg #[.int .u8 1,.int .u8 4,.int .i64 v,str [],.int .i64 0,.int .i64 0,.int .i64 0,.int .i64 0,.int .i64 0,.int .u8 0,.int .i64 0]) (.agg #[.int .u8 1,.int .u8 4,.int .i64 v,str [],.int .i64 0,.int .i64 0,.int .i64 0,.int .i64 0,.int .i64 0,.int .u8 0,.int .i64 0])).run prog W=.ok (.bool false) W:=fun W=>zdr { nod0 1 with vk:=4,vn:=v } W
 rw [show (cNod { nod0 1 with vk:=4,vn:=v }).toArray=#[.int .u8 1,.int .u8 4,.int .i64 v,str [],.int .i64 0,.int .i64 0,.int .i64 0,.int .i64 0,.int .i64 0,.int .u8 0,.int .i64 0] from rfl]
 go_enter func308,ntmps308
 go_wp2_with fail
 refine (zqi v _ h1 (by omega)).mono ?_
 rintro e w1 ⟨rfl,hb1⟩
 have hz1:=hb1.size
 try simp at hz1
 have hB1:Below w.heap.size w w1:=nxt hb1
 obtain ⟨hc1_0,hl1_0,hm1_0,hn1_0,ho1_0,hf1_0⟩:=oldB (g:=w.heap.size) hb1
 obtain ⟨hc1_1,hl1_1,hm1_1,hn1_1,ho1_1,hf1_1⟩:=oldB (g:=w.heap.size+1) hb1
 go_wp2
 go_ret
 exact ⟨rfl,by go_grown⟩
theorem zp8:zcd (nod0 4):=by
 intro w
 have hne:∀W:World,(binOp .neq 297 (.agg #[.int .u8 4,.int .u8 0,.int .i64 0,str [],.int .i64 0,.int .i64 0,.int .i64 0,.int .i64 0,.int .i64 0,.int .u8 0,.int .i64 0]) (.agg #[.int .u8 4,.int .u8 0,.int .i64 0,str [],.int .i64 0,.int .i64 0,.int .i64 0,.int .i64 0,.int .i64 0,.int .u8 0,.int .i64 0])).run prog W=.ok (.bool false) W:=fun W=>zdr (nod0 4) W
 rw [show (cNod (nod0 4)).toArray=#[.int .u8 4,.int .u8 0,.int .i64 0,str [],.int .i64 0,.int .i64 0,.int .i64 0,.int .i64 0,.int .i64 0,.int .u8 0,.int .i64 0] from rfl]
 go_enter func308,ntmps308
 go_wp2
 go_ret
 exact ⟨rfl,by go_grown⟩
theorem zp6:zcd (nod0 5):=by
 intro w
 have hne:∀W:World,(binOp .neq 297 (.agg #[.int .u8 5,.int .u8 0,.int .i64 0,str [],.int .i64 0,.int .i64 0,.int .i64 0,.int .i64 0,.int .i64 0,.int .u8 0,.int .i64 0]) (.agg #[.int .u8 5,.int .u8 0,.int .i64 0,str [],.int .i64 0,.int .i64 0,.int .i64 0,.int .i64 0,.int .i64 0,.int .u8 0,.int .i64 0])).run prog W=.ok (.bool false) W:=fun W=>zdr (nod0 5) W
 rw [show (cNod (nod0 5)).toArray=#[.int .u8 5,.int .u8 0,.int .i64 0,str [],.int .i64 0,.int .i64 0,.int .i64 0,.int .i64 0,.int .i64 0,.int .u8 0,.int .i64 0] from rfl]
 go_enter func308,ntmps308
 go_wp2
 go_ret
 exact ⟨rfl,by go_grown⟩
theorem zj9 (v:Int) (h1:1≤v) (h2:v≤12):zcd { nod0 6 with op:=v }:=by
 intro w
 have hne:∀W:World,(binOp .neq 297 (.agg #[.int .u8 6,.int .u8 0,.int .i64 0,str [],.int .i64 0,.int .i64 0,.int .i64 0,.int .i64 0,.int .i64 v,.int .u8 0,.int .i64 0]) (.agg #[.int .u8 6,.int .u8 0,.int .i64 0,str [],.int .i64 0,.int .i64 0,.int .i64 0,.int .i64 0,.int .i64 v,.int .u8 0,.int .i64 0])).run prog W=.ok (.bool false) W:=fun W=>zdr { nod0 6 with op:=v } W
 rw [show (cNod { nod0 6 with op:=v }).toArray=#[.int .u8 6,.int .u8 0,.int .i64 0,str [],.int .i64 0,.int .i64 0,.int .i64 0,.int .i64 0,.int .i64 v,.int .u8 0,.int .i64 0] from rfl]
 go_enter func308,ntmps308
 go_wp2
 go_ret
 exact ⟨rfl,by go_grown⟩
theorem zp5 (r:Rct) (h1:rctB r=true) (e1:(r.c1==r.c2)=true) (e2:(r.r1==r.r2)=true):zcd { nod0 2 with rect:=r }:=by
 intro w
 have hne:∀W:World,(binOp .neq 297 (.agg #[.int .u8 2,.int .u8 0,.int .i64 0,str [],.int .i64 r.c1,.int .i64 r.r1,.int .i64 r.c2,.int .i64 r.r2,.int .i64 0,.int .u8 0,.int .i64 0]) (.agg #[.int .u8 2,.int .u8 0,.int .i64 0,str [],.int .i64 r.c1,.int .i64 r.r1,.int .i64 r.c2,.int .i64 r.r2,.int .i64 0,.int .u8 0,.int .i64 0])).run prog W=.ok (.bool false) W:=fun W=>zdr { nod0 2 with rect:=r } W
 rw [show (cNod { nod0 2 with rect:=r }).toArray=#[.int .u8 2,.int .u8 0,.int .i64 0,str [],.int .i64 r.c1,.int .i64 r.r1,.int .i64 r.c2,.int .i64 r.r2,.int .i64 0,.int .u8 0,.int .i64 0] from rfl]
 have HE:=Hd (show rctE ⟨r.c1,r.r1,r.c2,r.r2⟩=0 by unfold rctE;rw [if_pos h1])
 clear h1
 go_enter func308,ntmps308
 go_wp2_with fail
 refine (zc4 _ _ _ _ _).mono ?_
 rintro e w1 ⟨rfl,hb1⟩
 have hz1:=hb1.size
 try simp at hz1
 have hB1:Below w.heap.size w w1:=nxt hb1
 obtain ⟨hc1_0,hl1_0,hm1_0,hn1_0,ho1_0,hf1_0⟩:=oldB (g:=w.heap.size) hb1
 obtain ⟨hc1_1,hl1_1,hm1_1,hn1_1,ho1_1,hf1_1⟩:=oldB (g:=w.heap.size+1) hb1
 rw [HE.out]
 go_wp2
 go_ret
 exact ⟨rfl,by go_grown⟩
theorem zj8 (r:Rct) (h1:rctB r=true) (e1:(r.c1==r.c2)=false):zcd { nod0 3 with rect:=r }:=by
 intro w
 have hne:∀W:World,(binOp .neq 297 (.agg #[.int .u8 3,.int .u8 0,.int .i64 0,str [],.int .i64 r.c1,.int .i64 r.r1,.int .i64 r.c2,.int .i64 r.r2,.int .i64 0,.int .u8 0,.int .i64 0]) (.agg #[.int .u8 3,.int .u8 0,.int .i64 0,str [],.int .i64 r.c1,.int .i64 r.r1,.int .i64 r.c2,.int .i64 r.r2,.int .i64 0,.int .u8 0,.int .i64 0])).run prog W=.ok (.bool false) W:=fun W=>zdr { nod0 3 with rect:=r } W
 rw [show (cNod { nod0 3 with rect:=r }).toArray=#[.int .u8 3,.int .u8 0,.int .i64 0,str [],.int .i64 r.c1,.int .i64 r.r1,.int .i64 r.c2,.int .i64 r.r2,.int .i64 0,.int .u8 0,.int .i64 0] from rfl]
 have HE:=Hd (show rctE ⟨r.c1,r.r1,r.c2,r.r2⟩=0 by unfold rctE;rw [if_pos h1])
 clear h1
 go_enter func308,ntmps308
 go_wp2_with fail
 refine (zc4 _ _ _ _ _).mono ?_
 rintro e w1 ⟨rfl,hb1⟩
 have hz1:=hb1.size
 try simp at hz1
 have hB1:Below w.heap.size w w1:=nxt hb1
 obtain ⟨hc1_0,hl1_0,hm1_0,hn1_0,ho1_0,hf1_0⟩:=oldB (g:=w.heap.size) hb1
 obtain ⟨hc1_1,hl1_1,hm1_1,hn1_1,ho1_1,hf1_1⟩:=oldB (g:=w.heap.size+1) hb1
 rw [HE.out]
 go_wp2
 go_ret
 exact ⟨rfl,by go_grown⟩
theorem zj7 (r:Rct) (h1:rctB r=true) (e1:(r.c1==r.c2)=true) (e2:(r.r1==r.r2)=false):zcd { nod0 3 with rect:=r }:=by
 intro w
 have hne:∀W:World,(binOp .neq 297 (.agg #[.int .u8 3,.int .u8 0,.int .i64 0,str [],.int .i64 r.c1,.int .i64 r.r1,.int .i64 r.c2,.int .i64 r.r2,.int .i64 0,.int .u8 0,.int .i64 0]) (.agg #[.int .u8 3,.int .u8 0,.int .i64 0,str [],.int .i64 r.c1,.int .i64 r.r1,.int .i64 r.c2,.int .i64 r.r2,.int .i64 0,.int .u8 0,.int .i64 0])).run prog W=.ok (.bool false) W:=fun W=>zdr { nod0 3 with rect:=r } W
 rw [show (cNod { nod0 3 with rect:=r }).toArray=#[.int .u8 3,.int .u8 0,.int .i64 0,str [],.int .i64 r.c1,.int .i64 r.r1,.int .i64 r.c2,.int .i64 r.r2,.int .i64 0,.int .u8 0,.int .i64 0] from rfl]
 have HE:=Hd (show rctE ⟨r.c1,r.r1,r.c2,r.r2⟩=0 by unfold rctE;rw [if_pos h1])
 clear h1
 go_enter func308,ntmps308
 go_wp2_with fail
 refine (zc4 _ _ _ _ _).mono ?_
 rintro e w1 ⟨rfl,hb1⟩
 have hz1:=hb1.size
 try simp at hz1
 have hB1:Below w.heap.size w w1:=nxt hb1
 obtain ⟨hc1_0,hl1_0,hm1_0,hn1_0,ho1_0,hf1_0⟩:=oldB (g:=w.heap.size) hb1
 obtain ⟨hc1_1,hl1_1,hm1_1,hn1_1,ho1_1,hf1_1⟩:=oldB (g:=w.heap.size+1) hb1
 rw [HE.out]
 go_wp2
 go_ret
 exact ⟨rfl,by go_grown⟩
theorem zmr (fn n:Nat) (h1:1≤fn) (h2:fn≤50) (h3:(zam fn).1≤n) (h4:(n:Int)≤(zam fn).2.1):zcd { nod0 7 with fn:=fn,n:=n }:=by
 intro w
 have hne:∀W:World,(binOp .neq 297 (.agg #[.int .u8 7,.int .u8 0,.int .i64 0,str [],.int .i64 0,.int .i64 0,.int .i64 0,.int .i64 0,.int .i64 0,.int .u8 fn,.int .i64 n]) (.agg #[.int .u8 7,.int .u8 0,.int .i64 0,str [],.int .i64 0,.int .i64 0,.int .i64 0,.int .i64 0,.int .i64 0,.int .u8 fn,.int .i64 n])).run prog W=.ok (.bool false) W:=fun W=>zdr { nod0 7 with fn:=fn,n:=n } W
 rw [show (cNod { nod0 7 with fn:=fn,n:=n }).toArray=#[.int .u8 7,.int .u8 0,.int .i64 0,str [],.int .i64 0,.int .i64 0,.int .i64 0,.int .i64 0,.int .i64 0,.int .u8 fn,.int .i64 n] from rfl]
 have HA:=Hd (fun W=>zey fn h1 h2 W)
 have HZ:=zg0 fn h1 h2
 rw [HZ] at HA
 clear HZ
 generalize (zam fn).1=m0 at *
 generalize (zam fn).2.1=m1 at *
 have n0:(0:Int)≤(n:Int):=by omega
 have g3:¬(n:Int)<m0:=by omega
 have g4:¬m1<(n:Int):=by omega
 go_enter func308,ntmps308
 go_wp2
 go_region
 all_goals
  go_wp2_with fail
  refine (HA.out _).mono ?_
  rintro u w2 ⟨rfl,rfl⟩
  go_wp2
  go_ret
  exact ⟨rfl,by go_grown⟩
theorem zsp (n:Nod) (h:NodOk n):zcd n:=by
 cases h with
 | num v h=>exact zp7 v h
 | text x h=>exact zmq x h (by
  unfold txtE at h
  split at h
  ·simp at h
  omega)
 | bool v h=>exact zms v h
 | err v h1 h2=>exact zp9 v h1 h2
 | ref r h1 h2=>
  unfold zfb at h2
  rw [Bool.and_eq_true,decide_eq_true_eq,decide_eq_true_eq] at h2
  exact zp5 r h1 (by simpa using h2.1) (by simpa using h2.2)
 | range r h1 h2=>
  unfold zfb at h2
  by_cases e1:r.c1=r.c2
  ·rw [decide_eq_true e1,Bool.true_and,decide_eq_false_iff_not] at h2
   exact zj7 r h1 (by simpa using e1) (by simpa using h2)
  exact zj8 r h1 (by simpa using e1)
 | neg=>exact zp8
 | pct=>exact zp6
 | binary v h1 h2=>exact zj9 v h1 h2
 | call fn n h1 h2 h3 h4=>exact zmr fn n h1 h2 h3 h4
def zb8 (n:Nod):Nat:=if n.kind=4∨n.kind=5 then 1 else if n.kind=6 then 2 else if n.kind=7 then n.n.toNat else 0
theorem zwr (n:Nod) (h:NodOk n):zh5 n=(zb8 n:Int):=by
 cases h <;> simp [zh5,zb8,nod0]
theorem ztb (n:Nod) (h:NodOk n) (w:World):Calls prog 309 #[.agg (cNod n).toArray] w fun u w'=>u=.returned (.int .i64 (zb8 n))∧Below w.heap.size w w':=by
 cases h with
 | num v h=>
  rw [show (cNod _).toArray=#[.int .u8 1,.int .u8 1,.int .i64 v,str [],.int .i64 0,.int .i64 0,.int .i64 0,.int .i64 0,.int .i64 0,.int .u8 0,.int .i64 0] from rfl]
  go_enter func309,ntmps309
  go_wp2
  go_ret
  exact ⟨rfl,by go_grown⟩
 | text x h=>
  rw [show (cNod _).toArray=#[.int .u8 1,.int .u8 3,.int .i64 0,str x,.int .i64 0,.int .i64 0,.int .i64 0,.int .i64 0,.int .i64 0,.int .u8 0,.int .i64 0] from rfl]
  go_enter func309,ntmps309
  go_wp2
  go_ret
  exact ⟨rfl,by go_grown⟩
 | bool v h=>
  rw [show (cNod _).toArray=#[.int .u8 1,.int .u8 2,.int .i64 v,str [],.int .i64 0,.int .i64 0,.int .i64 0,.int .i64 0,.int .i64 0,.int .u8 0,.int .i64 0] from rfl]
  go_enter func309,ntmps309
  go_wp2
  go_ret
  exact ⟨rfl,by go_grown⟩
 | err v h1 h2=>
  rw [show (cNod _).toArray=#[.int .u8 1,.int .u8 4,.int .i64 v,str [],.int .i64 0,.int .i64 0,.int .i64 0,.int .i64 0,.int .i64 0,.int .u8 0,.int .i64 0] from rfl]
  go_enter func309,ntmps309
  go_wp2
  go_ret
  exact ⟨rfl,by go_grown⟩
 | ref r h1 h2=>
  rw [show (cNod _).toArray=#[.int .u8 2,.int .u8 0,.int .i64 0,str [],.int .i64 r.c1,.int .i64 r.r1,.int .i64 r.c2,.int .i64 r.r2,.int .i64 0,.int .u8 0,.int .i64 0] from rfl]
  go_enter func309,ntmps309
  go_wp2
  go_ret
  exact ⟨rfl,by go_grown⟩
 | range r h1 h2=>
  rw [show (cNod _).toArray=#[.int .u8 3,.int .u8 0,.int .i64 0,str [],.int .i64 r.c1,.int .i64 r.r1,.int .i64 r.c2,.int .i64 r.r2,.int .i64 0,.int .u8 0,.int .i64 0] from rfl]
  go_enter func309,ntmps309
  go_wp2
  go_ret
  exact ⟨rfl,by go_grown⟩
 | neg=>
  rw [show (cNod _).toArray=#[.int .u8 4,.int .u8 0,.int .i64 0,str [],.int .i64 0,.int .i64 0,.int .i64 0,.int .i64 0,.int .i64 0,.int .u8 0,.int .i64 0] from rfl]
  go_enter func309,ntmps309
  go_wp2
  go_ret
  exact ⟨rfl,by go_grown⟩
 | pct=>
  rw [show (cNod _).toArray=#[.int .u8 5,.int .u8 0,.int .i64 0,str [],.int .i64 0,.int .i64 0,.int .i64 0,.int .i64 0,.int .i64 0,.int .u8 0,.int .i64 0] from rfl]
  go_enter func309,ntmps309
  go_wp2
  go_ret
  exact ⟨rfl,by go_grown⟩
 | binary v h1 h2=>
  rw [show (cNod _).toArray=#[.int .u8 6,.int .u8 0,.int .i64 0,str [],.int .i64 0,.int .i64 0,.int .i64 0,.int .i64 0,.int .i64 v,.int .u8 0,.int .i64 0] from rfl]
  go_enter func309,ntmps309
  go_wp2
  go_ret
  exact ⟨rfl,by go_grown⟩
 | call fn n h1 h2 h3 h4=>
  rw [show (cNod _).toArray=#[.int .u8 7,.int .u8 0,.int .i64 0,str [],.int .i64 0,.int .i64 0,.int .i64 0,.int .i64 0,.int .i64 0,.int .u8 fn,.int .i64 n] from rfl]
  go_enter func309,ntmps309
  go_wp2
  go_ret
  exact ⟨rfl,by go_grown⟩
theorem long_2 (s:Scp) (e r g l x o:Value) (B:Nat) (w:World) (_hB:B≤w.heap.size) (hb:RdScp w B s e r g l x o) (hr:Reach s) (P1:¬(160:Int)<(s.book.entries.length:Int)+(s.book.rules.length:Int)+(s.book.grants.length:Int)+(s.book.log.length:Int)+(s.book.releases.length:Int))(P2:(300:Int)<(s.ops.length:Int))(P3:(4096:Int)<(s.ops.length:Int))(P4:(4101:Int)<(s.ops.length:Int)):
 Calls prog 9 #[vScp s e r g l x o] w fun u w'=>u=.returned (.bool (zds s))∧Below w.heap.size w w':=by
 obtain ⟨Ae,ce,rfl,_⟩:=id hb.book.ents
 obtain ⟨Ar,cr,rfl,_⟩:=id hb.book.ruls
 obtain ⟨Ag,cg,rfl,_⟩:=id hb.book.grts
 obtain ⟨Al,cl,rfl,_⟩:=id hb.book.evts
 obtain ⟨Ax,cx,rfl,_⟩:=id hb.book.rlss
 obtain ⟨Ao,co,rfl,_⟩:=id hb.ops
 obtain ⟨q1,q2,q3,q4⟩:=zqs hr
 have HR:=Hd hr
 clear hb hr
 have P1S:=zt0 P1
 have HS:=Hd (zho (head_3 (sumS s.book) P2 P4))
 clear P1S
 have f1:((160:Int)<(s.book.entries.length:Int)+(s.book.rules.length:Int)+(s.book.grants.length:Int)+(s.book.log.length:Int)+(s.book.releases.length:Int))=False:=eq_false P1
 have f2:((300:Int)<(s.ops.length:Int))=True:=eq_true P2
 have f3:((s.ops.length:Int)≤(4096:Int))=False:=eq_false (Int.not_le.2 P3)
 have f4:((4101:Int)<(s.ops.length:Int))=True:=eq_true P4
 clear P1 P2 P3 P4
 go_enter func9,ntmps9
 go_wp2
 go_ret
 exact ⟨by rw [HS.out];rfl,by go_grown⟩
theorem long_3 (s:Scp) (e r g l x o:Value) (B:Nat) (w:World) (_hB:B≤w.heap.size) (hb:RdScp w B s e r g l x o) (hr:Reach s) (P1:¬(160:Int)<(s.book.entries.length:Int)+(s.book.rules.length:Int)+(s.book.grants.length:Int)+(s.book.log.length:Int)+(s.book.releases.length:Int))(P2:(300:Int)<(s.ops.length:Int))(P3:¬(4096:Int)<(s.ops.length:Int)):
 Calls prog 9 #[vScp s e r g l x o] w fun u w'=>u=.returned (.bool (zds s))∧Below w.heap.size w w':=by
 obtain ⟨Ae,ce,rfl,_⟩:=id hb.book.ents
 obtain ⟨Ar,cr,rfl,_⟩:=id hb.book.ruls
 obtain ⟨Ag,cg,rfl,_⟩:=id hb.book.grts
 obtain ⟨Al,cl,rfl,_⟩:=id hb.book.evts
 obtain ⟨Ax,cx,rfl,_⟩:=id hb.book.rlss
 obtain ⟨Ao,co,rfl,_⟩:=id hb.ops
 obtain ⟨q1,q2,q3,q4⟩:=zqs hr
 have HR:=Hd hr
 clear hb hr
 have P1S:=zt0 P1
 have HS:=Hd (zho (head_2 (sumS s.book) P2 P3))
 clear P1S
 have f1:((160:Int)<(s.book.entries.length:Int)+(s.book.rules.length:Int)+(s.book.grants.length:Int)+(s.book.log.length:Int)+(s.book.releases.length:Int))=False:=eq_false P1
 have f2:((300:Int)<(s.ops.length:Int))=True:=eq_true P2
 have f3:((s.ops.length:Int)≤(4096:Int))=True:=eq_true (Int.not_lt.1 P3)
 clear P1 P2 P3
 go_enter func9,ntmps9
 go_wp2
 go_ret
 exact ⟨by rw [HS.out];rfl,by go_grown⟩
end Go.Proofs.YtamcgggmfghljaaGreatDoor
